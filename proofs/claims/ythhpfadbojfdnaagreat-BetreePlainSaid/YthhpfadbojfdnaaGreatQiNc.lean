/- What container/heap asks of a heap, and what it does with it. Nothing of the program is named here. No condition. -/
import Derived.MapKept
import Derived.Test.YthhpfadbojfdnaaGreatQiGa
set_option linter.unusedVariables false
set_option linter.unusedSimpArgs false
set_option linter.unnecessarySimpa false

namespace Go.Fw
open Go Go.RowKit
structure F1 (P:Program) {α:Type} [Inhabited α] (lt:α→α→Bool) (x:Value) (pb:GH→List α→MH→Prop) (EV:GH→Value→α→Prop) (pu:Prop:=True):Prop where
 mono:∀ {G G' l M},Le G G'→pb G l M→pb G' l M
 F2:∀ {G l M},pb G l M→l.length≤140737488355328
 len : ∀ {G l M}, pb G l M → Inv P x "Len" [] G M (fun v G' M' => v = .int .i64 (l.length : Int) ∧ M' = M)
 less : ∀ {G l M} {i j : Nat}, pb G l M → i < l.length → j < l.length → Inv P x "Less" [.int .i64 (i : Int), .int .i64 (j : Int)] G M (fun v G' M' => v = .bool (lt (nth l i) (nth l j)) ∧ M' = M)
 swap : ∀ {G l M} {i j : Nat}, pb G l M → i < l.length → j < l.length → Inv P x "Swap" [.int .i64 (i : Int), .int .i64 (j : Int)] G M (fun v G' M' => v = .tuple #[] ∧ pb G' (iX l i j) M')
 push : pu → ∀ {G l M u a}, pb G l M → l.length < 1000000 → EV G u a → Inv P x "Push" [u] G M (fun v G' M' => v = .tuple #[] ∧ pb G' (l ++ [a]) M')
 pop : ∀ {G l M}, pb G l M → 0 < l.length → Inv P x "Pop" [] G M (fun v G' M' => EV G' v (nth l (l.length - 1)) ∧ pb G' (l.take (l.length - 1)) M')
section
variable {α:Type} [Inhabited α] {lt:α→α→Bool}
variable {f:Nat} {i:Nat} {l:List α}
theorem LU{n:Nat}(h:n≤2*i+1):iE lt f l i n=l:=by
 cases f with
 |zero=>rfl
 |succ f=>rw [iE,if_pos h]
theorem Ps{n:Nat}(h1:¬n≤2*i+1)(h2:lt (nth l (mD lt l i n)) (nth l i)=false):iE lt f l i n=l:=by
 cases f with
 |zero=>rfl
 |succ f=>rw [iE,if_neg h1,if_pos h2]
theorem ami{n:Nat}(hf:n≤i+f)(h1:¬n≤2*i+1)(h2:lt (nth l (mD lt l i n)) (nth l i)=true):iE lt f l i n=iE lt (f-1) (iX l i (mD lt l i n)) (mD lt l i n) n:=by
 cases f with
 |zero=>omega
 |succ f=>rw [iE,if_neg h1,if_neg (by simp [h2])];rfl
theorem ax1{n:Nat}(h:2*i+2<n)(h2:lt (nth l (2*i+2)) (nth l (2*i+1))=true):mD lt l i n=2*i+2:=if_pos ⟨h,h2⟩
theorem ajf{n:Nat}(h:¬2*i+2<n∨lt (nth l (2*i+2)) (nth l (2*i+1))=false):mD lt l i n=2*i+1:=if_neg (fun⟨h1,h2⟩=>h.elim (fun h=>h h1) (fun h=>by rw [h2]at h;cases h))
variable {j:Nat}
theorem aaI(h:(j-1) / 2=j∨lt (nth l j) (nth l ((j-1) / 2))=false):Ia lt f l j=l:=by
 cases f with
 |zero=>rfl
 |succ f=>rw [Ia,if_pos h]
theorem ax3(hf:j≤f)(h1:¬(j-1) / 2=j)(h2:lt (nth l j) (nth l ((j-1) / 2))=true):Ia lt f l j=Ia lt (f-1) (iX l ((j-1) / 2) j) ((j-1) / 2):=by
 cases f with
 |zero=>omega
 |succ f=>rw [Ia,if_neg (fun h=>h.elim h1 (fun h=>by rw [h2]at h;cases h))];rfl
theorem amj(h:lu lt l)(f i:Nat):iE lt f l i l.length=l:=by
 by_cases h1:l.length≤2*i+1
 ·exact LU h1
 ·have hk:=CH (lt:=lt) (l:=l) h1
  have:=h (mD lt l i l.length) aa hk.1 aa
  rw [hk.2.2.1]at this
  exact Ps h1 this
theorem aaK(h:0<l.length):(iE lt l.length (iX l 0 (l.length-1)) 0 (l.length-1)).take ((iE lt l.length (iX l 0 (l.length-1)) 0 (l.length-1)).length-1)=oE lt l∧
  nth (iE lt l.length (iX l 0 (l.length-1)) 0 (l.length-1)) ((iE lt l.length (iX l 0 (l.length-1)) 0 (l.length-1)).length-1)=nth l 0:=by
 rw [uD,dV]
 refine⟨rfl,?_⟩
 rw [AS _ _ _ _ _ (by rw [dV];omega) (bZ _),kC aa aa,if_pos rfl]
theorem Pu(j:Nat):(((j:Int)-1).tdiv 2)=(((j-1) / 2:Nat):Int):=by
 cases j with
 |zero=>rfl
 |succ j=>
  have:(((j+1:Nat):Int)-1)=(j:Int):=aa
  rw [this,NK aa]
  simp
end
abbrev Hd:=List aD×Int
def Hd.st (a:Hd):Int:=match a.1 with|[]=>0|m::_=>m.aW
def Hd.lt (a b:Hd):Bool:=decide (a.st<b.st)||(decide (a.st=b.st)&&decide (a.2<b.2))
theorem Hd.tX{a:Hd}(h:0<a.1.length):a.st=a.1[0].aW:=by
 obtain⟨l,n⟩:=a
 cases l with
 |nil=>simp at h
 |cons m l=>rfl
theorem Hd.lo:LO Hd.lt where
 asymm:=fun {a b} h=>by
  simp only [Hd.lt,kU,cm,fJ]at h
  simp only [Hd.lt,rM,wj,lR]
  omega
 trans:=fun {a b c} h1 h2=>by
  simp only [Hd.lt,rM,wj,lR]at h1 h2⊢
  omega
def HdC (G:GH) (cs:List Value) (a:Hd):Prop:=∃p c,cs=[.slice p a.1.length c,.int .i64 a.2]∧az dy G (.slice p a.1.length c) a.1∧i64 a.2
theorem HdC.mono{G G':GH}{cs a}(hl:Le G G')(h:HdC G cs a):HdC G' cs a:=by
 obtain⟨p,c,h1,h2,h3⟩:=h;exact⟨p,c,h1,h2.mono hl,h3⟩
def sj:fB Hd where
 k:=2
 w:=32
 R:=HdC
 mono:=fun hl h=>h.mono hl
 len:=fun h=>by obtain⟨p,c,h0,_⟩:=h;rw [h0];rfl
 one:=fun h u hu=>by
  obtain⟨p,c,h0,_⟩:=h
  rw [h0]at hu
  simp at hu
  rcases hu with rfl|rfl<;>rfl
theorem Xz:LO (fun a b:Int=>decide (a<b)) where
 asymm:=fun {a b} h=>by simp at h⊢;omega
 trans:=fun {a b c} h1 h2=>by simp at h1 h2⊢;omega
def mX:fB Bool where
 k:=1
 w:=1
 R:=fun _ cs b=>cs=[.bool b]
 mono:=fun _ h=>h
 len:=fun h=>by rw [h];rfl
 one:=fun h u hu=>by rw [h]at hu;simp at hu;subst hu;rfl
instance : EqE mX (fun b => [.bool b]) := ⟨fun _ _ _ h => h⟩
instance : EqE oH (fun s => [.string s.lo.b, .string s.hi.b, .bool s.bQ]) := ⟨fun _ _ _ h => h⟩
instance : EqP aG2 (fun e => [.int .i64 e.kind, .string e.val.b]) (fun e => i64 e.kind) := ⟨fun _ _ _ h => h⟩
abbrev tz:Int→Int→Bool:=fun a b=>decide (a<b)
def da (u:List Bool) (i:Int):Bool:=decide (0≤i)&&(decide (i<u.length)&&u.getD i.toNat false)
variable {i:Int} {u:List Bool}
theorem lX:da u i=true↔∃k:Nat,∃h:k<u.length,i=k∧u[k]=true:=by
 unfold da
 simp only [cm,fJ]
 constructor
 ·rintro⟨h1,h2,h3⟩
  have h4:i.toNat<u.length:=aa
  rw [fc,eY h4]at h3
  exact⟨i.toNat,h4,aa,h3⟩
 ·rintro⟨k,h,rfl,h2⟩
  refine⟨aa,aa,?_⟩
  rw [fc,qG,eY h]
  exact h2
variable {k:Nat}
theorem aq7(h:k<u.length):da u k=u[k]:=by
 unfold da
 rw [dB aa,dB aa,qG,fc,eY h]
 rfl
def de (u:List Bool):List Int:=((List.range u.length).filter fun i=> !u.getD i true).map fun i:Nat=>(i:Int)
def kp (u:List Bool):List Int:=((List.range u.length).filter fun i=>u.getD i true).map fun i:Nat=>(i:Int)
theorem tZ{i:Nat}(h:i<u.length)(d:Bool):u.getD i d=u[i]:=by rw [fc,eY h];rfl
theorem jS{a:Int} :a∈de u↔∃i:Nat,∃h:i<u.length,a=i∧u[i]=false:=by
 unfold de
 rw [cB]
 constructor
 ·rintro⟨i,hi,rfl⟩
  rw [eO,gN]at hi
  obtain⟨h1,h2⟩:=hi
  rw [tZ h1]at h2
  exact⟨i,h1,rfl,by simpa using h2⟩
 ·rintro⟨i,h,rfl,h2⟩
  exact⟨i,eO.2 ⟨gN.2 h,by rw [tZ h,h2];rfl⟩,rfl⟩
theorem ri(u:List Bool):(de u).Nodup:=by
 unfold de
 have h:List.Pairwise (fun a b:Nat=>a≠b) ((List.range u.length).filter fun i=> !u.getD i true):=Hq List.filter_sublist List.nodup_range
 exact List.Pairwise.map _ (fun a b h e=>h (by have e:(a:Int)=(b:Int):=e;omega)) h
theorem L9{α:Type}(p:α→Bool):∀(l:List α),(l.filter fun i=> !p i).length+(l.filter p).length=l.length
 |[]=>rfl
 |x::l=>by
  have:=L9 p l
  cases h:p x<;>simp [h]<;>omega
theorem qO(u:List Bool):(de u).length+(kp u).length=u.length:=by
 unfold de kp
 rw [dt,dt]
 have:=L9 (fun i=>u.getD i true) (List.range u.length)
 rw [List.length_range]at this
 exact this
def aF:List Bool→Nat
 |[]=>0
 |true::l=>aF l+1
 |false::_=>0
theorem F5:∀ {u:List Bool} {i:Nat} (h:i<u.length),u[i]=false→(∀j (hj:j<u.length),j<i→u[j]=true)→aF u=i
 |[],i,h,_,_=>by simp at h
 |true::l,0,h,h1,_=>by simp at h1
 |true::l,i+1,h,h1,h2=>by
  rw [aF,F5 (u:=l) (i:=i) (by simp at h;omega) (by simpa using h1) fun j hj wC=>by have:=h2 (j+1) (by simp;omega) aa;simpa using this]
 |false::l,0,_,_,_=>rfl
 |false::l,i+1,h,h1,h2=>by have:=h2 0 (by simp) aa;simp at this
theorem CY:∀ {u:List Bool},(∀j (hj:j<u.length),u[j]=true)→aF u=u.length
 |[],_=>rfl
 |true::l,h=>by rw [aF,CY (u:=l) fun j hj=>by have:=h (j+1) (by simp;omega);simpa using this];rfl
 |false::l,h=>by have:=h 0 (by simp);simp at this
theorem F6:∀(u:List Bool),aF u≤u.length
 |[]=>bZ _
 |true::l=>by have:=F6 l;simp [aF];omega
 |false::l=>by simp [aF]
theorem PV(h:(de u).length=0):aF u=u.length:=CY fun j hj=>by
 cases hu:u[j]with
 |true=>rfl
 |false=>
  have:=jS.2 ⟨j,hj,rfl,hu⟩
  rw [kj h]at this;cases this
theorem wE{a b:List Int}(ha:a.Nodup)(hb:b.Nodup)(h:∀x,x∈a↔x∈b):a.Perm b:=(List.perm_ext_iff_of_nodup ha hb).2 h
variable {f:List Int}
theorem Md(hH:lu tz f)(hp:f.Perm (de u))(hl:0<f.length):∃h:aF u<u.length,nth f 0=(aF u:Int)∧lu tz (oE tz f)∧(oE tz f).Perm (de (u.set (aF u) true)):=by
 obtain⟨h1,h2,h3⟩:=Et Xz hH hl
 have hm:nth f 0∈de u:=hp.mem_iff.1 (by rw [eJ hl];exact bN _)
 obtain⟨i,hi,e,hu⟩:=jS.1 hm
 have TH:aF u=i:=F5 hi hu fun j hj wC=>by
  cases huj:u[j]with
  |true=>rfl
  |false=>
   have hmj:((j:Nat):Int)∈f:=hp.mem_iff.2 (jS.2 ⟨j,hj,rfl,huj⟩)
   obtain⟨c,hc,e2⟩:=cj hmj
   have:=KB Xz hH c hc
   rw [eJ hc,e,e2]at this
   simp at this;omega
 subst TH
 refine⟨hi,e,h1,?_⟩
 have iR:(nth f 0::oE tz f).Nodup:=h2.nodup_iff.2 (hp.nodup_iff.2 (ri u))
 obtain⟨dW,Ip⟩:=nN.1 iR
 refine wE Ip (ri _) fun x=> ?_
 have hmx:x∈nth f 0::oE tz f↔x∈de u:=(h2.trans hp).mem_iff
 constructor
 ·intro hx
  obtain⟨k,hk,rfl,hku⟩:=jS.1 (hmx.1 (dk _ hx))
  have ig:aF u≠k:=fun h=>dW (by rw [e,h];exact hx)
  exact jS.2 ⟨k,by rw [cg];exact hk,rfl,by rw [qH ig];exact hku⟩
 ·intro hx
  obtain⟨k,hk,rfl,hku⟩:=jS.1 hx
  rw [cg]at hk
  have ig:aF u≠k:=fun h=>by subst h;simp at hku
  rw [qH ig]at hku
  rcases dK.1 (hmx.2 (jS.2 ⟨k,hk,rfl,hku⟩))with h|h
  ·rw [e]at h;omega
  ·exact h
theorem afQ(hH:lu tz f)(hp:f.Perm (de u))(hk:k<u.length)(hu:u[k]=true):lu tz (qM tz f (k:Int))∧(qM tz f (k:Int)).Perm (de (u.set k false)):=by
 obtain⟨h1,h2⟩:=AT Xz hH (k:Int)
 refine⟨h1,h2.trans ?_⟩
 have Xm:(k:Int)∉f:=fun h=>by
  obtain⟨j,hj,e,hju⟩:=jS.1 (hp.mem_iff.1 h)
  have:k=j:=aa
  subst this
  rw [hu]at hju;cases hju
 refine wE (nN.2 ⟨Xm,hp.nodup_iff.2 (ri u)⟩) (ri _) fun x=> ?_
 rw [dK,hp.mem_iff,jS,jS]
 constructor
 ·rintro(rfl|⟨j,hj,rfl,hju⟩)
  ·exact⟨k,by rw [cg];exact hk,rfl,by simp⟩
  ·refine⟨j,by rw [cg];exact hj,rfl,?_⟩
   rw [Hr];split
   ·rfl
   ·exact hju
 ·rintro⟨j,hj,rfl,hju⟩
  rw [cg]at hj
  by_cases e:k=j
  ·left;omega
  ·rw [qH e]at hju
   exact .inr ⟨j,hj,rfl,hju⟩
def dN (n:Nat):List Int:=(List.range n).map fun i:Nat=>(i:Int)
theorem AU(n:Nat):dN (n+1)=dN n++[(n:Int)]:=by simp [dN,uz]
theorem lc(n:Nat):(dN n).length=n:=by simp [dN]
theorem oI(n:Nat):lu tz (dN n):=fun c h0 hc _=>by
 rw [lc]at hc
 have h1:nth (dN n) c=(c:Int):=by rw [eJ (by rw [lc];exact hc)];simp [dN]
 have h2:nth (dN n) ((c-1) / 2)=(((c-1) / 2:Nat):Int):=by rw [eJ (by rw [lc];omega)];simp [dN]
 rw [h1,h2]
 simp only [lR]
 omega
theorem AV(n:Nat):dN n=de (List.replicate n false):=by
 unfold dN de
 rw [wq]
 congr 1
 symm
 rw [rF]
 intro i hi
 rw [gN]at hi
 rw [tZ (by simpa using hi)]
 simp
def ff {α:Type} (st:List α×List Bool) (x:α):(Int×Int)×(List α×List Bool):=
 if aF st.2<st.2.length then((aF st.2,0),(st.1.set (aF st.2) x,st.2.set (aF st.2) true))else((0,4),st)
def xm {α:Type} (st:List α×List Bool) (i:Int) (z:α):Int×(List α×List Bool):=if da st.2 i=true then(0,(st.1.set i.toNat z,st.2.set i.toNat false))else(8,st)
def xn {α:Type} (st:List α×List Bool) (i:Int) (x:α):Int×(List α×List Bool):=if da st.2 i=true then(0,(st.1.set i.toNat x,st.2))else(8,st)
def BW {α:Type} (st:List α×List Bool) (i:Int) (z:α):α:=if da st.2 i=true then st.1.getD i.toNat z else z
def E9 {α:Type} (e:fB α) (Te TB TI Tb:TypeId) (b:Nat) (G:GH) (st:List α×List Bool×List Int) (M:MH):Prop:=
 ∃vc vu vf Mc Mu Mf,M=(b,.cells (List.toArray [vc,vu,vf]) Tb (0,0))::(Mc++(Mu++Mf))∧aE e Te G vc st.1 Mc∧aE mX TB G vu st.2.1 Mu∧aE bE TI G vf st.2.2 Mf
theorem E9.mono{α:Type}{e:fB α}{Te TB TI Tb:TypeId}{b:Nat}{G G':GH}{st:List α×List Bool×List Int}{M:MH}(hl:Le G G')(h:E9 e Te TB TI Tb b G st M):E9 e Te TB TI Tb b G' st M:=by
 obtain⟨vc,vu,vf,Mc,Mu,Mf,h1,h2,h3,h4⟩:=h
 exact⟨vc,vu,vf,Mc,Mu,Mf,h1,h2.mono hl,h3.mono hl,h4.mono hl⟩
def bY {α:Type} (e:fB α) (Te TB TI Tb:TypeId) (b:Nat) (G:GH) (st:List α×List Bool) (M:MH):Prop:=
 ∃f,E9 e Te TB TI Tb b G (st.1,st.2,f) M∧st.1.length=st.2.length∧st.2.length≤4096∧lu tz f∧f.Perm (de st.2)
theorem bY.mono{α:Type}{e:fB α}{Te TB TI Tb:TypeId}{b:Nat}{G G':GH}{st:List α×List Bool}{M:MH}(hl:Le G G')(h:bY e Te TB TI Tb b G st M):bY e Te TB TI Tb b G' st M:=by
 obtain⟨f,h1,h2⟩:=h
 exact⟨f,h1.mono hl,h2⟩
variable {G:GH} {M:MH} {b:Nat} {α:Type}
theorem bY.cast{e:fB α}{Te TB TI Tb:TypeId}{st st':List α×List Bool}{M':MH}(h:bY e Te TB TI Tb b G st M)(e1:st=st')(e2:M=M'):bY e Te TB TI Tb b G st' M':=by subst e1 e2;exact h
theorem KC(h0:0≤i)(h1:i<u.length):u[i.toNat]'aa=da u i:=by
 unfold da
 rw [dB h0,dB h1,tZ aa];rfl
theorem KD(h0:¬0≤i):false=da u i:=by unfold da;rw [gr h0];rfl
theorem KE(h1:¬i<u.length):false=da u i:=by unfold da;rw [gr h1];simp
theorem j9(h:da u i=true):0≤i∧i.toNat<u.length∧i=(i.toNat:Int):=by
 obtain⟨k,hk,rfl,_⟩:=lX.1 h
 exact⟨aa,by simpa using hk,by simp⟩
theorem XA{st:List α×List Bool}{x:α}(h:da st.2 i=true):xn st i x=(0,(st.1.set i.toNat x,st.2)):=if_pos h
theorem XB{st:List α×List Bool}{x:α}(h:da st.2 i=false):xn st i x=(8,st):=if_neg (by simp [h])
theorem CZ{st:List α×List Bool}{x:α}(h:da st.2 i=true):xm st i x=(0,(st.1.set i.toNat x,st.2.set i.toNat false)):=if_pos h
theorem aa1{st:List α×List Bool}{x:α}(h:da st.2 i=false):xm st i x=(8,st):=if_neg (by simp [h])
theorem iF{st:List α×List Bool}{x:α}(h:aF st.2<st.2.length):ff st x=(((aF st.2:Int),0),(st.1.set (aF st.2) x,st.2.set (aF st.2) true)):=if_pos h
theorem PW{st:List α×List Bool}{x:α}(h:aF st.2=st.2.length):ff st x=((0,4),st):=if_neg aa
theorem aye{st:List α×List Bool}{z:α}(h:da st.2 i=true)(h2:i.toNat<st.1.length):BW st i z=st.1[i.toNat]:=by
 unfold BW;rw [if_pos h,fc,eY h2];rfl
theorem ayf{st:List α×List Bool}{z:α}(h:da st.2 i=false):BW st i z=z:=if_neg (by simp [h])
theorem Me(hH:lu tz f)(hp:f.Perm (de u))(h:da u i=true):lu tz (qM tz f i)∧(qM tz f i).Perm (de (u.set i.toNat false)):=by
 obtain⟨k,hk,rfl,hu⟩:=lX.1 h
 exact afQ hH hp hk hu
variable {cs:List Value} {m:Nd}
theorem cc.cast{n:Nd}(h:cc G cs n)(e:n=m):cc G cs m:=e▸h
def xp (u:List Bool) (k:Nat):List Int:=((List.range k).filter fun i=>u.getD i true).map fun i:Nat=>(i:Int)
theorem PX(u:List Bool)(k:Nat):(xp u k).length≤k:=by
 unfold xp;rw [dt]
 have:=fy (fun i=>u.getD i true) (List.range k)
 rw [List.length_range]at this;exact this
theorem aq8(hk:k<u.length)(h:u[k]=true):xp u (k+1)=xp u k++[(k:Int)]:=by
 unfold xp;rw [uz,gv,bU];congr 1;simp [eY hk,h]
theorem aq9(hk:k<u.length)(h:u[k]=false):xp u (k+1)=xp u k:=by
 unfold xp;rw [uz,gv,bU];simp [eY hk,h]
theorem aa2(u:List Bool):kp u=xp u u.length:=rfl
def lY (c:aX):Prop:=(4≤c.fan∧c.fan≤64)∧(2≤c.leaf∧c.leaf≤64)∧(36≤c.aT∧c.aT≤4096)∧(1≤c.bp∧c.bp≤4096)∧(0≤c.rest∧c.rest≤100)
instance (c : aX) : Decidable (lY c) := by unfold lY; infer_instance
def jT (n:Nat) (l:List Nd):List Nd×List Bool:=(l++List.replicate (n-l.length) Nd.zero,List.replicate l.length true++List.replicate (n-l.length) false)
theorem amp(n:Nat):jT n []=(List.replicate n Nd.zero,List.replicate n false):=by simp [jT]
variable {l:List Nd}
theorem Eu{n:Nat}(h:l.length≤n):(jT n l).2.length=n:=by simp [jT];omega
theorem KF{n:Nat}{i:Nat}(h:i<(jT n l).2.length):(jT n l).2[i]=decide (i<l.length):=by
 rw [WQ (show(jT n l).2=List.replicate l.length true++List.replicate (n-l.length) false from rfl) h,List.getElem_append]
 split<;>rename_i h2<;>simp only [wq]at h2<;>simp<;>omega
theorem Oa{n:Nat}(h:l.length≤n)(i:Int):da (jT n l).2 i=decide (0≤i∧i<l.length):=by
 rw [eZ,lX,ia]
 constructor
 ·rintro⟨k,hk,rfl,h2⟩
  rw [KF hk]at h2
  have:=jW h2
  omega
 ·rintro⟨h1,h2⟩
  have hl:=Eu h
  exact⟨i.toNat,aa,aa,by rw [KF];exact dB aa⟩
theorem Uu{n:Nat}(h:l.length≤n):aF (jT n l).2=l.length:=by
 have hl:=Eu h
 by_cases e:l.length=n
 ·rw [CY fun j hj=>by rw [KF hj];exact dB aa];omega
 ·exact F5 aa (by rw [KF];exact gr aa) fun j hj Ko=>by rw [KF hj];exact dB Ko
variable {x:Nd}
theorem ara{n:Nat}(hk:k<l.length):(jT n l).1.set k x=(jT n (l.set k x)).1:=by
 unfold jT
 rw [cg,NL _ _ hk]
theorem amq{n:Nat}(h:l.length<n):ff (jT n l) Nd.zero=(((l.length:Int),0),jT n (l++[Nd.zero])):=by
 have hf:=Uu (Nat.le_of_lt h)
 have hl:=Eu (Nat.le_of_lt h)
 rw [iF aa,hf]
 refine ax (Prod.mk _) ?_
 obtain⟨m,hm⟩:∃m,n-l.length=m+1:=⟨n-l.length-1,aa⟩
 have o7:n-(l++[Nd.zero]).length=m:=by simp;omega
 unfold jT
 rw [hm,o7]
 refine Prod.ext ?_ ?_
 ·show(l++List.replicate (m+1) Nd.zero).set l.length Nd.zero=(l++[Nd.zero])++List.replicate m Nd.zero
  rw [Hs _ _ (bZ _),Ei,List.replicate_succ,NM,ci];rfl
 ·show(List.replicate l.length true++List.replicate (m+1) false).set l.length true=List.replicate (l++[Nd.zero]).length true++List.replicate m false
  rw [Hs _ _ (by simp),wq,Ei,List.replicate_succ,NM,bP,List.length_singleton,List.replicate_succ',ci];rfl
theorem arb{n:Nat}(h:l.length=n):ff (jT n l) Nd.zero=((0,4),jT n l):=PW (by rw [Uu aa,Eu aa];exact h)
def Iq (l:List Nd) (x:Nd):Int×List Nd:=if 0≤x.slot∧x.slot<l.length then(0,l.set x.slot.toNat x)else(8,l)
theorem XC(h:0≤x.slot∧x.slot<l.length):Iq l x=(0,l.set x.slot.toNat x):=if_pos h
theorem ayg(h:¬(0≤x.slot∧x.slot<l.length)):Iq l x=(8,l):=if_neg h
theorem amr(l:List Nd)(x:Nd):(Iq l x).2.length=l.length:=by unfold Iq;split<;>simp
theorem XD{n:Nat}(h:l.length≤n)(x:Nd):xn (jT n l) x.slot x=((Iq l x).1,jT n (Iq l x).2):=by
 by_cases hx:0≤x.slot∧x.slot<l.length
 ·rw [XA (by rw [Oa h];exact dB hx),XC hx,ara aa]
  refine ax (Prod.mk _) (Prod.ext rfl ?_)
  unfold jT;simp
 ·rw [XB (by rw [Oa h];exact gr hx),ayg hx]
def xq (n:Nat) (l:List Nd) (x:Nd):(Int×Int)×List Nd:=if l.length<n then((l.length,0),l++[{ x with slot:=l.length }])else((0,4),l)
theorem PY{n:Nat}(h:l.length<n):xq n l x=(((l.length:Int),0),l++[{ x with slot:=l.length }]):=if_pos h
theorem aa3{n:Nat}(h:¬l.length<n):xq n l x=((0,4),l):=if_neg h
theorem take_set:Iq (l++[Nd.zero]) { x with slot:=l.length } =(0,l++[{ x with slot:=l.length }]):=by
 rw [XC (by simp;omega)]
 refine ax (Prod.mk _) ?_
 show(l++[Nd.zero]).set ((l.length:Int)).toNat _=_
 rw [qG,Hs _ _ (bZ _),Ei];rfl
def ai (l:List Nd) (i:Int):Nd:=if 0≤i then l.getD i.toNat Nd.zero else Nd.zero
theorem su(h:k<l.length):ai l k=l[k]:=by
 unfold ai;rw [if_pos aa,qG,fc,eY h];rfl
theorem ajt{n:Nat}(h:l.length≤n)(i:Int):BW (jT n l) i Nd.zero=ai l i:=by
 unfold BW ai
 rw [Oa h]
 by_cases h0:0≤i
 ·rw [if_pos h0]
  by_cases h1:i<l.length
  ·rw [if_pos (dB ⟨h0,h1⟩),fc,fc]
   unfold jT
   rw [rH aa]
  ·rw [if_neg (by simp;omega),fc,rE aa];rfl
 ·rw [if_neg h0,if_neg (by simp;omega)]
theorem aa4{n:Nat}(h:l.length≤n):kp (jT n l).2=dN l.length:=by
 have hl:=Eu h
 unfold kp dN
 congr 1
 rw [hl]
 have e:n=l.length+(n-l.length):=aa
 have key:∀m,m≤n→(List.range m).filter (fun i=>(jT n l).2.getD i true)=List.range (min m l.length):=by
  intro m
  induction m with
  |zero=>intro _;simp
  |succ m ih=>
   intro hm
   rw [uz,gv,ih aa,lF,tZ aa,KF]
   by_cases AK:m<l.length
   ·rw [if_pos (dB AK),NN,wu aa,wu aa,uz]
   ·rw [if_neg (by simpa using AK),NN,cx,NO aa,NO aa]
 rw [key n (bZ _),NO h]
theorem afR{st:List α×List Bool}{x:α}(h:st.2.length≤4096):i64 (ff st x).1.1:=by
 unfold ff
 split
 ·exact⟨by show(-9223372036854775808:Int)≤(aF st.2:Int);omega,by show(aF st.2:Int)≤9223372036854775807;omega⟩
 ·exact⟨by show(-9223372036854775808:Int)≤0;omega,by show(0:Int)≤9223372036854775807;omega⟩
def KG (a:List Nd×List Bool) (x:Nd):(Int×Int)×(List Nd×List Bool):=
 if(ff a Nd.zero).1.2=0 then(((ff a Nd.zero).1.1,(xn (ff a Nd.zero).2 (ff a Nd.zero).1.1 { x with slot:=(ff a Nd.zero).1.1 }).1),(xn (ff a Nd.zero).2 (ff a Nd.zero).1.1 { x with slot:=(ff a Nd.zero).1.1 }).2)
 else((0,(ff a Nd.zero).1.2),(ff a Nd.zero).2)
variable {a:List Nd×List Bool}
theorem aa5(h:(ff a Nd.zero).1.2=0):KG a x=(((ff a Nd.zero).1.1,(xn (ff a Nd.zero).2 (ff a Nd.zero).1.1 { x with slot:=(ff a Nd.zero).1.1 }).1),(xn (ff a Nd.zero).2 (ff a Nd.zero).1.1 { x with slot:=(ff a Nd.zero).1.1 }).2):=if_pos h
theorem aa6(h:¬(ff a Nd.zero).1.2=0):KG a x=((0,(ff a Nd.zero).1.2),(ff a Nd.zero).2):=if_neg h
theorem PZ{n:Nat}(h:l.length≤n)(x:Nd):KG (jT n l) x=((xq n l x).1,jT n (xq n l x).2):=by
 by_cases e:l.length<n
 ·have h1:=amq e
  rw [aa5 (by rw [h1]),h1,PY e]
  have h2:=XD (n:=n) (l:=l++[Nd.zero]) (by simp;omega) { x with slot:=(l.length:Int) }
  rw [take_set]at h2
  show(((l.length:Int),(xn (jT n (l++[Nd.zero])) ({ x with slot:=(l.length:Int) } :Nd).slot { x with slot:=(l.length:Int) }).1),(xn (jT n (l++[Nd.zero])) ({ x with slot:=(l.length:Int) } :Nd).slot { x with slot:=(l.length:Int) }).2)=_
  rw [h2]
 ·have h1:=arb (n:=n) (l:=l) aa
  rw [aa6 (by rw [h1];show ¬(4:Int)=0;omega),h1,aa3 e]
def P0 (te tB ti tb TS b:Nat) (G:GH) (c:aX) (a:List Nd×List Bool) (M:MH):Prop:=
 ∃b2 Ma,M=(b,.cells (List.toArray [.int .i64 c.fan,.int .i64 c.leaf,.int .i64 c.aT,.int .i64 c.bp,.int .i64 c.rest,.pointer (some ⟨b2,0,none⟩)]) TS (0,0))::Ma∧bY dm te tB ti tb b2 G a Ma
theorem P0.mono{te tB ti tb TS b:Nat}{G G':GH}{c:aX}{a:List Nd×List Bool}{M:MH}(hl:Le G G')(h:P0 te tB ti tb TS b G c a M):P0 te tB ti tb TS b G' c a M:=by
 obtain⟨b2,Ma,h1,h2⟩:=h;exact⟨b2,Ma,h1,h2.mono hl⟩
def cz (te tB ti tb TS b:Nat) (c:aX) (G:GH) (l:List Nd) (M:MH):Prop:=lY c∧l.length≤c.bp.toNat∧P0 te tB ti tb TS b G c (jT c.bp.toNat l) M
theorem cz.mono{te tB ti tb TS b:Nat}{G G':GH}{c:aX}{l:List Nd}{M:MH}(hl:Le G G')(h:cz te tB ti tb TS b c G l M):cz te tB ti tb TS b c G' l M:=⟨h.1,h.2.1,h.2.2.mono hl⟩
theorem P0.cast{te tB ti tb TS:Nat}{c:aX}{a':List Nd×List Bool}(h:P0 te tB ti tb TS b G c a M)(e:a=a'):P0 te tB ti tb TS b G c a' M:=e▸h
def lZ (slot:Int):Nd:=⟨slot,0,[],[],af.nil,true,-1,0,[],[]⟩
theorem afS{n:Nat}(h:l.length≤n):(xq n l x).2.length≤n:=by unfold xq;split<;>simp<;>omega
theorem afT{n:Nat}(h:l.length≤n):((kp (jT n l).2).map fun i=>BW (jT n l) i Nd.zero)=l:=by
 rw [aa4 h]
 refine Av (by simp [dN]) fun i h1 h2=> ?_
 rw [jX,ajt h]
 simp only [dN,jX,NP]
 exact su h2
theorem cc.of{n:Nd}(h:cc G cs n)(e:n=m):cc G cs m:=e▸h
structure Fq (α:Type) where
 R:GH→Value→α→Prop
 mono:∀ {G G':GH} {v a},Le G G'→R G v a→R G' v a
def XE:Fq Bool:=⟨fun _ v b=>v=.bool b,fun _ h=>h⟩
section
variable {α:Type}
def P1 (V:Fq α) (G:GH):List MapEntry→List (Int×α)→Prop
 |[],[]=>True
 |e::es,p::m=>e.key=.int .i64 p.1∧V.R G e.val p.2∧P1 V G es m
 |_,_=>False
theorem P1.mono{V:Fq α}{G G':GH}(hl:Le G G'):∀ {es:List MapEntry} {m:List (Int×α)},P1 V G es m→P1 V G' es m
 |[],[],_=>trivial
 |e::es,p::m,h=>⟨h.1,V.mono hl h.2.1,h.2.2.mono hl⟩
 |[],_::_,h=>h.elim
 |_::_,[],h=>h.elim
def getM (m:List (Int×α)) (k:Int):Option α:=(m.find? fun p=>decide (p.1=k)).map (·.2)
def yA:List (Int×α)→Int→α→List (Int×α)
 |[],k,a=>[(k,a)]
 |p::m,k,a=>if p.1=k then(k,a)::m else p::yA m k a
def Uv:List (Int×α)→Int→List (Int×α)
 |[],_=>[]
 |p::m,k=>if p.1=k then m else p::Uv m k
theorem oJ(p:Int×α)(m:List (Int×α))(k:Int):getM (p::m) k=if p.1=k then some p.2 else getM m k:=by
 unfold getM
 by_cases h:p.1=k
 ·rw [List.find?_cons_of_pos (by simpa using h),if_pos h];rfl
 ·rw [List.find?_cons_of_neg (by simpa using h),if_neg h]
theorem Uw:∀(m:List (Int×α)) (k:Int) (a:α) (j:Int),getM (yA m k a) j=if j=k then some a else getM m j
 |[],k,a,j=>by
  rw [yA,oJ]
  by_cases h:k=j
  ·rw [if_pos h,if_pos h.symm]
  ·rw [if_neg h,if_neg (fun e=>h e.symm)]
 |p::m,k,a,j=>by
  rw [yA]
  by_cases hp:p.1=k
  ·rw [if_pos hp,oJ,oJ]
   by_cases h:k=j
   ·rw [if_pos h,if_pos h.symm]
   ·rw [if_neg h,if_neg (fun e=>h e.symm),if_neg (by rw [hp];exact h)]
  ·rw [if_neg hp,oJ,oJ,Uw m k a j]
   by_cases h:p.1=j
   ·rw [if_pos h,if_pos h,if_neg (fun e=>hp (h.trans e))]
   ·rw [if_neg h,if_neg h]
theorem Ux(k j:Int):Instr.sameNow (.int .i64) (.int .i64 k) (.int .i64 j)=some (k==j):=by simp [Instr.sameNow]
theorem P3{V:Fq α}{G:GH}{k:Int} :∀ {es:List MapEntry} {m:List (Int×α)} (i:Nat),P1 V G es m→
  (getM m k=none∧Instr.findNow (.int .i64) (.int .i64 k) es i=some none∧(∀x a n,V.R G x a→P1 V G (es++[⟨.int .i64 k,x,n⟩]) (yA m k a))∧Uv m k=m)∨
  ∃j e a,getM m k=some a∧es[j]?=some e∧Instr.findNow (.int .i64) (.int .i64 k) es i=some (some (i+j,e.val))∧e.key=.int .i64 k∧V.R G e.val a∧
   (∀x b,V.R G x b→P1 V G (es.modify j fun e=>{ e with key:=.int .i64 k,val:=x }) (yA m k b))∧P1 V G (es.eraseIdx j) (Uv m k)
 |[],[],i,_=>.inl ⟨rfl,rfl,fun x a n hx=>⟨rfl,hx,trivial⟩,rfl⟩
 |e::es,p::m,i,h=>by
  by_cases hk:p.1=k
  ·refine .inr ⟨0,e,p.2,by rw [oJ,if_pos hk],rfl,?_,by rw [h.1,hk],h.2.1,fun x b hx=> ?_,?_⟩
   ·rw [Instr.findNow,h.1,Ux,hk];simp
   ·rw [yA,if_pos hk]
    simp only [List.modify_zero_cons]
    exact⟨rfl,hx,h.2.2⟩
   ·rw [Uv,if_pos hk];exact h.2.2
  ·have hf:∀i,Instr.findNow (.int .i64) (.int .i64 k) (e::es) i=Instr.findNow (.int .i64) (.int .i64 k) es (i+1):=fun i=>by
    rw [Instr.findNow,h.1,Ux]
    have:(k==p.1)=false:=by simpa using fun e=>hk e.symm
    rw [this]
   rcases P3 (V:=V) (k:=k) (i+1) h.2.2 with⟨h1,h2,h3,h4⟩|⟨j,e',a,h1,h2,h3,h4,h5,h6,h7⟩
   ·refine .inl ⟨by rw [oJ,if_neg hk];exact h1,by rw [hf];exact h2,fun x a n hx=> ?_,by rw [Uv,if_neg hk,h4]⟩
    rw [yA,if_neg hk]
    exact⟨h.1,h.2.1,h3 x a n hx⟩
   ·refine .inr ⟨j+1,e',a,by rw [oJ,if_neg hk];exact h1,by simpa using h2,by rw [hf,h3];congr 3;omega,h4,h5,fun x b hx=> ?_,?_⟩
    ·rw [yA,if_neg hk]
     simp only [List.modify_succ_cons]
     exact⟨h.1,h.2.1,h6 x b hx⟩
    ·rw [Uv,if_neg hk]
     exact⟨h.1,h.2.1,h7⟩
 |[],_::_,_,h=>h.elim
 |_::_,[],_,h=>h.elim
def F7 (P:Program) (t:TypeId):Option TypeId:=
 match P.underlying t with
 |some (.map kt e)=>match P.underlying kt with
  |some (.int .i64)=>some e
  |_=>none
 |_=>none
theorem Uy{P:Program}{t e:TypeId}(h:F7 P t=some e):∃kt,P.underlying t=some (.map kt e)∧P.underlying kt=some (.int .i64)∧∀b n v (w:World),(Instr.checkKey b (n+1) kt v).run P w=.ok () w:=by
 unfold F7 at h
 split at h
 ·rename_i kt e' h1
  split at h
  ·rename_i h2
   cases h
   refine⟨kt,h1,h2,fun b n v w=> ?_⟩
   simp only [Instr.checkKey,Sem.run_bind,run_underlying h2,Result.andThen_ok]
   rfl
  ·cases h
 ·cases h
def TK (V:Fq α) (b:Nat) (G:GH) (m:List (Int×α)) (M:MH):Prop:=∃(es:List MapEntry) (clock:Nat),M=[(b,.map es.toArray clock)]∧P1 V G es m
theorem TK.mono{V:Fq α}{b:Nat}{G G':GH}{m:List (Int×α)}{M:MH}(hl:Le G G')(h:TK V b G m M):TK V b G' m M:=by
 obtain⟨es,c,h1,h2⟩:=h;exact⟨es,c,h1,h2.mono hl⟩
end
section
variable {α:Type} {E:Env} {f:Fr} {G:GH} {M Mk Ms Mr:MH} {ops rest:List Oper} {q:Bool} {K:Kt} {d:Nat} {ty:TypeId} {pos:String} {aft:Array Edge} {t et:TypeId} {x y kk:Operand} {b:Nat} {k:Int} {m:List (Int×α)} {V:Fq α}
def zvK (P:Program) (t:TypeId):Option Value:=(P.info? t).bind (·.zero)
variable {clock:Nat} {es:List MapEntry} {z0:Value}
theorem amt{P:Program}{z:α}(ht:F7 P t=some et)(hz:zvK P et=some z0)(hzz:V.R G z0 z)(he:P1 V G es m):
  ∃v,V.R G v ((getM m k).getD z)∧∀(w:World) (ok:Bool),w.heap[b]?=some (.map es.toArray clock)→(Instr.lookup t (.map (some b)) (.int .i64 k) ok).run P w=.ok (if ok=true then .tuple #[v,.bool (getM m k).isSome]else v) w:=by
 obtain⟨kt,h1,h2,h3⟩:=Uy ht
 have hzv:∀w,(zeroValue et).run P w=.ok z0 w:=fun w=>by
  unfold zvK at hz
  cases hi:P.info? et with
  |none=>rw [hi]at hz;cases hz
  |some ez=>rw [hi]at hz;simp at hz;simp [zeroValue,typeInfo,hi,hz]
 rcases P3 (k:=k) 0 he with⟨g1,g2,_,_⟩|⟨j,e,a,g1,g2,g3,g4,g5,_,_⟩
 ·refine⟨z0,by rw [g1];exact hzz,fun w ok hb=> ?_⟩
  have No:=MapKept.run_getObj_map (P:=P) hb
  have hfk:=MapKept.run_findKey (P:=P) (w:=w) h2 g2
  simp only [Instr.lookup,Sem.run_bind,run_underlying h1,Result.andThen_ok,No,Sem.run_pure]
  rw [h3]
  simp only [Result.andThen_ok]
  rw [hfk,g1]
  simp [hzv]
 ·refine⟨e.val,by rw [g1];exact g5,fun w ok hb=> ?_⟩
  have No:=MapKept.run_getObj_map (P:=P) hb
  have hfk:=MapKept.run_findKey (P:=P) (w:=w) h2 g3
  simp only [Instr.lookup,Sem.run_bind,run_underlying h1,Result.andThen_ok,No,Sem.run_pure]
  rw [h3]
  simp only [Result.andThen_ok]
  rw [hfk,g1]
  simp
theorem arc(hp:([(b,Obj.map es.toArray clock)]++Mr).Perm M){w:World}(hr:E.real G M w):w.heap[b]?=some (.map es.toArray clock):=
 hr.r.mu (b,.map es.toArray clock) (hp.mem_iff.1 (by simp))
theorem amu{z:α}{ok:Bool}(ht:F7 E.P t=some et)(hz:zvK E.P et=some z0)(hzz:V.R G z0 z)(hx:ev f x=.map (some b))(hk:ev f kk=.int .i64 k)(hm:TK V b G m Ms)(hp:(Ms++Mr).Perm M):
  ∃v,V.R G v ((getM m k).getD z)∧Ok E f G M ⟨some d,.lookup t x kk ok,ty,pos,aft,none⟩ (if ok=true then .tuple #[v,.bool (getM m k).isSome]else v):=by
 obtain⟨es,clock,rfl,he⟩:=hm
 obtain⟨v,h1,h2⟩:=amt (b:=b) (clock:=clock) (k:=k) ht hz hzz he
 refine⟨v,h1,fun w hr=> ?_⟩
 have:=h2 w ok (arc hp hr)
 simp [execOp,hx,hk,this]
theorem XF{o:Obj}{w:World}(hr:E.real G ((b,Obj.map es.toArray clock)::Mr) w):E.real G ((b,o)::Mr) { w with heap:=w.heap.setIfInBounds b o } :=
 ⟨Real.set (M₁:=[]) hr.r,hr.le,hr.nw⟩
theorem W.aCH{v:Value}{a:α}(ht:F7 E.P t=some et)(hx:ev f x=.map (some b))(hk:ev f kk=.int .i64 k)(hy:ev f y=v)(hm:TK V b G m Ms)(hp:(Ms++Mr).Perm M)(ha:V.R G v a)
  (h:∀kQ,TK V b G (yA m k a) kQ→W E ops.toArray false rest f G (kQ++Mr) K):W E ops.toArray false (⟨none,.mapUpdate t x kk y,ty,pos,aft,none⟩::rest) f G M K:=by
 intro a' w Q hi hr0 hK
 obtain⟨es,clock,rfl,he⟩:=hm
 have hr:=hr0.perm hp
 obtain⟨kt,h1,h2,h3⟩:=Uy ht
 have hb:w.heap[b]?=some (.map es.toArray clock):=hr.r.mu (b,.map es.toArray clock) (by simp)
 have No:=MapKept.run_getObj_map (P:=E.P) hb
 have key:∃es' Ob,P1 V G es' (yA m k a)∧(Instr.mapUpdate t (.map (some b)) (.int .i64 k) v).run E.P w=.ok () { w with heap:=w.heap.setIfInBounds b (.map es'.toArray Ob) } :=by
  rcases P3 (k:=k) 0 he with⟨g1,g2,g3,_⟩|⟨j,e,a2,g1,g2,g3,g4,g5,g6,_⟩
  ·refine⟨_,clock+1,g3 v a clock ha,?_⟩
   have hfk:=MapKept.run_findKey (P:=E.P) (w:=w) h2 g2
   have Mg:=MapKept.run_setObj_map (P:=E.P) (.map (es.toArray.push ⟨.int .i64 k,v,clock⟩) (clock+1)) hb
   simp only [Instr.mapUpdate,Sem.run_bind,run_underlying h1,Result.andThen_ok,No]
   rw [h3]
   simp only [Result.andThen_ok]
   rw [hfk]
   simp only [Result.andThen_ok,Mg]
   congr 4
   simp
  ·refine⟨_,clock,g6 v a ha,?_⟩
   rw [rQ]at g3
   have hfk:=MapKept.run_findKey (P:=E.P) (w:=w) h2 g3
   have Mg:=MapKept.run_setObj_map (P:=E.P) (.map (es.toArray.modify j fun e=>{ e with key:=.int .i64 k,val:=v }) clock) hb
   simp only [Instr.mapUpdate,Sem.run_bind,run_underlying h1,Result.andThen_ok,No]
   rw [h3]
   simp only [Result.andThen_ok]
   rw [hfk]
   have hsb:Instr.sameBits 10000 (((es.toArray[j]?).map (·.key)).getD (.int .i64 k)) (.int .i64 k)=true:=by
    simp [g2,g4,Instr.sameBits]
   simp only [Result.andThen_ok,Instr.keyThatStays,hsb,if_true,Sem.run_pure]
   simp only [Sem.run_bind,Sem.run_pure,Result.andThen_ok,Mg]
   congr 4
   simp
 obtain⟨es',Ob,k1,k2⟩:=key
 have gU:(execOp (ev f) ⟨none,.mapUpdate t x kk y,ty,pos,aft,none⟩).run E.P w=.ok .skip { w with heap:=w.heap.setIfInBounds b (.map es'.toArray Ob) } :=by
  simp [execOp,hx,hk,hy,k2]
 refine wpList_plain rfl fun K' iG=> ?_
 unfold Oper.wp
 rw [hi.eval,gU]
 exact iG _ _ (h _ ⟨es',Ob,rfl,k1⟩ _ _ Q (hi.zJ undef) (XF hr) hK)
theorem W.makeMap(h:∀b,TK V b G [] [(b,.map #[] 0)]→W E ops.toArray false rest (jP f d (.map (some b))) G ((b,.map #[] 0)::M) K)(hd:Nat.blt d E.n=true:=by rfl):
  W E ops.toArray false (⟨some d,.makeMap t none,ty,pos,aft,none⟩::rest) f G M K:=by
 intro a w Q hi hr hK
 have gU:(execOp (ev f) ⟨some d,.makeMap t none,ty,pos,aft,none⟩).run E.P w=.ok (.value (.map (some w.heap.size))) (w.alloc (.map #[] 0)):=by
  have h0:(Instr.makeMap t none).run E.P w=.ok (.map (some w.heap.size)) (w.alloc (.map #[] 0)):=by simp [Instr.makeMap,newObj,Sem.run,bind,Sem.bind,pure]
  simp [execOp,h0]
 refine wpList_plain rfl fun K' iG=> ?_
 unfold Oper.wp
 rw [hi.eval,gU]
 exact iG _ _ (h _ ⟨[],0,rfl,trivial⟩ _ _ Q (hi.put hd _) (hr.alloc _) hK)
end
theorem amv{s:Int}(hs:i64 s):(lZ s).Ok:=⟨hs,⟨by show(-9223372036854775808:Int)≤0;omega,by show(0:Int)≤9223372036854775807;omega⟩,⟨by show(-9223372036854775808:Int)≤ -1;omega,by show(-1:Int)≤9223372036854775807;omega⟩,⟨by show(-9223372036854775808:Int)≤0;omega,by show(0:Int)≤9223372036854775807;omega⟩⟩
theorem aa7{n:Nat}(h:0<n):jT n []=jT n []∧xq n [] (lZ 0)=((0,0),[lZ 0]):=⟨rfl,by rw [PY (by simpa using h)];rfl⟩
end Go.Fw

namespace Go.Fw
abbrev Ls:=List (List aD)
def AW (l:List aD):Int:=Hd.st (l,0)
theorem aju{l:List aD}(h:0<l.length):AW l=l[0].aW:=Hd.tX (a:=(l,0)) h
structure wa (cur:Ls) (b:Nat):Prop where
 lt:b<cur.length
 ne:0<cur[b].length
 min:∀j (h:j<cur.length),0<cur[j].length→AW cur[b]≤AW cur[j]∧(j<b→AW cur[b]<AW cur[j])
variable {b:Nat} {cur:Ls}
theorem wa.rj{c:Nat}(hb:wa cur b)(hc:wa cur c):b=c:=by
 have h1:=hb.min c hc.lt hc.ne
 have h2:=hc.min b hb.lt hb.ne
 rcases Nat.lt_trichotomy b c with h|h|h
 ·have:=h2.2 h;omega
 ·exact h
 ·have:=h1.2 h;omega
def px (cur:Ls):Nat:=(cur.map List.length).sum
theorem Uz(a b:Ls):px (a++b)=px a+px b:=by simp [px]
theorem xr(a:List aD)(b:Ls):px (a::b)=a.length+px b:=by simp [px]
open Classical in
noncomputable def Ev:Nat→Ls→List aD
 |0,_=>[]
 |f+1,cur=>if h:∃b,wa cur b then(cur[h.choose]'(h.choose_spec.lt))[0]'(h.choose_spec.ne)::Ev f (cur.set h.choose ((cur[h.choose]'(h.choose_spec.lt)).drop 1))else []
noncomputable def dg (cur:Ls):List aD:=Ev (px cur) cur
theorem XG{f:Nat}(hb:wa cur b):Ev (f+1) cur=(cur[b]'hb.lt)[0]'hb.ne::Ev f (cur.set b ((cur[b]'hb.lt).drop 1)):=by
 have h:∃b,wa cur b:=⟨b,hb⟩
 have e:h.choose=b:=h.choose_spec.rj hb
 rw [Ev,dif_pos h]
 simp only [e]
theorem AX(h:b<cur.length)(t:List aD):cur.set b t=cur.take b++t::cur.drop (b+1):=by
 rw [NJ,if_pos h]
theorem KH(h:b<cur.length):cur=cur.take b++cur[b]::cur.drop (b+1):=by
 rw [←iW h,fo]
theorem wS(hb:wa cur b):px (cur.set b ((cur[b]'hb.lt).drop 1))+1=px cur:=by
 have h:=hb.ne
 rw [AX hb.lt]
 conv=>rhs;rw [KH hb.lt]
 rw [Uz,Uz,xr,xr,cv]
 omega
theorem yB(hb:wa cur b):dg cur=(cur[b]'hb.lt)[0]'hb.ne::dg (cur.set b ((cur[b]'hb.lt).drop 1)):=by
 unfold dg
 rw [←wS hb,XG hb]
theorem afU(h:∀i (hi:i<cur.length),cur[i].length=0):px cur=0:=by
 unfold px
 rw [List.sum_eq_zero_iff_forall_eq_nat]
 intro x hx
 obtain⟨l,hl,rfl⟩:=cB.1 hx
 obtain⟨i,hi,rfl⟩:=cj hl
 exact h i hi
theorem F8(h:∀i (hi:i<cur.length),cur[i].length=0):dg cur=[]:=by
 unfold dg
 rw [afU h];rfl
def hD (k:Int):Ls→List Hd
 |[]=>[]
 |l::ls=>(if 0<l.length then [(l,k)]else [])++hD (k+1) ls
theorem wT:∀(a b:Ls) (k:Int),hD k (a++b)=hD k a++hD (k+a.length) b
 |[],b,k=>by simp [hD]
 |l::a,b,k=>by
  have e:k+((l::a).length:Nat)=k+1+(a.length:Nat):=by simp;omega
  rw [e]
  simp only [pC,hD,wT a b,ci]
theorem P4:∀(ls:Ls) (k:Int),(hD k ls).length≤ls.length
 |[],_=>bZ _
 |l::ls,k=>by
  have:=P4 ls (k+1)
  unfold hD
  split<;>simp<;>omega
theorem Ir:∀ {ls:Ls} {k:Int} {h:Hd},h∈hD k ls↔∃i,∃hi:i<ls.length,h=(ls[i],k+(i:Nat))∧0<ls[i].length
 |[],k,h=>by simp [hD]
 |l::ls,k,h=>by
  rw [hD,cP,Ir]
  constructor
  ·rintro(h1|⟨i,hi,h1,h2⟩)
   ·split at h1
    ·rename_i h3
     rw [gh]at h1
     exact⟨0,by simp,by simp [h1],h3⟩
    ·cases h1
   ·exact⟨i+1,by simp;omega,by rw [h1];simp;omega,by simpa using h2⟩
  ·rintro⟨i,hi,h1,h2⟩
   cases i with
   |zero=>
    left
    have h2:0<l.length:=h2
    rw [if_pos h2]
    simp [h1]
   |succ i=>exact .inr ⟨i,by simp at hi;omega,by rw [h1];simp;omega,by simpa using h2⟩
variable {H:List Hd} {k:Nat} {ls:Ls}
theorem amw(hk:k<ls.length)(hp:H.Perm (hD 0 (ls.take k)))(ig:0<ls[k].length):((ls[k],(k:Int))::H).Perm (hD 0 (ls.take (k+1))):=by
 rw [iA hk,wT]
 have e:(List.take k ls).length=k:=by rw [bV];omega
 rw [e]
 simp only [hD,if_pos ig,Ax,cx]
 exact(yl _ _).symm.trans (hp.append_right _)
theorem amx(hk:k<ls.length)(hp:H.Perm (hD 0 (ls.take k)))(ig:¬0<ls[k].length):H.Perm (hD 0 (ls.take (k+1))):=by
 rw [iA hk,wT]
 simp only [hD,if_neg ig,cx]
 exact hp
theorem ard(hH:lu Hd.lt H)(hp:H.Perm (hD 0 cur))(hl:0<H.length):∃b,∃hb:wa cur b,nth H 0=(cur[b]'hb.lt,(b:Int)):=by
 have hm:H[0]∈hD 0 cur:=hp.mem_iff.1 (bN hl)
 obtain⟨b,hb,e,ig⟩:=Ir.1 hm
 rw [Ax]at e
 refine⟨b,⟨hb,ig,fun j hj hjn=> ?_⟩,by rw [eJ hl];exact e⟩
 have o7:(cur[j],((j:Nat):Int))∈H:=hp.mem_iff.2 (Ir.2 ⟨j,hj,by rw [Ax],hjn⟩)
 obtain⟨c,hc,e2⟩:=cj o7
 have:=KB Hd.lo hH c hc
 rw [eJ hc,eJ hl,e,e2]at this
 have h5:(decide (AW cur[j]<AW cur[b])||(decide (AW cur[j]=AW cur[b])&&decide (((j:Nat):Int)<((b:Nat):Int))))=false:=this
 simp only [rM,wj,lR]at h5
 omega
theorem P5{H':List Hd}(hb:wa cur b)(hp:H.Perm (hD 0 cur))(h:((cur[b]'hb.lt,(b:Int))::H').Perm H):
  H'.Perm (hD 0 (cur.take b)++hD (b+1) (cur.drop (b+1))):=by
 have e:hD 0 cur=hD 0 (cur.take b)++(cur[b]'hb.lt,(b:Int))::hD (b+1) (cur.drop (b+1)):=by
  conv=>lhs;rw [KH hb.lt]
  rw [wT]
  have e:(List.take b cur).length=b:=by rw [bV];have:=hb.lt;omega
  rw [e]
  simp only [hD,if_pos hb.ne,Ax,wv]
 rw [e]at hp
 exact List.Perm.cons_inv (h.trans (hp.trans tL))
variable {t:List aD}
theorem ayh(hb:b<cur.length)(ht:0<t.length):hD 0 (cur.set b t)=hD 0 (cur.take b)++(t,(b:Int))::hD (b+1) (cur.drop (b+1)):=by
 rw [AX hb,wT]
 have e:(List.take b cur).length=b:=by rw [bV];omega
 rw [e]
 simp only [hD,if_pos ht,Ax,wv]
theorem ayi(hb:b<cur.length)(ht:¬0<t.length):hD 0 (cur.set b t)=hD 0 (cur.take b)++hD (b+1) (cur.drop (b+1)):=by
 rw [AX hb,wT]
 have e:(List.take b cur).length=b:=by rw [bV];omega
 rw [e]
 simp only [hD,if_neg ht,Ax,iU]
theorem aa8(hH:lu Hd.lt H)(hp:H.Perm (hD 0 cur))(hl:0<H.length)(hb:wa cur b)(he:nth H 0=(cur[b]'hb.lt,(b:Int))){el:Hd}(hel:el=((cur[b]'hb.lt).drop 1,(b:Int)))(ht:0<el.1.length):
  lu Hd.lt (qM Hd.lt (oE Hd.lt H) el)∧(qM Hd.lt (oE Hd.lt H) el).Perm (hD 0 (cur.set b ((cur[b]'hb.lt).drop 1))):=by
 obtain⟨h1,h2,h3⟩:=Et Hd.lo hH hl
 obtain⟨h4,h5⟩:=AT Hd.lo h1 el
 refine⟨h4,h5.trans ?_⟩
 rw [he]at h2
 subst hel
 rw [ayh hb.lt ht]
 exact((P5 hb hp h2).cons _).trans tL.symm
theorem aa9(hH:lu Hd.lt H)(hp:H.Perm (hD 0 cur))(hl:0<H.length)(hb:wa cur b)(he:nth H 0=(cur[b]'hb.lt,(b:Int)))(ht:¬0<((cur[b]'hb.lt).drop 1).length):
  lu Hd.lt (oE Hd.lt H)∧(oE Hd.lt H).Perm (hD 0 (cur.set b ((cur[b]'hb.lt).drop 1))):=by
 obtain⟨h1,h2,h3⟩:=Et Hd.lo hH hl
 rw [he]at h2
 rw [ayi hb.lt ht]
 exact⟨h1,P5 hb hp h2⟩
theorem aba(hp:H.Perm (hD 0 cur))(h0:H.length=0):dg cur=[]:=by
 refine F8 fun i hi=> ?_
 cases hc:cur[i].length with
 |zero=>rfl
 |succ n=>
  have hm:(cur[i],((i:Nat):Int))∈H:=hp.mem_iff.2 (Ir.2 ⟨i,hi,by rw [Ax],aa⟩)
  rw [kj h0]at hm;cases hm
theorem P6:∀(n:Nat) (cur:Ls),px cur=n→(dg cur).length≤n
 |0,cur,h=>by unfold dg;rw [h];exact bZ _
 |n+1,cur,h=>by
  by_cases hb:∃b,wa cur b
  ·obtain⟨b,hb⟩:=hb
   rw [yB hb,jo]
   have:=P6 n (cur.set b ((cur[b]'hb.lt).drop 1)) (by have:=wS hb;omega)
   omega
  ·unfold dg;rw [h,Ev,dif_neg hb];simp
theorem afV(cur:Ls):(dg cur).length≤px cur:=P6 _ cur rfl
end Go.Fw

namespace Go.Fw
theorem abb{f:List aD→List aD}(hf:∀l,(f l).length≤l.length):∀(ls:Ls),px (ls.map f)≤px ls
 |[]=>bZ _
 |l::ls=>by
  have:=hf l
  have ih:=abb hf ls
  rw [cA,xr,xr];omega
def BI (C:Ls) (j:Nat) (c:Int):Prop:=(c= -1∧∀q (h:q<C.length),q<j→C[q].length=0)∨
 ∃b:Nat,∃h:b<C.length,c=b∧b<j∧0<C[b].length∧∀q (hq:q<C.length),q<j→0<C[q].length→AW C[b]≤AW C[q]∧(q<b→AW C[b]<AW C[q])
theorem ayj(C:Ls):BI C 0 (-1):=.inl ⟨rfl,fun q _ h=>by omega⟩
variable {C:Ls} {j:Nat}
theorem are{c:Int}(h:BI C j c)(hj:j<C.length)(hz:C[j].length=0):BI C (j+1) c:=by
 rcases h with⟨h1,h2⟩|⟨b,hb,h1,h2,h3,h4⟩
 ·exact .inl ⟨h1,fun q hq hqj=>by
   by_cases e:q=j
   ·subst e;exact hz
   ·exact h2 q hq aa⟩
 ·exact .inr ⟨b,hb,h1,aa,h3,fun q hq hqj hn=>by
   by_cases e:q=j
   ·subst e;omega
   ·exact h4 q hq aa hn⟩
theorem amy{c:Int}(h:BI C j c)(hc:c<0)(hj:j<C.length)(hn:0<C[j].length):BI C (j+1) j:=by
 rcases h with⟨h1,h2⟩|⟨b,hb,h1,h2,h3,h4⟩
 ·exact .inr ⟨j,hj,rfl,aa,hn,fun q hq hqj hqn=>by
   by_cases e:q=j
   ·subst e;exact⟨eI _,fun h=>by omega⟩
   ·have:=h2 q hq aa;omega⟩
 ·omega
variable {b:Nat}
theorem arf(h:BI C j b)(hb:b<C.length)(hj:j<C.length)(hn:0<C[j].length)(hl:AW C[j]<AW C[b]):BI C (j+1) j:=by
 rcases h with⟨h1,h2⟩|⟨b',ow,h1,h2,h3,h4⟩
 ·omega
 ·have e:b'=b:=aa
  subst e
  exact .inr ⟨j,hj,rfl,aa,hn,fun q hq hqj hqn=>by
   by_cases e:q=j
   ·subst e;exact⟨eI _,fun h=>by omega⟩
   ·have:=h4 q hq aa hqn
    exact⟨aa,fun _=>by omega⟩⟩
theorem arh(h:BI C j b)(hb:b<C.length)(hj:j<C.length)(hl:¬AW C[j]<AW C[b]):BI C (j+1) b:=by
 rcases h with⟨h1,h2⟩|⟨b',ow,h1,h2,h3,h4⟩
 ·omega
 ·have e:b'=b:=aa
  subst e
  exact .inr ⟨b',ow,rfl,aa,h3,fun q hq hqj hqn=>by
   by_cases e:q=j
   ·subst e;exact⟨aa,fun h=>by omega⟩
   ·exact h4 q hq aa hqn⟩
theorem abc{c:Int}(h:BI C j c)(hc:¬c<0):∃b:Nat,∃hb:b<C.length,c=b∧b<j∧0<C[b].length:=by
 rcases h with⟨h1,h2⟩|⟨b,hb,h1,h2,h3,h4⟩
 ·omega
 ·exact⟨b,hb,h1,h2,h3⟩
theorem ari(h:BI C j b)(hj:C.length≤j):wa C b:=by
 rcases h with⟨h1,h2⟩|⟨b',hb,h1,h2,h3,h4⟩
 ·omega
 ·have e:b'=b:=aa
  subst e
  exact⟨hb,h3,fun q hq hqn=>h4 q hq aa hqn⟩
end Go.Fw

namespace Go.Fw
open Go Go.RowKit
structure aw where
 n:Nd
 s:Span
 ms:List aD
instance : Inhabited aw := ⟨⟨Nd.zero, Span.zero, []⟩⟩
theorem WD.ua{E:Env}{f:Fr}{G:GH}{M M1 M' Mk:MH}{ops:Array Oper}{K:Kt}{dS:Nat}{bS:Array Bool}(hr:Region.ready .any ops bS=[])(hs:M1.Sublist M)(hp:M'.Perm M1)(h:K f G M'):WD E ops dS bS f G M Mk K:=fun _ a w Q hi hw _ hK=>
 wpAnyH_done hr (hK _ _ _ _ _ hi ⟨(hw.r.sub hs).perm hp,hw.le,hw.nw⟩ h) dS
def XH (l:List Nd) (i:Int):List Nd:=l.filter fun n=>decide (n.slot=i)
def cE (l:List Nd) (i:Int):Nd×Bool:=((XH l i).getLast?.getD Nd.zero,decide ((XH l i).length=1))
variable {i:Int} {k:Nat} {l:List Nd}
theorem aCI(hk:k<l.length)(h:l[k].slot=i):XH (l.take (k+1)) i=XH (l.take k) i++[l[k]]:=N8 hk (dB h)
theorem aCJ(hk:k<l.length)(h:¬l[k].slot=i):XH (l.take (k+1)) i=XH (l.take k) i:=HW hk (gr h)
noncomputable def aq (l:List Nd) (x:aw) (j:Nat):aw:=
 ⟨(cE l (x.n.kids.getD j 0)).1,x.s.bH (aA x.n.ab (j:Int)),dg [aB (x.s.bH (aA x.n.ab (j:Int))) x.n.aj,aB (x.s.bH (aA x.n.ab (j:Int))) x.ms]⟩
def oK (l:List Nd) (x:aw) (j:Nat):Bool:=(cE l (x.n.kids.getD j 0)).2&&decide ((cE l (x.n.kids.getD j 0)).1.level=x.n.level-1)
noncomputable def l8 (l:List Nd) (x:aw) (j:Nat):List aw:=(List.range j).map (aq l x)
noncomputable def ft (l:List Nd) (x:aw):Option (List aw):=
 if x.n.level=0 then some []
 else if x.n.level<0∨fA x.n.ab x.n.kids.length=false then none
 else if(List.range x.n.kids.length).all (oK l x)=true then some (l8 l x x.n.kids.length)else none
noncomputable def bu (l:List Nd) (x:aw):List aw:=(ft l x).getD []
variable {x:aw}
theorem uQ(h:x.n.level=0):ft l x=some []:=if_pos h
theorem arj(h0:¬x.n.level=0)(h1:¬x.n.level<0)(h2:fA x.n.ab x.n.kids.length=true)(h:∀j,j<x.n.kids.length→oK l x j=true):ft l x=some (l8 l x x.n.kids.length):=by
 rw [ft,if_neg h0,if_neg (by rintro(h|h);exact h1 h;rw [h2]at h;cases h),if_pos]
 exact ym.2 fun j hj=>h j (gN.1 hj)
theorem lK(l:List Nd)(x:aw)(j:Nat):(l8 l x j).length=j:=by simp [l8]
noncomputable def mY (l:List Nd):Nat→Nat→List aw→Option (List aw)
 |0,_,_=>none
 | f+1,i,out=>if h:i<out.length then if l.length<out.length then none else match ft l out[i]with
   |none=>none
   |some ks=>mY l f (i+1) (out++ks)
  else some out
noncomputable def bC (l:List Nd) (root:Int):aw:=⟨(cE l root).1,Span.all,[]⟩
noncomputable def sv (l:List Nd) (root:Int):Option (List aw):=if(cE l root).2=true then mY l (l.length+2) 0 [bC l root]else none
variable {f:Nat} {i:Nat} {out:List aw}
theorem AY(h:¬i<out.length):mY l (f+1) i out=some out:=by rw [mY,dif_neg h]
theorem XI(h:i<out.length)(hl:l.length<out.length):mY l (f+1) i out=none:=by rw [mY,dif_pos h,if_pos hl]
theorem XJ(h:i<out.length)(hk:ft l out[i]=none):mY l (f+1) i out=none:=by
 rw [mY,dif_pos h]
 split
 ·rfl
 ·rw [hk]
theorem AZ{ks:List aw}(h:i<out.length)(hl:¬l.length<out.length)(hk:ft l out[i]=some ks):mY l (f+1) i out=mY l f (i+1) (out++ks):=by
 rw [mY,dif_pos h,if_neg hl,hk]
structure QOk (l:List Nd) (root:Int) (i:Nat) (out:List aw):Prop where
 le:i≤out.length
 pos:0<out.length
 len:i≤l.length
 eq:sv l root=mY l (l.length+2-i) i out
def Sml (l:List Nd):Prop:=l.length≤4096∧∀n∈l,n.kids.length≤4000∧n.ab.length≤4000∧n.aj.length≤4000∧n.rows.length≤4000∧n.high.b.size≤4000∧(∀m∈n.aj,m.key.b.size≤4000∧m.hi.b.size≤4000∧m.val.b.size≤4000)∧(∀p∈n.ab,p.b.size≤4000)∧∀p∈n.rows,p.key.b.size≤4000∧p.val.b.size≤4000
theorem Sml.zero:(Nd.zero.kids.length≤4000∧Nd.zero.ab.length≤4000∧Nd.zero.aj.length≤4000∧Nd.zero.rows.length≤4000∧Nd.zero.high.b.size≤4000∧(∀m∈Nd.zero.aj,m.key.b.size≤4000∧m.hi.b.size≤4000∧m.val.b.size≤4000)∧(∀p∈Nd.zero.ab,p.b.size≤4000)∧∀p∈Nd.zero.rows,p.key.b.size≤4000∧p.val.b.size≤4000):=by
 refine⟨by decide,by decide,by decide,by decide,by decide,?_,?_,?_⟩<;>(intro m hm;cases hm)
theorem abd(C:Ls):(∀q (h:q<C.length),C[q].length=0)∨∃b,wa C b:=by
 have key:∀j,j≤C.length→∃c:Int,BI C j c:=by
  intro j
  induction j with
  |zero=>intro _;exact⟨-1,ayj C⟩
  |succ j ih=>
   intro hj
   obtain⟨c,hc⟩:=ih aa
   by_cases hz:C[j].length=0
   ·exact⟨c,are hc aa hz⟩
   ·by_cases h0:c<0
    ·exact⟨j,amy hc h0 aa aa⟩
    ·obtain⟨b,hb,rfl,hbj,_⟩:=abc hc h0
     by_cases hl:AW C[j]<AW C[b]
     ·exact⟨j,arf hc hb aa aa hl⟩
     ·exact⟨b,arh hc hb aa hl⟩
 obtain⟨c,hc⟩:=key C.length (bZ _)
 by_cases h0:c<0
 ·rcases hc with⟨h1,h2⟩|⟨b,hb,h1,_⟩
  ·exact .inl fun q h=>h2 q h h
  ·omega
 ·obtain⟨b,hb,rfl,_,_⟩:=abc hc h0
  exact .inr ⟨b,ari hc (bZ _)⟩
variable {C:Ls}
theorem UA(h:∀q (h:q<C.length),C[q].length=0):C.flatten=[]:=by
 rw [List.flatten_eq_nil_iff]
 intro L hL
 obtain⟨i,hi,rfl⟩:=cj hL
 exact kj (h i hi)
theorem ark{A R X:List aD}(h:0<X.length):(X[0]::(A++(X.drop 1++R))).Perm (A++(X++R)):=by
 cases X with
 |nil=>simp at h
 |cons x X=>exact tL.symm
theorem afW{b:Nat}(hb:wa C b):((C[b]'hb.lt)[0]'hb.ne::(C.set b ((C[b]'hb.lt).drop 1)).flatten).Perm C.flatten:=by
 have e1:(C.set b ((C[b]'hb.lt).drop 1)).flatten=(C.take b).flatten++((C[b]'hb.lt).drop 1++(C.drop (b+1)).flatten):=by
  rw [AX hb.lt,vB,rI]
 have e2:C.flatten=(C.take b).flatten++(C[b]'hb.lt++(C.drop (b+1)).flatten):=by
  conv=>lhs;rw [KH hb.lt]
  rw [vB,rI]
 have h:=ark (A:=(C.take b).flatten) (R:=(C.drop (b+1)).flatten) hb.ne
 rw [←e1,←e2]at h
 exact h
def rz (l:List aD):Prop:=l.Pairwise fun a b=>a.aW<b.aW
theorem Fs:∀(n:Nat) (C:Ls) (S:List aD),px C=n→(∀L∈C,rz L)→S.Perm C.flatten→rz S→dg C=S:=by
 intro n
 induction n with
 |zero=>
  intro C S h _ hp _
  rcases abd C with h1|⟨b,hb⟩
  ·rw [UA h1]at hp
   rw [F8 h1,List.Perm.eq_nil hp]
  ·have:=wS hb;omega
 |succ n ih=>
  intro C S h hC hp hS
  rcases abd C with h1|⟨b,hb⟩
  ·rw [UA h1]at hp
   rw [F8 h1,List.Perm.eq_nil hp]
  ·have hf:=afW hb
   rw [yB hb]
   cases S with
   |nil=>have:=(hp.trans hf.symm).length_eq;simp at this
   |cons s S=>
    have Cs:=hp.trans hf.symm
    have e:s=(C[b]'hb.lt)[0]'hb.ne:=by
     have hs:s∈C.flatten:=hp.mem_iff.1 (by simp)
     have hc:(C[b]'hb.lt)[0]'hb.ne∈s::S:=Cs.mem_iff.2 (by simp)
     rcases dK.1 hc with h|h
     ·exact h.symm
     ·have h2:=(rN.1 hS).1 _ h
      obtain⟨L,hL,hsL⟩:=List.mem_flatten.1 hs
      obtain⟨j,hj,rfl⟩:=cj hL
      obtain⟨q,hq,rfl⟩:=cj hsL
      have h3:=(hb.min j hj aa).1
      rw [aju hb.ne,aju (show 0<C[j].length by omega)]at h3
      have h4:(C[j][0]'aa).aW≤C[j][q].aW:=by
       by_cases e0:q=0
       ·subst e0;exact eI _
       ·exact Int.le_of_lt (wk.1 (hC _ (bN hj)) 0 q aa hq aa)
      omega
    subst e
    congr 1
    refine ih _ S (by have:=wS hb;omega) ?_ (List.Perm.cons_inv Cs) (rN.1 hS).2
    intro L hL
    rcases qI hL with h|h
    ·exact hC _ h
    ·subst h;exact Hq (List.drop_sublist _ _) (hC _ (bN _))
theorem yC{a b:Span}{n:Nat}(ha:a.lo.b.size≤n∧a.hi.b.size≤n)(hb:b.lo.b.size≤n∧b.hi.b.size≤n):(a.bH b).lo.b.size≤n∧(a.bH b).hi.b.size≤n:=by
 unfold Span.bH
 refine yx ?_ ?_
 ·dsimp only;split;exact hb.1;exact ha.1
 ·dsimp only;split;exact hb.2;exact ha.2
theorem sw{p:List af}{i:Int}{n:Nat}(h:∀k∈p,k.b.size≤n):(aA p i).lo.b.size≤n∧(aA p i).hi.b.size≤n:=by
 have h0:af.nil.b.size=0:=rfl
 have hg:∀j,(p.getD j af.nil).b.size≤n:=by
  intro j
  by_cases hj:j<p.length
  ·rw [nj hj];exact h _ (bN _)
  ·rw [KI aa];omega
 unfold aA
 split
 ·exact⟨by show af.nil.b.size≤n;omega,by show af.nil.b.size≤n;omega⟩
 ·refine yx ?_ (hg _)
  dsimp only;split
  ·exact hg _
  ·omega
structure aOy (l:List Nd) (p:Nat) (x:aw):Prop where
 nd:x.n=Nd.zero∨x.n∈l
 ms:x.ms.length≤4000*p
 sp:x.s.lo.b.size≤4000∧x.s.hi.b.size≤4000
 key:∀m∈x.ms,m.key.b.size≤4000∧m.hi.b.size≤4000∧m.val.b.size≤4000
def XK (n:Nd):Prop:=n.kids.length≤4000∧n.ab.length≤4000∧n.aj.length≤4000∧n.rows.length≤4000∧n.high.b.size≤4000∧(∀m∈n.aj,m.key.b.size≤4000∧m.hi.b.size≤4000∧m.val.b.size≤4000)∧(∀p∈n.ab,p.b.size≤4000)∧∀p∈n.rows,p.key.b.size≤4000∧p.val.b.size≤4000
theorem Sml.at(h:Sml l){n:Nd}(hn:n=Nd.zero∨n∈l):XK n:=by
 rcases hn with rfl|hn
 ·exact Sml.zero
 ·exact h.2 n hn
end Go.Fw

namespace Go.Fw
section
variable {α:Type} {q:α→Bool} {l m:List α}
def kz (q:α→Bool) (l:List α):Int:=match l.findIdx? q with
 |some i=>i
 |none=> -1
theorem O8{k:Nat}(hk:k<l.length)(h:q l[k]=true)(hj:∀j (h:j<l.length),j<k→q l[j]=false):kz q l=k:=by
 have e:l.findIdx? q=some k:=by
  rw [aiW]
  exact⟨hk,h,fun j wC=>by have:=hj j aa wC;simp [this]⟩
 unfold kz;rw [e]
theorem O9(h:∀j (h:j<l.length),q l[j]=false):kz q l= -1:=by
 have e:l.findIdx? q=none:=by
  rw [List.findIdx?_eq_none_iff]
  intro x hx
  obtain⟨j,hj,rfl⟩:=cj hx
  exact h j hj
 unfold kz;rw [e]
theorem uR(q:α→Bool)(l:List α):(kz q l= -1∧∀x∈l,q x=false)∨∃k,∃h:k<l.length,kz q l=(k:Nat)∧q l[k]=true∧∀j (h:j<l.length),j<k→q l[j]=false:=by
 cases e:l.findIdx? q with
 |none=>
  left
  refine⟨by unfold kz;rw [e],?_⟩
  exact List.findIdx?_eq_none_iff.1 e
 |some k=>
  right
  obtain⟨h1,h2,h3⟩:=aiW.1 e
  exact⟨k,h1,by unfold kz;rw [e],h2,fun j hj wC=>by have:=h3 j wC;simpa using this⟩
theorem Pc(q:α→Bool)(l:List α): -1≤kz q l∧kz q l<(l.length:Nat):=by
 rcases uR q l with⟨h,_⟩|⟨k,h1,h2,_⟩
 ·omega
 ·omega
theorem amc(h:kz q l= -1):l.filter (fun a=> !q a)=l:=by
 rcases uR q l with⟨_,h2⟩|⟨k,h1,h2,_⟩
 ·exact rF.2 fun a ha=>by rw [h2 a ha];rfl
 ·omega
theorem afu(h:¬kz q l= -1):l.take (kz q l).toNat=(l.take ((kz q l).toNat+1)).filter (fun a=> !q a):=by
 rcases uR q l with⟨h1,_⟩|⟨k,h1,h2,h3,h4⟩
 ·exact absurd h1 h
 ·rw [h2]
  simp only [qG]
  rw [HW (p:=fun a=> !q a) h1 (by rw [h3];rfl)]
  symm
  refine rF.2 fun a ha=> ?_
  obtain⟨j,hj,rfl⟩:=cj ha
  simp only [bV]at hj
  rw [nL,h4 j aa aa];rfl
variable {j:Nat}
theorem Ud(hj:j<m.length)(hl:j<l.length)(h:m.drop j=l.drop j):m[j]=l[j]:=by
 rw [iW hj,iW hl]at h
 exact(Ht h).1
theorem Ft(h:m.drop j=l.drop j):m.drop (j+1)=l.drop (j+1):=by
 have:=ax (List.drop 1) h
 rwa [Aw,Aw]at this
variable {i:Nat} {p:α→Bool}
theorem Uf(tS:i<j)(Ko:j<l.length)(AK:m.length=l.length)(Pd:m.take i=(l.take j).filter p)(Pe:m.drop j=l.drop j)(hq:p l[j]=true):(m.set i (m[j]'aa)).take (i+1)=(l.take (j+1)).filter p∧(m.set i (m[j]'aa)).drop (j+1)=l.drop (j+1):=by
 have e:=Ud aa Ko Pe
 constructor
 ·rw [N8 Ko hq,←Pd,e,iA (by simp;omega),List.take_set_of_le (bZ _)]
  simp
 ·rw [WR aa]
  exact Ft Pe
theorem Ug(Ko:j<l.length)(Pd:m.take i=(l.take j).filter p)(Pe:m.drop j=l.drop j)(hq:p l[j]=false):m.take i=(l.take (j+1)).filter p∧m.drop (j+1)=l.drop (j+1):=
 ⟨by rw [HW Ko hq];exact Pd,Ft Pe⟩
end
end Go.Fw

namespace Go.Fw
theorem H2{α:Type}{o:Option α}{d:α}(h:o.isSome=true):o=some (o.getD d):=by cases o<;>simp_all
def qP (l:List aG) (k:af) (e:bG) (n:Int):Bool:=(bz l k).isSome|| !(decide (e.kind=1)||decide (e.kind=2))||decide ((l.length:Int)<n)
def eD (l:List aG) (m:aD) (n:Int):Bool:=decide (m.kind=4)||qP l m.key (m.on m.key) n
def wU (l:List aG) (m:aD) (n:Int):Bool:=decide (3≤m.kind)||(bz l m.key).isSome||decide ((l.length:Int)<n)
variable {m:aD}
theorem aD.C0(h:m.R):m.span.has m.key=true:=by
 unfold aD.R at h
 obtain⟨h1,h2⟩:=h
 unfold aD.span
 by_cases hk:m.kind=4
 ·rw [if_pos hk]at h2⊢
  have h3:=h2.2.2
  rw [aD.span,if_pos hk]at h3
  have:=Span.empty_eq ⟨m.key,m.hi,m.bQ⟩
  rw [h3]at this
  simpa using this
 ·rw [if_neg hk,mW aa];simp
variable {l:List aG}
theorem Ew{n:Int}(h:m.R):eD l m n=wU l m n:=by
 have hk:=aD.C0 h
 unfold aD.R at h
 obtain⟨h1,h2⟩:=h
 unfold eD wU qP aD.on
 rw [hk]
 by_cases h4:m.kind=4
 ·simp [h4]
 ·rw [if_neg h4]at h2
  rcases h2.2.2 with h5|h5|⟨h5,_⟩<;>rw [h5]<;>simp
def mZ (l:List aG) (m:aD) (n:Int):List aG×Bool:=if eD l m n=true then(takeN l m,true)else([],false)
theorem sx{n:Int}(h:eD l m n=true):mZ l m n=(takeN l m,true):=if_pos h
theorem A0{n:Int}(h:eD l m n=false):mZ l m n=([],false):=if_neg (by simp [h])
def ed (n:Int):List aG→List aD→List aG×Nat
 |l,[]=>(l,0)
 |l,m::ms=>if eD l m n=true then((ed n (takeN l m) ms).1,(ed n (takeN l m) ms).2+1)else(l,0)
theorem KJ(n:Int):∀(ms:List aD) (l:List aG),(ed n l ms).2≤ms.length
 |[],l=>by simp [ed]
 |m::ms,l=>by
  unfold ed;split
  ·have:=KJ n ms (takeN l m);simp;exact this
  ·simp
theorem Mh(n:Int):∀(ms:List aD) (l:List aG),(ed n l ms).1=cq l (ms.take (ed n l ms).2)
 |[],l=>by simp [ed,cq]
 |m::ms,l=>by
  unfold ed;split
  ·rw [Mh n ms (takeN l m)];simp [cq]
  ·simp [cq]
variable {k:Nat} {ms:List aD}
theorem abe{n:Int}(hk:k<ms.length)(h:eD (cq l (ms.take k)) ms[k] n=true):
  ed n (cq l (ms.take k)) (ms.drop k)=((ed n (cq l (ms.take (k+1))) (ms.drop (k+1))).1,(ed n (cq l (ms.take (k+1))) (ms.drop (k+1))).2+1):=by
 rw [iW hk,ed,if_pos h,CG hk]
theorem abf{n:Int}(hk:k<ms.length)(h:eD (cq l (ms.take k)) ms[k] n=false):
  ed n (cq l (ms.take k)) (ms.drop k)=(cq l (ms.take k),0):=by
 rw [iW hk,ed,if_neg (by simp [h])]
def kI (n:Int) (l:List aG) (ms:List aD) (k:Nat):Prop:=ed n l ms=((ed n (cq l (ms.take k)) (ms.drop k)).1,k+(ed n (cq l (ms.take k)) (ms.drop k)).2)
theorem kI.zero(n:Int)(l:List aG)(ms:List aD):kI n l ms 0:=by simp [kI,cq]
theorem kI.succ{n:Int}(h:kI n l ms k)(hk:k<ms.length)(hf:eD (cq l (ms.take k)) ms[k] n=true):kI n l ms (k+1):=by
 unfold kI at h⊢
 rw [h,abe hk hf]
 simp only [Hu,true_and];omega
theorem kI.stop{n:Int}(h:kI n l ms k)(hk:k<ms.length)(hf:eD (cq l (ms.take k)) ms[k] n=false):ed n l ms=(cq l (ms.take k),k):=by
 unfold kI at h
 rw [h,abf hk hf];rfl
theorem kI.all{n:Int}(h:kI n l ms k)(hk:ms.length≤k):ed n l ms=(cq l ms,k):=by
 unfold kI at h
 rw [h,yj hk,fI hk];rfl
theorem F9(n:Int):∀(ms:List aD) (l:List aG),bc l→(∀m∈ms,m.R)→(((ed n l ms).1.length:Nat):Int)≤max (l.length:Int) n
 |[],l,_,_=>by first|(simp [ed];done)|(simp only [ed];omega)
 |m::ms,l,hP,hm=>by
  unfold ed;split
  ·rename_i hf
   have hR:=hm m (by simp)
   have hR':=hR
   unfold aD.R at hR'
   have h1:=F9 n ms (takeN l m) (hP.KA hR'.1.2.1 hR'.1.2.2.1) (fun m h=>hm m (by simp [h]))
   have h2:(((takeN l m).length:Nat):Int)≤max (l.length:Int) n:=by
    rw [Ew hR]at hf
    have h3:=hP.wR m
    unfold takeN
    split
    ·have:=fy (fun p:aG=> !m.span.has p.key) l;clear h3;omega
    ·rename_i h4
     clear h3
     have hr:=hP.o8
     have key:∀ {e:bG},((bz l m.key).isSome=true∨e.kind=3)→(bW l m.key e).length≤l.length:=fun {e} h=>by
      rw [j3,hr.front]
      cases hs:(bz l m.key).isSome
      ·rw [hr.xk hs]
       rcases h with h|h
       ·rw [hs]at h;cases h
       ·have:bG.apply e (bz l m.key)=none:=by simp [bG.apply,h]
        rw [this]
        have:=zy l m.key
        simp [vZ]<;>omega
      ·have hh:=hr.has m.key
       rw [hs]at hh
       obtain⟨q1,q2⟩:=jW hh.symm
       rw [hr.rh q1 q2]
       have:=aq2 (bG.apply e (bz l m.key)) m.key
       simp;omega
     unfold wU at hf
     simp only [kU,fJ]at hf
     have hk:=aD.C0 hR
     rcases hf with(hf|hf)|hf
     ·have hq:=hR'.2
      rw [if_neg h4]at hq
      have hq3:m.kind=3:=by rcases hq.2.2 with h|h|h<;>omega
      have:=key (e:=m.on m.key) (.inr (by unfold aD.on;rw [hk,hq3];rfl))
      omega
     ·have:=key (e:=m.on m.key) (.inl hf);omega
     ·have:=hr.wQ m.key (m.on m.key);omega
   have h5:max ((takeN l m).length:Int) n≤max (l.length:Int) n:=aa
   dsimp only;omega
  ·dsimp only;omega
theorem Mi(h:m.R):m.key.b.size≤16∧m.val.b.size≤16:=⟨h.1.2.1,h.1.2.2.1⟩
theorem afX{s:Span}{n:Nat}(h:s.lo.b.size≤n):s.norm.lo.b.size≤n:=by
 unfold Span.norm
 split
 ·show 0≤n;omega
 ·split<;>exact h
def aD.fit (m:aD):Prop:=m.key.b.size≤1000∧(m.kind=4∨m.key.b.size≤16)∧m.val.b.size≤16
theorem It(h:m.key.b.size≤16∧m.val.b.size≤16):m.fit:=⟨aa,.inr h.1,h.2⟩
theorem bc.XL(h:bc l)(hf:m.fit):bc (takeN l m):=by
 unfold takeN
 split
 ·exact h.filter _
 ·rename_i h4
  exact h.with (hf.2.1.resolve_left h4) (Ep _ hf.2.2)
theorem bc.aqE:∀ {l:List aG},bc l→(∀m∈ms,m.fit)→bc (cq l ms):=by
 induction ms with
 |nil=>exact fun h _=>h
 |cons m ms ih=>exact fun h hm=>ih (h.XL (hm m (by simp))) (fun m h=>hm m (by simp [h]))
theorem Pp(h:bc l)(hm:∀m∈ms,m.fit):(cq l ms).length≤l.length+ms.length:=by
 induction ms generalizing l with
 |nil=>simp [cq]
 |cons m ms ih=>
  have h1:=ih (h.XL (hm m (by simp))) (fun m h=>hm m (by simp [h]))
  have h2:=h.wR m
  simp only [cq,wm,jo]at h1⊢;omega
theorem P7{s:Span}(hs:s.lo.b.size≤300)(hm:∀m∈ms,m.key.b.size≤16∧m.val.b.size≤16):∀m∈aB s ms,m.fit:=by
 intro m hmm
 unfold aB at hmm
 obtain⟨a,ha,he⟩:=wl.1 hmm
 split at he
 ·cases he
  have h1:=hm a ha
  have h0:∀x:af,x=af.nil→x.b.size≤300:=fun x hx=>by rw [hx];show 0≤300;omega
  unfold aD.clip
  split
  ·exact⟨by show 0≤1000;omega,.inr (by show 0≤16;omega),by show 0≤16;omega⟩
  ·split
   ·rename_i h4
    refine⟨?_,.inl h4,h1.2⟩
    show(a.span.bH s).lo.b.size≤1000
    have hl:(if a.span.lo.lt s.lo=true then s.lo else a.span.lo).b.size≤300:=by
     split
     ·exact hs
     ·rw [aD.span,if_pos h4];show a.key.b.size≤300;omega
    unfold Span.bH
    exact gg (afX hl) aa
   ·exact It h1
 ·cases he
theorem bL(a b:Span)(k:af):(a.bH b).has k=(a.has k&&b.has k):=by
 unfold Span.bH
 rw [ld]
 rw [eZ]
 simp only [Span.has,cm,kV,kU]
 have eG:(k.lt (if a.lo.lt b.lo=true then b.lo else a.lo)=false)↔(k.lt a.lo=false∧k.lt b.lo=false):=by
  by_cases h:a.lo.lt b.lo=true
  ·rw [if_pos h]
   refine⟨fun h1=>⟨?_,h1⟩,fun h1=>h1.2⟩
   cases h2:k.lt a.lo
   ·rfl
   ·rw [af.lt_trans h2 h]at h1;cases h1
  ·rw [if_neg h]
   refine⟨fun h1=>⟨h1,?_⟩,fun h1=>h1.1⟩
   cases h2:k.lt b.lo
   ·rfl
   ·rw [af.lt_of_lt_of_le h2 (by simpa using h)]at h1;cases h1
 rw [eG]
 cases ha:a.bQ<;>cases hb:b.bQ<;>simp
 ·by_cases h:b.hi.lt a.hi=true
  ·rw [if_pos h]
   grind [af.lt_trans]
  ·rw [if_neg h]
   have h:b.hi.lt a.hi=false:=by simpa using h
   have:∀ {x:af},x.lt a.hi=true→x.lt b.hi=true:=fun hx=>af.lt_of_lt_of_le hx h
   grind
 all_goals grind
theorem fv(s:Span)(m:aD)(ms:List aD):aB s (m::ms)=if(m.clip s).2=true then(m.clip s).1::aB s ms else aB s ms:=by
 unfold aB;rw [rS];split<;>simp_all
theorem afY{s:Span}(hr:gW l)(hk:m.key.b.size<140737488355328):(if(m.clip s).2=true then takeN (l.filter fun p=>s.has p.key) (m.clip s).1 else l.filter fun p=>s.has p.key)=(takeN l m).filter fun p=>s.has p.key:=by
 have hmh:=fun k=>bL m.span s k
 cases he:(m.span.bH s).empty
 ·by_cases h4:m.kind=4
  ·rw [uC he h4,if_pos rfl]
   unfold takeN
   rw [if_pos h4,if_pos h4,tM,tM]
   congr 1
   funext p
   have e1:aD.span { m with key:=(m.span.bH s).lo,hi:=(m.span.bH s).hi,bQ:=(m.span.bH s).bQ } =m.span.bH s:=by rw [aD.span,if_pos h4]
   rw [e1,hmh]
   cases s.has p.key<;>simp
  ·rw [N7 he h4,if_pos rfl]
   unfold takeN
   rw [if_neg h4,if_neg h4]
   have lW:∀x,m.span.has x=decide (x=m.key):=fun x=>by rw [aD.span,if_neg h4];exact mW hk
   have gH:s.has m.key=true:=by
    have:=Span.empty_eq (m.span.bH s)
    rw [he,hmh,lW]at this
    simp only [Bool.not_eq_false',cm,fJ]at this
    rw [←this.1];exact this.2
   rw [j3,j3,pf (fun k=>s.has k),if_pos gH,gv,gv,tM,tM,tM,tM]
   congr 1
   ·congr 1
    ·congr 1;funext p;exact Hv _ _
    ·cases bG.apply (m.on m.key) (bz l m.key)<;>simp [vZ,gH]
   ·congr 1;funext p;exact Hv _ _
 ·rw [uB he]
  simp only [WS,yn]
  have hno:∀k,m.span.has k=true→s.has k=false:=fun k h1=>by
   have h2:=hmh k
   have h3:(m.span.bH s).has k=false:=by
    cases h:(m.span.bH s).has k
    ·rfl
    ·simp only [Span.empty,cm,kV]at he
     simp only [Span.has,he.1,uy,cm,kV]at h
     rw [af.lt_of_le_of_lt h.1 h.2]at he;cases he.2
   rw [h3,h1]at h2;simpa using h2.symm
  unfold takeN
  by_cases h4:m.kind=4
  ·rw [if_pos h4,tM]
   refine qA fun p _=> ?_
   cases h:m.span.has p.key
   ·simp
   ·rw [hno _ h];rfl
  ·rw [if_neg h4]
   have lW:∀x,m.span.has x=decide (x=m.key):=fun x=>by rw [aD.span,if_neg h4];exact mW hk
   have Iu:s.has m.key=false:=hno _ (by rw [lW];simp)
   rw [j3,gv,gv]
   have e2:(vZ (bG.apply (m.on m.key) (bz l m.key)) m.key).filter (fun p=>s.has p.key)=[]:=by
    cases bG.apply (m.on m.key) (bz l m.key)<;>simp [vZ,Iu]
   rw [e2,cx,hr.front]
   cases hs:(bz l m.key).isSome
   ·rw [hr.xk hs,←gv,fo]
   ·have hh:=hr.has m.key
    rw [hs]at hh
    obtain⟨q1,q2⟩:=jW hh.symm
    rw [hr.rh q1 q2]
    have e3:l=l.take (eW l m.key)++l[eW l m.key]::l.drop (eW l m.key+1):=by rw [←iW q1,fo]
    conv=>lhs;rw [e3]
    rw [gv,nM (by rw [q2,Iu];simp)]
theorem qQ{s:Span} :∀ {ms:List aD} {l:List aG},gW l→(∀m∈ms,m.key.b.size<140737488355328)→cq (l.filter fun p=>s.has p.key) (aB s ms)=(cq l ms).filter fun p=>s.has p.key
 |[],l,_,_=>by simp [aB,cq]
 |m::ms,l,hr,hm=>by
  have h1:=afY (s:=s) hr (hm m (by simp))
  have XM:gW (takeN l m):=by
   unfold takeN;split
   ·exact hr.filter _
   ·exact hr.with _ _
  have h2:=qQ (s:=s) (ms:=ms) XM (fun m h=>hm m (dk _ h))
  rw [fv]
  show _=(cq (takeN l m) ms).filter _
  rw [←h2]
  split
  ·rename_i hc
   rw [if_pos hc]at h1
   rw [←h1];rfl
  ·rename_i hc
   rw [if_neg hc]at h1
   rw [←h1]
end Go.Fw

namespace Go.Fw
open Go Go.RowKit
def C1 (ss:List aw) (i:Nat):Int:=if i+1<ss.length∧(ss.getD (i+1) default).n.level=(ss.getD i default).n.level then(ss.getD (i+1) default).n.slot else-1
def Iv (ss:List aw):Prop:=∀i (h:i<ss.length),ss[i].n.right=C1 ss i
instance (ss : List aw) : Decidable (Iv ss) := by unfold Iv; infer_instance
def xu (x:aw):Prop:=(x.n.fp=x.s.bQ∧x.n.high=x.s.hi)∧(∀i (h:i<x.n.rows.length),x.s.has x.n.rows[i].key=true)∧(∀i (h:i<x.n.ab.length),x.s.has x.n.ab[i]=true∧x.n.ab[i]≠x.s.lo)∧∀i (h:i<x.n.aj.length),x.n.aj[i].span.bH x.s=x.n.aj[i].span.norm
instance (x : aw) : Decidable (xu x) := by unfold xu; infer_instance
def P8 (ss:List aw) (i:Int):List aw:=ss.filter fun x=>decide (x.n.slot=i)
def Qa (l:List Nd) (ss:List aw):Prop:=l.length=ss.length∧∀i (h:i<l.length),(P8 ss l[i].slot).length=1
instance (l : List Nd) (ss : List aw) : Decidable (Qa l ss) := by unfold Qa; infer_instance
def XN (x:aw):Prop:=∀j (h:j<x.ms.length),x.n.seen<x.ms[j].aW
instance (x : aw) : Decidable (XN x) := by unfold XN; infer_instance
def yV (c:aX) (x:aw):Prop:=x.n.R c.fan c.leaf c.aT∧xu x∧x.n.slot<c.bp∧XN x
instance (c : aX) (x : aw) : Decidable (yV c x) := by unfold yV; infer_instance
def XO (c:aX) (l:List Nd) (ss:List aw):Prop:=(Qa l ss∧Iv ss∧(l.length:Int)≤c.bp)∧∀i (h:i<ss.length),yV c ss[i]
instance (c : aX) (l : List Nd) (ss : List aw) : Decidable (XO c l ss) := by unfold XO; infer_instance
def jf (l:List Nd):Prop:=∀i (h:i<l.length),l[i].slot=(i:Int)∧l[i].seen≤1099511627776
instance (l : List Nd) : Decidable (jf l) := by unfold jf; infer_instance
variable {i:Nat} {ss:List aw}
theorem Qb(h:¬i+1<ss.length):C1 ss i= -1:=by
 unfold C1
 exact if_neg fun h2=>h h2.1
variable {l:List Nd}
theorem abg{r:aw} :∀(f i:Nat) (out ss:List aw),mY l f i out=some ss→out=r::(out.take i).flatMap (bu l)→(∀x∈out.take i,(ft l x).isSome=true)→
  ss=r::ss.flatMap (bu l)∧∀x∈ss,(ft l x).isSome=true:=by
 intro f
 induction f with
 |zero=>intro i out ss h;cases h
 |succ f ih=>
  intro i out ss h he hs
  by_cases hi:i<out.length
  ·by_cases hl:l.length<out.length
   ·rw [XI hi hl]at h;cases h
   ·cases hk:ft l out[i]with
    |none=>rw [XJ hi hk]at h;cases h
    |some ks=>
     rw [AZ hi hl hk]at h
     have e:(out++ks).take (i+1)=out.take i++[out[i]]:=by
      rw [Ej aa,iA hi]
     refine ih _ _ _ h ?_ ?_
     ·rw [e,dT,←pC,←he]
      congr 1
      simp [bu,hk]
     ·intro x hx
      rw [e,cP,gh]at hx
      rcases hx with hx|rfl
      ·exact hs x hx
      ·rw [hk];rfl
  ·rw [AY hi]at h
   cases h
   rw [fI aa]at he hs
   exact⟨he,hs⟩
theorem Qc{root:Int}(h:sv l root=some ss):(cE l root).2=true∧ss=bC l root::ss.flatMap (bu l)∧∀x∈ss,(ft l x).isSome=true:=by
 unfold sv at h
 split at h
 ·rename_i hf
  exact⟨hf,abg _ _ _ _ h rfl (fun x hx=>by simp at hx)⟩
 ·cases h
variable {x:aw}
theorem cL(h:(ft l x).isSome=true)(h0:¬x.n.level=0):bu l x=l8 l x x.n.kids.length∧0<x.n.level∧fA x.n.ab x.n.kids.length=true∧∀j,j<x.n.kids.length→oK l x j=true:=by
 unfold bu ft at*
 rw [if_neg h0]at h⊢
 split at h
 ·cases h
 ·rename_i h1
  rw [if_neg h1]
  split at h
  ·rename_i h2
   rw [if_pos h2]
   refine⟨rfl,aa,by simpa using fun h=>h1 (.inr h),fun j hj=>ym.1 h2 j (gN.2 hj)⟩
  ·cases h
theorem fN(h0:x.n.level=0):bu l x=[]:=by rw [bu,uQ h0];rfl
theorem UB{l:List Nd}(h:jf l)(i:Int):∀k,k≤l.length→XH (l.take k) i=if h:0≤i∧i<k∧i.toNat<l.length then [l[i.toNat]]else []
 |0,_=>by rw [dif_neg aa];rfl
 |k+1,hk=>by
  have ih:=UB h i k aa
  have hs:=(h k aa).1
  by_cases e:l[k].slot=i
  ·rw [aCI aa e,ih,dif_neg aa,dif_pos ⟨aa,aa,aa⟩,iU]
   congr 2;omega
  ·rw [aCJ aa e,ih]
   by_cases e2:0≤i∧i<k∧i.toNat<l.length
   ·rw [dif_pos e2,dif_pos ⟨e2.1,aa,e2.2.2⟩]
   ·rw [dif_neg e2,dif_neg aa]
theorem Qd(h:jf l)(i:Int):XH l i=if h:0≤i∧i<l.length∧i.toNat<l.length then [l[i.toNat]]else []:=by
 have:=UB h i l.length (bZ _)
 rwa [rT]at this
theorem Qe(h:jf l)(hi:i<l.length):cE l i=(l[i],true):=by
 unfold cE
 rw [Qd h,dif_pos ⟨aa,aa,aa⟩]
 simp
theorem arl(h:jf l){i:Int}(hi:¬(0≤i∧i<l.length)):cE l i=(Nd.zero,false):=by
 unfold cE
 rw [Qd h,dif_neg aa]
 rfl
theorem sy(h:jf l)(i:Int):cE l i=(ai l i,decide (0≤i∧i<l.length)):=by
 by_cases hi:0≤i∧i<l.length
 ·obtain⟨k,rfl⟩:∃k:Nat,i=k:=⟨i.toNat,aa⟩
  rw [Qe h aa,su aa,dB hi]
 ·rw [arl h hi,gr hi]
  congr 1
  unfold ai
  split
  ·rw [fc,rE aa];rfl
  ·rfl
structure Tree (c:aX) (l:List Nd) (ss:List aw):Prop where
 kd:lY c
 pos:0<l.length
 C2:Sml l
 slot:jf l
 KK:sv l 0=some ss
 q:XO c l ss
variable {c:aX} {l:List Nd} {ss:List aw}
theorem Tree.fix(t:Tree c l ss):ss=bC l 0::ss.flatMap (bu l):=(Qc t.KK).2.1
theorem Tree.root(t:Tree c l ss):bC l 0∈ss:=by rw [t.fix];simp
theorem Tree.kids(t:Tree c l ss)(hx:x∈ss):(ft l x).isSome=true:=(Qc t.KK).2.2 x hx
variable {y:aw}
theorem Tree.Iw(t:Tree c l ss)(hx:x∈ss)(hy:y∈bu l x):y∈ss:=by rw [t.fix];exact dk _ (kl.2 ⟨x,hx,hy⟩)
theorem Tree.gz(t:Tree c l ss)(hx:x∈ss):yV c x:=by
 obtain⟨i,hi,rfl⟩:=cj hx
 exact t.q.2 i hi
theorem Tree.lvl(t:Tree c l ss)(hx:x∈ss):0≤x.n.level:=(t.gz hx).1.1.2.1
theorem Tree.pK(t:Tree c l ss):(bC l 0).n=ai l 0:=by
 show(cE l 0).1=_
 rw [sy t.slot]
theorem Tree.at(t:Tree c l ss){x:aw}(hx:x∈ss)(h0:¬x.n.level=0){j:Nat}(hj:j<x.n.kids.length):
  aq l x j∈ss∧(0≤x.n.kids[j]∧x.n.kids[j]<l.length)∧(aq l x j).n=ai l x.n.kids[j]∧(aq l x j).n.level=x.n.level-1:=by
 obtain⟨h1,h2,h3,h4⟩:=cL (t.kids hx) h0
 have hk:=h4 j hj
 unfold oK at hk
 have ej:x.n.kids.getD j 0=x.n.kids[j]:=by rw [fc,eY hj];rfl
 rw [ej,sy t.slot,cm,fJ,fJ]at hk
 have en:(aq l x j).n=ai l x.n.kids[j]:=by
  show(cE l (x.n.kids.getD j 0)).1=_
  rw [ej,sy t.slot]
 refine⟨t.Iw hx ?_,hk.1,en,by rw [en];exact hk.2⟩
 rw [h1]
 exact cB.2 ⟨j,gN.2 hj,rfl⟩
theorem cZ(h:jf l){i:Int}(hi:0≤i∧i<l.length):(ai l i).slot=i∧ai l i∈l:=by
 obtain⟨k,rfl⟩:∃k:Nat,i=k:=⟨i.toNat,aa⟩
 rw [su aa]
 exact⟨(h k aa).1,bN _⟩
theorem Tree.nd(t:Tree c l ss)(hx:x∈ss):∃h:0≤x.n.slot∧x.n.slot<l.length,x.n=ai l x.n.slot∧x.n∈l:=by
 have key:∃i:Int,(0≤i∧i<l.length)∧x.n=ai l i:=by
  rw [t.fix]at hx
  rcases dK.1 hx with rfl|hx
  ·exact⟨0,⟨aa,by have:=t.pos;omega⟩,t.pK⟩
  ·obtain⟨y,hy,hk⟩:=kl.1 hx
   by_cases h0:y.n.level=0
   ·rw [fN h0]at hk;cases hk
   ·rw [(cL (t.kids hy) h0).1]at hk
    obtain⟨j,hj,rfl⟩:=cB.1 hk
    have:=t.at hy h0 (gN.1 hj)
    exact⟨_,this.2.1,this.2.2.1⟩
 obtain⟨i,hi,e⟩:=key
 obtain⟨h1,h2⟩:=cZ t.slot hi
 have hs:x.n.slot=i:=by rw [e];exact h1
 exact⟨aa,by rw [hs];exact e,by rw [e];exact h2⟩
theorem Tree.perm(t:Tree c l ss):(ss.map (·.n)).Perm l:=by
 have hon:=t.q.1.1
 have hnl:l.Nodup:=by
  refine wk.2 fun i j hi hj tS he=> ?_
  have h1:=(t.slot i hi).1
  have h2:=(t.slot j hj).1
  rw [he]at h1
  omega
 refine(List.perm_ext_iff_of_nodup ?_ hnl).2 fun a=>⟨fun ha=> ?_,fun ha=> ?_⟩
 ·rw [List.nodup_iff_count]
  intro a
  by_cases ha:a∈ss.map (·.n)
  ·obtain⟨x,hx,rfl⟩:=cB.1 ha
   obtain⟨hs,hn,hm⟩:=t.nd hx
   have h1:=hon.2 x.n.slot.toNat aa
   rw [(t.slot _ _).1,show((x.n.slot.toNat:Nat):Int)=x.n.slot by omega]at h1
   rw [←h1,List.count_eq_countP,List.countP_map,P8,←Hw]
   refine WT fun y _ hy=> ?_
   simp only [Function.comp,Hm]at hy
   simp [hy]
  ·rw [List.count_eq_zero_of_not_mem ha];omega
 ·obtain⟨x,hx,rfl⟩:=cB.1 ha
  exact(t.nd hx).2.2
 ·obtain⟨i,hi,rfl⟩:=cj ha
  have h1:=hon.2 i hi
  have h2:∃x,x∈P8 ss l[i].slot:=by
   cases h:P8 ss l[i].slot with
   |nil=>rw [h]at h1;simp at h1
   |cons x _=>exact⟨x,by simp⟩
  obtain⟨x,hx⟩:=h2
  obtain⟨Qf,C3⟩:=eO.1 hx
  have C3:=jW C3
  refine cB.2 ⟨x,Qf,?_⟩
  have iR:=(t.nd Qf).2.1
  rw [iR,C3,(t.slot i hi).1,su hi]
theorem Tree.len(t:Tree c l ss):ss.length=l.length:=t.q.1.1.1.symm
theorem sC(k:af):Span.all.has k=true:=by
 show(!k.lt af.nil&&(true||_))=true
 rw [af.nil_le];rfl
variable {j:Nat}
theorem qR(h:fA x.n.ab x.n.kids.length=true)(hj:j<x.n.kids.length)(k:af):(aq l x j).s.has k=(x.s.has k&&decide (j=ae x.n.ab k)):=by
 obtain⟨h1,h2⟩:=dp h
 show(Span.bH _ _).has k=_
 rw [bL,eR h1 k aa]
theorem zK(h:fA x.n.ab x.n.kids.length=true)(k:af):ae x.n.ab k<x.n.kids.length:=by
 have:=(dp h).2
 have h2:ae x.n.ab k≤x.n.ab.length:=fy _ _
 omega
theorem filter_one(b:Bool)(r:Nat):∀n,(List.range n).filter (fun j=>b&&decide (j=r))=if b=true∧r<n then [r]else []
 |0=>by simp
 |n+1=>by
  rw [uz,gv,filter_one b r n]
  cases b
  ·simp
  ·by_cases h:r<n
   ·rw [if_pos ⟨rfl,h⟩,if_pos ⟨rfl,aa⟩,nM (by simp;omega)];simp
   ·rw [if_neg (by simp;omega)]
    by_cases h2:r=n
    ·subst h2;rw [if_pos ⟨rfl,aa⟩,oz (by simp)];simp
    ·rw [if_neg (by simp;omega),nM (by simp;omega)];simp
noncomputable def vJ (l:List Nd) (k:af) (x:aw):Option aw:=if x.n.level=0 then none else some (aq l x (ae x.n.ab k))
variable {k:af}
theorem Qg(h:x.n.level=0):vJ l k x=none:=if_pos h
theorem oL(h:¬x.n.level=0):vJ l k x=some (aq l x (ae x.n.ab k)):=if_neg h
variable {α:Type} {β:Type}
theorem wF(p:β→Bool)(f:α→β):∀(l:List α),(l.map f).filter p=(l.filter fun a=>p (f a)).map f
 |[]=>rfl
 |a::l=>by
  rw [cA,lF,lF,wF p f l]
  split<;>simp_all
theorem Qh{p q:α→Bool}{l:List α}(h:∀a∈l,p a=q a):l.filter p=l.filter q:=qA h
theorem Tree.aG3(t:Tree c l ss)(k:af)(hx:x∈ss):((bu l x).filter fun y=>y.s.has k)=if x.s.has k=true then(vJ l k x).toList else []:=by
 by_cases h0:x.n.level=0
 ·rw [fN h0,Qg h0];simp
 ·obtain⟨h1,h2,h3,h4⟩:=cL (t.kids hx) h0
  rw [h1,oL h0]
  unfold l8
  rw [wF,Qh (q:=fun j=>x.s.has k&&decide (j=ae x.n.ab k)) (fun j hj=>qR h3 (gN.1 hj) k),filter_one]
  have:=zK h3 k
  by_cases hk:x.s.has k=true
  ·rw [if_pos ⟨hk,this⟩,if_pos hk];rfl
  ·rw [if_neg (fun h=>hk h.1),if_neg hk];rfl
def zL (k:af) (ss:List aw):List aw:=ss.filter fun y=>y.s.has k
theorem Tree.arm(t:Tree c l ss)(k:af):zL k ss=bC l 0::(zL k ss).filterMap (vJ l k):=by
 have key:∀(ts:List aw),(∀x∈ts,x∈ss)→zL k (ts.flatMap (bu l))=(zL k ts).filterMap (vJ l k):=by
  intro ts
  induction ts with
  |nil=>intro _;rfl
  |cons x ts ih=>
   intro h
   unfold zL at*
   rw [cI,gv,ih (fun y hy=>h y (dk _ hy)),t.aG3 k (h x (by simp)),lF]
   split
   ·rw [rS]
    cases vJ l k x<;>rfl
   ·rfl
 have e:=key ss (fun x hx=>hx)
 rw [←e]
 conv=>lhs;rw [t.fix]
 unfold zL
 rw [oz (by exact sC k)]
noncomputable def sD (l:List Nd) (k:af):Nat→aw→List aw
 |0,x=>[x]
 |f+1,x=>x::match vJ l k x with
  |none=>[]
  |some y=>sD l k f y
theorem Ix:∀(T:List aw),T≠[]→∃m∈T,∀x∈T,x.n.level≤m.n.level
 |[],h=>absurd rfl h
 |[x],_=>⟨x,by simp,fun y hy=>by simp at hy;subst hy;exact eI _⟩
 |x::y::T,_=>by
  obtain⟨m,hm,hx⟩:=Ix (y::T) (by simp)
  by_cases h:m.n.level≤x.n.level
  ·exact⟨x,by simp,fun z hz=>by
    rcases dK.1 hz with rfl|hz
    ·exact eI _
    ·exact Hn (hx z hz) h⟩
  ·exact⟨m,dk _ hm,fun z hz=>by
    rcases dK.1 hz with rfl|hz
    ·omega
    ·exact hx z hz⟩
variable {T:List aw}
theorem arn{f:aw→Option aw}(h:T=T.filterMap f)(hf:∀x∈T,∀y,f x=some y→y.n.level<x.n.level):T=[]:=by
 apply rJ
 intro hn
 obtain⟨m,hm,hx⟩:=Ix T hn
 have o7:=hm
 rw [h]at o7
 obtain⟨x,Qf,C3⟩:=wl.1 o7
 have:=hf x Qf m C3
 have:=hx x Qf
 omega
theorem aro:∀(n:Nat) (z:aw) (T:List aw),z.n.level.toNat=n→T=z::T.filterMap (vJ l k)→(∀x∈T,0≤x.n.level∧∀y,vJ l k x=some y→y.n.level=x.n.level-1)→T=sD l k n z:=by
 intro n
 induction n with
 |zero=>
  intro z T hz h hf
  have hzT:z∈T:=by rw [h];simp
  have h0:z.n.level=0:=by have:=(hf z hzT).1;omega
  cases T with
  |nil=>cases hzT
  |cons a R=>
   have ea:a=z:=(Ht h).1
   subst ea
   have hR:R=R.filterMap (vJ l k):=by
    have:=(Ht h).2
    rw [rS,Qg h0]at this
    exact this
   rw [arn hR (fun x hx y hy=>by have:=(hf x (dk _ hx)).2 y hy;omega)]
   rfl
 |succ n ih=>
  intro z T hz h hf
  have h0:¬z.n.level=0:=aa
  cases T with
  |nil=>simp at h
  |cons a R=>
   have ea:a=z:=(Ht h).1
   subst ea
   have hR:=(Ht h).2
   rw [rS,oL h0]at hR
   dsimp only at hR
   have hl:=(hf a (by simp)).2 _ (oL h0)
   rw [sD,oL h0]
   dsimp only
   rw [←ih _ R aa hR (fun x hx=>hf x (dk _ hx))]
noncomputable def eF (l:List Nd) (k:af):List aw:=sD l k (bC l 0).n.level.toNat (bC l 0)
theorem Tree.step(t:Tree c l ss)(hx:x∈ss)(h:vJ l k x=some y):y∈ss∧y.n.level=x.n.level-1:=by
 by_cases h0:x.n.level=0
 ·rw [Qg h0]at h;cases h
 ·rw [oL h0]at h
  cases h
  have h3:=(cL (t.kids hx) h0).2.2.1
  have:=t.at hx h0 (zK h3 k)
  exact⟨this.1,this.2.2.2⟩
theorem Tree.way(t:Tree c l ss)(k:af):zL k ss=eF l k:=by
 refine aro _ _ _ rfl (t.arm k) fun x hx=> ?_
 have hx:=(eO.1 hx).1
 exact⟨t.lvl hx,fun y hy=>(t.step hx hy).2⟩
theorem Ex{f:Nat}(h:vJ l k x=some y):sD l k (f+1) x=x::sD l k f y:=by rw [sD,h]
theorem dv{s:Span} :s.empty=true↔∀k,s.has k=false:=by
 constructor
 ·intro h k
  have h1:s.bQ=false∧s.lo.lt s.hi=false:=by simpa [Span.empty]using h
  unfold Span.has
  rw [h1.1,uy,wj]
  cases h2:k.lt s.hi
  ·exact .inr rfl
  ·left
   cases h3:k.lt s.lo
   ·have:=af.lt_of_le_of_lt h3 h2
    rw [h1.2]at this;cases this
   ·rfl
 ·intro h
  rw [←Span.empty_eq,h];rfl
variable {a:Span} {b:Span}
theorem rk(h:∀k,a.has k=b.has k):a.norm=b.norm:=by
 have he:a.empty=b.empty:=by
  rw [eZ,dv,dv]
  exact⟨fun h1 k=>by rw [←h k];exact h1 k,fun h1 k=>by rw [h k];exact h1 k⟩
 unfold Span.norm
 rw [←he]
 cases ea:a.empty
 ·have eb:b.empty=false:=he▸ea
  simp only [WS,yn]
  have la:a.has a.lo=true:=by have:=Span.empty_eq a;rw [ea]at this;simpa using this
  have lb:b.has b.lo=true:=by have:=Span.empty_eq b;rw [eb]at this;simpa using this
  have l1:a.lo.lt b.lo=false:=by
   have:=h a.lo;rw [la]at this
   unfold Span.has at this
   simp only [Bool.true_eq,cm,kV]at this
   exact this.1
  have l2:b.lo.lt a.lo=false:=by
   have:=h b.lo;rw [lb]at this
   unfold Span.has at this
   simp only [cm,kV]at this
   exact this.1
  have eG:a.lo=b.lo:=af.iw l1 l2
  have hop:∀ {x y:Span},x.lo=y.lo→(∀k,x.has k=y.has k)→x.empty=false→y.empty=false→x.bQ=true→y.bQ=true:=by
   intro x y hxy hk hx hy ho
   cases hyo:y.bQ
   ·exfalso
    have h1:y.lo.lt y.hi=true:=by simpa [Span.empty,hyo]using hy
    have h2:y.has y.hi=false:=by unfold Span.has;rw [hyo,af.lt_irrefl];simp
    have h3:x.has y.hi=true:=by unfold Span.has;rw [ho,hxy,af.lt_asymm h1];rfl
    rw [hk,h2]at h3;cases h3
   ·rfl
  cases oa:a.bQ
  ·have ob:b.bQ=false:=by
    cases ob:b.bQ
    ·rfl
    ·have:=hop eG.symm (fun k=>(h k).symm) eb ea ob;rw [oa]at this;cases this
   have ji:∀ {x y:Span},x.lo=y.lo→(∀k,x.has k=y.has k)→x.empty=false→x.bQ=false→y.bQ=false→x.hi.lt y.hi=false:=by
    intro x y hxy hk hx ho hyo
    cases hl:x.hi.lt y.hi
    ·rfl
    ·exfalso
     have h1:x.lo.lt x.hi=true:=by simpa [Span.empty,ho]using hx
     have h2:x.has x.hi=false:=by unfold Span.has;rw [ho,af.lt_irrefl];simp
     have h3:y.has x.hi=true:=by unfold Span.has;rw [hyo,←hxy,af.lt_asymm h1,hl];rfl
     rw [←hk,h2]at h3;cases h3
   have e:a.hi=b.hi:=af.iw (ji eG h ea oa ob) (ji eG.symm (fun k=>(h k).symm) eb ob oa)
   rw [if_neg (by simp),if_neg (by simp [ob])]
   cases a;cases b;simp_all
  ·have ob:=hop eG h ea eb oa
   rw [if_pos rfl,if_pos ob,ob]
   cases a;cases b;simp_all
 ·simp
theorem afZ(s:Span):s.norm.norm=s.norm:=rk fun k=>ld s k
theorem gm(a b:Span):(a.bH b).norm=a.bH b:=afZ _
theorem KL{a' b':Span}(h:∀k,(a.has k&&b.has k)=(a'.has k&&b'.has k)):a.bH b=a'.bH b':=by
 rw [←gm a b,←gm a' b']
 exact rk fun k=>by rw [bL,bL];exact h k
variable {m:aD}
theorem qa{s:Span} :(m.clip s).2=false↔(m.span.bH s).empty=true:=by
 cases h:(m.span.bH s).empty
 ·by_cases k:m.kind=4
  ·rw [uC h k];simp
  ·rw [N7 h k];simp
 ·rw [uB h];simp
theorem xv{s:Span}(h:(m.clip s).2=true)(k:m.kind=4):(m.clip s).1.span=m.span.bH s:=by
 rw [(jh h).2,if_pos k]
 show aD.span { m with key:=(m.span.bH s).lo,hi:=(m.span.bH s).hi,bQ:=(m.span.bH s).bQ } =_
 generalize m.span.bH s=z
 unfold aD.span
 rw [if_pos k]
theorem af0{s t:Span}(kq:∀k,s.has k=true→t.has k=true):(if(m.clip t).2=true then(m.clip t).1.clip s else(⟨0,0,af.nil,af.nil,false,af.nil⟩,false))=m.clip s:=by
 cases h:(m.clip t).2
 ·rw [if_neg (by simp)]
  have h1:=qa.1 h
  have h2:(m.span.bH s).empty=true:=dv.2 fun k=>by
   have:=dv.1 h1 k
   rw [bL,wj]at this⊢
   rcases this with h|h
   ·exact .inl h
   ·right
    cases hs:s.has k
    ·rfl
    ·rw [kq k hs]at h;cases h
  rw [uB h2]
 ·rw [if_pos rfl]
  by_cases k:m.kind=4
  ·have hs:=xv h k
   have k2:(m.clip t).1.kind=4:=by rw [(jh h).2,if_pos k];exact k
   have e:(m.span.bH t).bH s=m.span.bH s:=KL fun q=>by
    rw [bL]
    cases hs:s.has q
    ·simp
    ·rw [kq q hs];simp
   cases he:(m.span.bH s).empty
   ·rw [uC (by rw [hs,e];exact he) k2,uC he k,hs,e,(jh h).2,if_pos k]
   ·rw [uB (by rw [hs,e];exact he),uB he]
  ·rw [(jh h).2,if_neg k]
theorem eL{s t:Span}(kq:∀k,s.has k=true→t.has k=true):∀(L:List aD),aB s (aB t L)=aB s L
 |[]=>rfl
 |m::L=>by
  have e:=af0 (m:=m) kq
  rw [fv t m L,fv s m L,←eL kq L]
  cases h:(m.clip t).2
  ·rw [if_neg (by simp)]
   rw [h,if_neg (by simp)]at e
   rw [←e,if_neg (by simp)]
  ·rw [if_pos rfl,fv]
   rw [h,if_pos rfl]at e
   rw [e]
theorem fi(s:Span)(A B:List aD):aB s (A++B)=aB s A++aB s B:=Hk
variable {A:List aD} {B:List aD}
theorem abh{s:Span}(h:A.Perm B):(aB s A).Perm (aB s B):=List.Perm.filterMap _ h
theorem Mj(s:Span):∀(L:List (List aD)),aB s L.flatten=(L.map (aB s)).flatten
 |[]=>rfl
 |A::L=>by rw [rI,fi,Mj s L];rfl
theorem ju{s:Span}(h:rz A):rz (aB s A):=by
 unfold rz aB
 rw [List.pairwise_filterMap]
 refine List.Pairwise.imp (fun {a b} rY x hx y hy=> ?_) h
 split at hx
 ·split at hy
  ·rename_i h1 h2
   cases hx;cases hy
   rw [gM h1,gM h2];exact rY
  ·cases hy
 ·cases hx
variable {c:aX} {l:List Nd} {ss:List aw}
theorem Tree.from(t:Tree c l ss)(hx:x∈ss):x=bC l 0∨∃y∈ss,∃h0:¬y.n.level=0,∃j,j<y.n.kids.length∧x=aq l y j:=by
 rw [t.fix]at hx
 rcases dK.1 hx with rfl|hx
 ·exact .inl rfl
 ·obtain⟨y,hy,hk⟩:=kl.1 hx
  by_cases h0:y.n.level=0
  ·rw [fN h0]at hk;cases hk
  ·rw [(cL (t.kids hy) h0).1]at hk
   obtain⟨j,hj,rfl⟩:=cB.1 hk
   exact .inr ⟨y,hy,h0,j,gN.1 hj,rfl⟩
theorem Tree.ind(t:Tree c l ss){P:aw→Prop}(h0:P (bC l 0))(hk:∀x∈ss,¬x.n.level=0→P x→∀j,j<x.n.kids.length→P (aq l x j)):∀x∈ss,P x:=by
 intro x hx
 apply rJ
 intro hn
 have hT:(ss.filter fun y=>@decide (¬P y) (Classical.propDecidable _))≠[]:=by
  intro e
  have:x∈ss.filter fun y=>@decide (¬P y) (Classical.propDecidable _):=eO.2 ⟨hx,by simpa using hn⟩
  rw [e]at this;cases this
 obtain⟨m,hm,aG4⟩:=Ix _ hT
 obtain⟨hm1,o7⟩:=eO.1 hm
 have o7:¬P m:=by simpa using o7
 rcases t.from hm1 with rfl|⟨y,hy,hy0,j,hj,rfl⟩
 ·exact o7 h0
 ·refine o7 (hk y hy hy0 ?_ j hj)
  apply rJ
  intro hPy
  have:=aG4 y (eO.2 ⟨hy,by simpa using hPy⟩)
  have:=(t.at hy hy0 hj).2.2.2
  omega
theorem Tree.inner(t:Tree c l ss)(hx:x∈ss)(h0:¬x.n.level=0):x.n.pe c.fan c.aT:=by
 have:=(t.gz hx).1.2.2.2
 rwa [if_neg h0]at this
theorem Tree.leaf(t:Tree c l ss)(hx:x∈ss)(h0:x.n.level=0):x.n.Xt c.leaf:=by
 have:=(t.gz hx).1.2.2.2
 rwa [if_pos h0]at this
theorem Tree.sE(t:Tree c l ss)(hx:x∈ss)(h0:x.n.level=0):x.n.aj=[]:=by
 have:=(t.leaf hx h0).1
 exact kj aa
theorem Tree.aj(t:Tree c l ss)(hx:x∈ss):rz x.n.aj∧(∀m∈x.n.aj,m.R)∧∀m∈x.n.aj,m.aW≤x.n.seen:=by
 by_cases h0:x.n.level=0
 ·rw [t.sE hx h0];exact⟨List.Pairwise.nil,(fun m hm=>by cases hm),fun m hm=>by cases hm⟩
 ·obtain⟨_,_,h3,_,_,_,h7⟩:=t.inner hx h0
  refine⟨(fq.iff.1 h3).2,(fq.iff.1 h3).1,fun m hm=> ?_⟩
  obtain⟨i,hi,rfl⟩:=cj hm
  exact(h7 i hi).1
theorem oM(ha:rz A)(hb:rz B)(h:∀a∈A,∀b∈B,a.aW<b.aW):dg [A,B]=A++B∧rz (A++B):=by
 have hr:rz (A++B):=wo.2 ⟨ha,hb,h⟩
 refine⟨Fs _ _ _ rfl ?_ (by simp) hr,hr⟩
 intro L hL
 simp only [dK,ww,Ek]at hL
 rcases hL with rfl|rfl
 ·exact ha
 ·exact hb
theorem gX{s:Span}(h:m∈aB s A):∃a∈A,m.aW=a.aW:=by
 obtain⟨a,ha,h1,rfl⟩:=mS h
 exact⟨a,ha,gM h1⟩
theorem Tree.sF(t:Tree c l ss)(hx:x∈ss)(hr:rz x.ms)(j:Nat):
  (aq l x j).ms=aB (aq l x j).s x.n.aj++aB (aq l x j).s x.ms∧rz (aq l x j).ms:=by
 obtain⟨h1,_,h3⟩:=t.aj hx
 have hs:=(t.gz hx).2.2.2
 have:=oM (A:=aB (aq l x j).s x.n.aj) (B:=aB (aq l x j).s x.ms) (ju h1) (ju hr) fun a ha b hb=>by
  obtain⟨a',ha',e1⟩:=gX ha
  obtain⟨b',ow,e2⟩:=gX hb
  have:=h3 a' ha'
  obtain⟨i,hi,rfl⟩:=cj ow
  have:=hs i hi
  omega
 have e:(aq l x j).ms=dg [aB (aq l x j).s x.n.aj,aB (aq l x j).s x.ms]:=rfl
 exact⟨by rw [e,this.1],by rw [e,this.1];exact this.2⟩
theorem Tree.ub(t:Tree c l ss):∀x∈ss,rz x.ms:=t.ind List.Pairwise.nil fun x hx _ hr j _=>(t.sF hx hr j).2
theorem Tree.fits(t:Tree c l ss):∀x∈ss,(x.s.lo.b.size≤16∧x.s.hi.b.size≤16)∧∀m∈x.ms,m.R:=by
 refine t.ind ⟨⟨by show af.nil.b.size≤16;decide,by show af.nil.b.size≤16;decide⟩,fun m hm=>by cases hm⟩ fun x hx h0 ih j hj=> ?_
 have hi:=t.inner hx h0
 have lW:(aq l x j).s.lo.b.size≤16∧(aq l x j).s.hi.b.size≤16:=yC ih.1 (sw fun k hk=>by
  obtain⟨i,jY,rfl⟩:=cj hk
  exact(hi.2.2.2.2.2.1 i jY).2.1)
 refine⟨lW,fun m hm=> ?_⟩
 rw [(t.sF hx (t.ub x hx) j).1,cP]at hm
 rcases hm with hm|hm<;>obtain⟨a,ha,h1,rfl⟩:=mS hm
 ·exact AP ((t.aj hx).2.1 a ha) lW.1 lW.2 h1
 ·exact AP (ih.2 a ha) lW.1 lW.2 h1
theorem C4(k:af)(h:(aq l x j).s.has k=true):x.s.has k=true:=by
 have e:(aq l x j).s.has k=(x.s.has k&&(aA x.n.ab (j:Int)).has k):=bL _ _ _
 rw [e,cm]at h
 exact h.1
theorem Tree.path(t:Tree c l ss):∀(n:Nat) (x:aw) (P:List aw),x∈ss→x.n.level.toNat=n→x.s.has k=true→x.ms.Perm ((P.map fun y=>aB x.s y.n.aj).flatten)→
  ∃z,(P++sD l k n x).getLast?=some z∧z∈ss∧z.n.level=0∧z.s.has k=true∧(∀y∈sD l k n x,y∈ss∧(y.n.level=0→y=z))∧z.ms.Perm (((P++sD l k n x).map fun y=>aB z.s y.n.aj).flatten):=by
 intro n
 induction n with
 |zero=>
  intro x P hx hn hk hp
  have h0:x.n.level=0:=by have:=t.lvl hx;omega
  refine⟨x,by simp [sD],hx,h0,hk,fun y hy=>by simp [sD]at hy;subst hy;exact⟨hx,fun _=>rfl⟩,?_⟩
  rw [sD,bU,vB]
  simp only [cA,lG,rI,List.flatten_nil,t.sE hx h0]
  simpa [aB]using hp
 |succ n ih=>
  intro x P hx hn hk hp
  have h0:¬x.n.level=0:=aa
  have h3:=(cL (t.kids hx) h0).2.2.1
  have hj:=zK h3 k
  have ha:=t.at hx h0 hj
  have hy:(aq l x (ae x.n.ab k)).s.has k=true:=by rw [qR h3 hj,hk];simp
  have Iy:=(t.sF hx (t.ub x hx) (ae x.n.ab k)).1
  rw [Ex (oL h0)]
  obtain⟨z,h1,h2,h4,h5,h6,h7⟩:=ih (aq l x (ae x.n.ab k)) (P++[x]) ha.1 aa hy (by
   rw [Iy,bU,vB]
   simp only [cA,lG,rI,List.flatten_nil,cx]
   refine tN.trans (pD _ ?_)
   refine(abh hp).trans (nJ ?_)
   rw [Mj,lS]
   congr 1
   refine rU fun y _=> ?_
   exact eL (fun q hq=>C4 q hq) _)
  refine⟨z,by simpa using h1,h2,h4,h5,fun y hy=> ?_,by simpa using h7⟩
  rcases dK.1 hy with rfl|hy
  ·exact⟨hx,fun h=>absurd h h0⟩
  ·exact h6 y hy
noncomputable def cG (l:List Nd) (k:af):aw:=(eF l k).getLast?.getD default
structure ayk (l:List Nd) (ss:List aw) (k:af) (z:aw):Prop where
 last:(eF l k).getLast?=some z
 mem:z∈ss
 lvl:z.n.level=0
 has:z.s.has k=true
 all:∀y∈eF l k,y∈ss∧(y.n.level=0→y=z)
 perm:z.ms.Perm (((eF l k).map fun y=>aB z.s y.n.aj).flatten)
theorem Tree.qC(t:Tree c l ss)(k:af):ayk l ss k (cG l k):=by
 obtain⟨z,h1,h2,h3,h4,h5,h6⟩:=t.path (k:=k) _ (bC l 0) [] t.root rfl (sC k) (by exact tJ _)
 have h1:(eF l k).getLast?=some z:=h1
 have e:cG l k=z:=by unfold cG;rw [h1];rfl
 rw [e]
 exact⟨h1,h2,h3,h4,h5,h6⟩
theorem Tree.arp(t:Tree c l ss)(k:af):dg ((eF l k).map fun y=>aB (cG l k).s y.n.aj)=(cG l k).ms:=by
 have h:=t.qC k
 refine Fs _ _ _ rfl (fun L hL=> ?_) h.perm (t.ub _ h.mem)
 obtain⟨y,hy,rfl⟩:=cB.1 hL
 exact ju (t.aj (h.all y hy).1).1
theorem Tree.arq(t:Tree c l ss)(hx:x∈ss)(hk:x.s.has k=true)(h0:x.n.level=0):x=cG l k:=by
 have:x∈eF l k:=by rw [←t.way k];exact eO.2 ⟨hx,hk⟩
 exact((t.qC k).all x this).2 h0
theorem KM{K:aw→List aw}(h:T=T.flatMap K)(hf:∀x∈T,∀y∈K x,y.n.level<x.n.level):T=[]:=by
 apply rJ
 intro hn
 obtain⟨m,hm,hx⟩:=Ix T hn
 have o7:=hm
 rw [h]at o7
 obtain⟨x,Qf,C3⟩:=kl.1 o7
 have:=hf x Qf m C3
 have:=hx x Qf
 omega
theorem Tree.xw(t:Tree c l ss)(hx:x∈ss)(hy:y∈bu l x):y∈ss∧y.n.level=x.n.level-1:=by
 by_cases h0:x.n.level=0
 ·rw [fN h0]at hy;cases hy
 ·rw [(cL (t.kids hx) h0).1]at hy
  obtain⟨j,hj,rfl⟩:=cB.1 hy
  have:=t.at hx h0 (gN.1 hj)
  exact⟨this.1,this.2.2.2⟩
noncomputable def tC (l:List Nd):Nat→aw→List aw
 |0,x=>[x]
 |n+1,x=>x::(bu l x).flatMap (tC l n)
theorem Qi{f g h:α→List β}(e:∀x,f x=g x++h x):∀(L:List α),(L.flatMap f).Perm (L.flatMap g++L.flatMap h)
 |[]=>tJ _
 |x::L=>by
  rw [cI,cI,cI,e x,ci,ci]
  refine bO _ ?_
  refine(bO _ (Qi e L)).trans ?_
  rw [←ci,←ci]
  exact tN.append_right _
theorem Tree.UC(t:Tree c l ss):∀(n:Nat) (R T:List aw),T=R++T.flatMap (bu l)→(∀x∈T,x∈ss)→(∀x∈R,x.n.level.toNat=n)→T.Perm (R.flatMap (tC l n)):=by
 intro n
 induction n with
 |zero=>
  intro R T hT hs hR
  have hRT:∀x∈R,x∈T:=fun x hx=>by rw [hT];exact fK _ hx
  have h0:∀x∈R,x.n.level=0:=fun x hx=>by have:=t.lvl (hs x (hRT x hx));have:=hR x hx;omega
  have hK:R.flatMap (bu l)=[]:=List.flatMap_eq_nil_iff.2 fun x hx=>fN (h0 x hx)
  generalize hS:T.flatMap (bu l)=S at hT
  have hS2:S=S.flatMap (bu l):=by
   conv=>lhs;rw [←hS,hT]
   rw [dT,hK,iU]
  have hST:∀x∈S,x∈T:=fun x hx=>by rw [hT];exact ib _ hx
  have hn:=KM hS2 fun x hx y hy=>by have:=(t.xw (hs x (hST x hx)) hy).2;omega
  rw [hT,hn,cx]
  exact nJ (WU R).symm
 |succ n ih=>
  intro R T hT hs hR
  have hRT:∀x∈R,x∈T:=fun x hx=>by rw [hT];exact fK _ hx
  generalize hS:T.flatMap (bu l)=S at hT
  have hS2:S=R.flatMap (bu l)++S.flatMap (bu l):=by
   conv=>lhs;rw [←hS,hT]
   rw [dT]
  have hST:∀x∈S,x∈T:=fun x hx=>by rw [hT];exact ib _ hx
  have h1:=ih (R.flatMap (bu l)) S hS2 (fun x hx=>hs x (hST x hx)) fun y hy=>by
   obtain⟨x,hx,hyx⟩:=kl.1 hy
   have:=(t.xw (hs x (hRT x hx)) hyx).2
   have:=hR x hx
   omega
  rw [hT]
  refine(bO R h1).trans ?_
  have h2:=Qi (f:=tC l (n+1)) (g:=fun x=>[x]) (h:=fun x=>(bu l x).flatMap (tC l n)) (fun x=>rfl) R
  rw [WU R]at h2
  refine List.Perm.trans ?_ h2.symm
  rw [List.flatMap_assoc]
theorem Tree.arr(t:Tree c l ss):∀(n:Nat) (x:aw),x∈ss→x.n.level.toNat=n→2^(n+1)≤(tC l n x).length+1:=by
 intro n
 induction n with
 |zero=>intro x _ _;simp [tC]
 |succ n ih=>
  intro x hx hn
  have h0:¬x.n.level=0:=aa
  have hk:=(t.inner hx h0).1.2.1
  have h1:=(cL (t.kids hx) h0).1
  have hl:(bu l x).length=x.n.kids.length:=by rw [h1,lK]
  have key:∀y∈bu l x,2^(n+1)≤(tC l n y).length+1:=fun y hy=>by
   have:=t.xw hx hy
   exact ih y this.1 aa
  rw [tC,jo]
  match hL:bu l x with
  |[]=>rw [hL]at hl;simp at hl;omega
  |[a]=>rw [hL]at hl;simp at hl;omega
  |a::b::R=>
   rw [hL]at key
   have ha:=key a (by simp)
   have hb:=key b (by simp)
   rw [cI,cI,bP,bP]
   have:2^(n+1+1)=2^(n+1)+2^(n+1):=by rw [Nat.pow_succ];omega
   omega
theorem Tree.Iz(t:Tree c l ss):(bC l 0).n.level≤11:=by
 have h1:=t.UC (bC l 0).n.level.toNat [bC l 0] ss (by exact t.fix) (fun x hx=>hx) (fun x hx=>by simp at hx;rw [hx])
 rw [cI,iB,cx]at h1
 have h2:=t.arr _ _ t.root rfl
 rw [←h1.length_eq,t.len]at h2
 have h3:=t.C2.1
 apply rJ
 intro hn
 have h4:2^13≤2^((bC l 0).n.level.toNat+1):=Nat.pow_le_pow_right aa aa
 omega
theorem amz(t:Tree c l ss)(k:af):∀(n:Nat) (x:aw),x∈ss→x.n.level.toNat=n→(sD l k n x).length=n+1:=by
 intro n
 induction n with
 |zero=>intro x _ _;rfl
 |succ n ih=>
  intro x hx hn
  have h0:¬x.n.level=0:=aa
  have ha:=t.step (k:=k) hx (oL h0)
  rw [Ex (oL h0),jo,ih _ ha.1 aa]
theorem Tree.IA(t:Tree c l ss)(k:af):(eF l k).length≤100:=by
 have h5:(eF l k).length=(bC l 0).n.level.toNat+1:=amz t k _ (bC l 0) t.root rfl
 have:=t.Iz
 have:=t.lvl t.root
 omega
def iZ (x:aw):List aG:=cq (x.n.rows.filter fun p=>x.s.has p.key) (aB x.s x.ms)
def ck (ss:List aw):List aw:=ss.filter fun x=>decide (x.n.level=0)
noncomputable def bM (l:List Nd):List aG:=match sv l 0 with|none=>[]|some ss=>(ck ss).flatMap iZ
theorem qD(h:sv l 0=some ss):bM l=(ck ss).flatMap iZ:=by rw [bM,h]
theorem Tree.rows(t:Tree c l ss)(hx:x∈ss):bc x.n.rows:=by
 by_cases h0:x.n.level=0
 ·exact(t.leaf hx h0).2.2.1
 ·have:=(t.inner hx h0).1.1
  rw [kj this]
  intro i hi;simp at hi
theorem fg(h:m.R):m.key.b.size≤16∧m.val.b.size≤16:=⟨h.1.2.1,h.1.2.2.1⟩
theorem Tree.view(t:Tree c l ss)(hx:x∈ss):iZ x=(cq x.n.rows x.ms).filter fun p=>x.s.has p.key:=
 qQ (t.rows hx).o8 fun m hm=>by have:=(fg ((t.fits x hx).2 m hm)).1;omega
theorem Tree.UD(t:Tree c l ss)(hx:x∈ss)(k:af):bz (iZ x) k=if x.s.has k=true then bz (cq x.n.rows x.ms) k else none:=by
 rw [t.view hx,pf]
theorem Qj{k:af} :∀(T:List aw),(∀x∈T,x.s.has k=false→bz (iZ x) k=none)→bz (T.flatMap iZ) k=bz ((zL k T).flatMap iZ) k
 |[],_=>rfl
 |x::T,h=>by
  have ih:=Qj T (fun y hy=>h y (dk _ hy))
  unfold zL at*
  rw [cI,mV,ih,lF]
  cases hk:x.s.has k
  ·rw [if_neg (by simp),h x (by simp) hk];rfl
  ·rw [if_pos rfl,cI,mV]
theorem abi(t:Tree c l ss):∀(n:Nat) (x:aw),x∈ss→x.n.level.toNat=n→∃z,ck (sD l k n x)=[z]∧(sD l k n x).getLast?=some z:=by
 intro n
 induction n with
 |zero=>
  intro x hx hn
  have h0:x.n.level=0:=by have:=t.lvl hx;omega
  exact⟨x,by simp [sD,ck,h0],by simp [sD]⟩
 |succ n ih=>
  intro x hx hn
  have h0:¬x.n.level=0:=aa
  have ha:=t.step (k:=k) hx (oL h0)
  obtain⟨z,h1,h2⟩:=ih _ ha.1 aa
  rw [Ex (oL h0)]
  refine⟨z,?_,?_⟩
  ·unfold ck at*
   rw [nM (by simpa using h0)];exact h1
  ·rw [List.getLast?_cons,h2];rfl
theorem Tree.get(t:Tree c l ss)(k:af):bz (bM l) k=bz (cq (cG l k).n.rows (cG l k).ms) k:=by
 have h:=t.qC k
 rw [qD t.KK,Qj _ (fun x hx hk=>by rw [t.UD (eO.1 hx).1,hk];rfl)]
 have e:zL k (ck ss)=[cG l k]:=by
  have:zL k (ck ss)=ck (zL k ss):=by
   unfold zL ck
   rw [tM,tM]
   exact qA fun x _=>Hv _ _
  rw [this,t.way k]
  obtain⟨z,h1,h2⟩:=abi (k:=k) t _ (bC l 0) t.root rfl
  have h3:(eF l k).getLast?=some z:=h2
  rw [h.last]at h3
  cases h3
  exact h1
 rw [e,cI,iB,cx,t.UD h.mem,if_pos h.has]
variable {c:aX} {l:List Nd} {ss:List aw}
structure At (l:List Nd) (ss:List aw) (k:af) (x:aw) (P:List aw) (lv:Int):Prop where
 mem:x∈ss
 way:eF l k=P++sD l k x.n.level.toNat x
 lv:lv<0∨lv=x.n.level+1
theorem At.init(t:Tree c l ss)(k:af):At l ss k (bC l 0) [] (-1):=⟨t.root,rfl,.inl aa⟩
variable {P:List aw} {lv:Int}
theorem At.last(h:At l ss k x P lv)(h0:x.n.level≤0):eF l k=P++[x]:=by
 rw [h.way,show x.n.level.toNat=0 by omega];rfl
theorem Tree.right(t:Tree c l ss)(hx:x∈ss)(h0:¬x.n.level≤0):fA x.n.ab x.n.kids.length=true:=(cL (t.kids hx) aa).2.2.1
theorem Tree.nS(t:Tree c l ss)(hx:x∈ss)(h0:¬x.n.level≤0)(k:af):ae x.n.ab k<x.n.kids.length:=zK (t.right hx h0) k
theorem At.next(t:Tree c l ss)(h:At l ss k x P lv)(h0:¬x.n.level≤0):At l ss k (aq l x (ae x.n.ab k)) (P++[x]) x.n.level:=by
 have ha:=t.at h.mem aa (t.nS h.mem h0 k)
 refine⟨ha.1,?_,.inr aa⟩
 rw [h.way,show x.n.level.toNat=(aq l x (ae x.n.ab k)).n.level.toNat+1 by omega,Ex (oL aa)]
 simp
theorem At.slot(t:Tree c l ss){x:aw}(hx:x∈ss)(h0:¬x.n.level≤0)(k:af):(aq l x (ae x.n.ab k)).n.slot=x.n.kids[ae x.n.ab k]'(t.nS hx h0 k):=by
 have ha:=t.at hx aa (t.nS hx h0 k)
 rw [ha.2.2.1]
 exact(cZ t.slot ha.2.1).1
theorem At.aG5(t:Tree c l ss)(h:At l ss k x P lv):P.length≤100:=by
 have h1:=t.IA k
 rw [h.way,bP]at h1
 omega
theorem Tree.oN(t:Tree c l ss):(bC l 0).n.slot=0:=by
 rw [t.pK]
 exact(cZ t.slot ⟨eI 0,by have:=t.pos;omega⟩).1
theorem Tree.abj(t:Tree c l ss)(k:af):0<(eF l k).length:=by
 have h:=(t.qC k).last
 cases e:eF l k with
 |nil=>rw [e]at h;cases h
 |cons a b=>simp
theorem Tree.abk(t:Tree c l ss)(k:af)(h:i<(eF l k).length)(hi:i+1=(eF l k).length):(eF l k)[i]=cG l k:=by
 have h2:=(t.qC k).last
 rw [WV,show(eF l k).length-1=i by omega,eY h]at h2
 exact Hx h2
theorem Tree.ayl(t:Tree c l ss)(k:af)(h:i<((eF l k).map fun y:aw=>y.n).length)(hi:i+1=(eF l k).length):((eF l k).map fun y:aw=>y.n)[i]=(cG l k).n:=by
 rw [jX,t.abk k aa hi]
theorem Tree.ajv(t:Tree c l ss)(k:af)(h:i<((eF l k).map fun y:aw=>y.s).length)(hi:i+1=(eF l k).length):((eF l k).map fun y:aw=>y.s)[i]=(cG l k).s:=by
 rw [jX,t.abk k aa hi]
theorem Tree.af1(t:Tree c l ss)(k:af){s:Span}(hs:s=(cG l k).s):dg (((((eF l k).map fun y:aw=>y.n).map fun n:Nd=>n.aj)).map (aB s))=(cG l k).ms:=by
 rw [←t.arp k,hs,lS,lS];rfl
theorem Tree.abl(t:Tree c l ss)(h:y∈eF l k):y∈ss:=((t.qC k).all y h).1
theorem Tree.amA(t:Tree c l ss)(k:af):∀i (h:i<(((eF l k).map fun y:aw=>y.n).map fun n:Nd=>n.aj).length),∀m∈(((eF l k).map fun y:aw=>y.n).map fun n:Nd=>n.aj)[i],m.key.b.size<140737488355328:=by
 intro i h m hm
 simp only [jX]at hm
 have:=(fg ((t.aj (t.abl (bN (by simpa using h)))).2.1 m hm)).1
 omega
theorem Qk{b:Nat} :∀ {C:Ls},(∀L∈C,L.length≤b)→px C≤C.length*b
 |[],_=>kW _
 |A::C,h=>by
  have h1:=h A (by simp)
  have h2:=Qk (b:=b) (C:=C) (fun L hL=>h L (dk _ hL))
  rw [xr,jo,NQ];omega
theorem Tree.amB(t:Tree c l ss)(k:af):px (((eF l k).map fun y:aw=>y.n).map fun n:Nd=>n.aj)≤400000:=by
 have h1:=Qk (b:=4000) (C:=((eF l k).map fun y:aw=>y.n).map fun n:Nd=>n.aj) fun L hL=>by
  obtain⟨n,hn,rfl⟩:=cB.1 hL
  obtain⟨y,hy,rfl⟩:=cB.1 hn
  exact(t.C2.at (.inr (t.nd (t.abl hy)).2.2)).2.2.1
 have h2:=t.IA k
 simp only [dt]at h1
 omega
theorem Ga:∀ {ms:List aD},(∀m∈ms,m.R)→4*(ms.length:Int)≤bX ms
 |[],_=>by simp [bX]
 |m::ms,h=>by
  have h1:=Ga (ms:=ms) (fun a ha=>h a (dk _ ha))
  have h2:=Ik (fg (h m (by simp)))
  rw [yy,jo];omega
theorem Tree.UE(t:Tree c l ss)(hx:x∈ss):x.n.aj.length≤1024:=by
 by_cases h0:x.n.level=0
 ·rw [t.sE hx h0];exact kW _
 ·have h1:=(t.inner hx h0).2.2.2.1
  have h2:=Ga (t.aj hx).2.1
  have h3:=t.kd.2.2.1.2
  omega
theorem Tree.UF(t:Tree c l ss)(hx:x∈ss):x.n.rows.length≤64:=by
 by_cases h0:x.n.level=0
 ·have h1:=(t.leaf hx h0).2.1
  have h3:=t.kd.2.1.2
  omega
 ·have:=(t.inner hx h0).1.1
  omega
theorem Tree.aym(t:Tree c l ss):∀x∈ss,x.ms.length≤1024*(100-x.n.level.toNat)∧x.n.level≤99:=by
 have hr:=t.Iz
 refine t.ind ⟨kW _,aa⟩ fun x hx h0 ih j hj=> ?_
 have ha:=t.at hx h0 hj
 have hlx:=t.lvl hx
 have hly:=t.lvl ha.1
 have Iy:=ax List.length (t.sF hx (t.ub x hx) j).1
 rw [bP]at Iy
 have c1:(aB (aq l x j).s x.n.aj).length≤x.n.aj.length:=zH
 have c2:(aB (aq l x j).s x.ms).length≤x.ms.length:=zH
 have c3:=t.UE hx
 refine⟨?_,aa⟩
 have:100-(aq l x j).n.level.toNat=100-x.n.level.toNat+1:=aa
 rw [this]
 omega
theorem Tree.lookup(t:Tree c l ss)(k:af):bG.apply (ln (cG l k).ms k) (bz (cG l k).n.rows k)=bz (bM l) k:=by
 rw [t.get k,afJ]
 intro m hm
 have:=(t.fits _ (t.qC k).mem).2 m hm
 have h4:=fq.kinds (l:=[m]) (fq.iff.2 ⟨by intro a ha;simp at ha;subst ha;exact this,List.pairwise_singleton _ _⟩) m (by simp)
 exact⟨by have:=(fg this).1;omega,h4.1,h4.2⟩
end Go.Fw

namespace Go.Fw
def sG (l:List aG) (n:Int):Nat:=(max 0 (min (l.length:Int) n)).toNat
theorem ars(l:List aG)(n:Int):((sG l n:Nat):Int)=max 0 (min (l.length:Int) n):=by unfold sG;omega
def Gb (l:List aG) (s:Span) (ms:List aD) (c:af) (n:Int):List aG×af×Bool:=
 if s.empty=true then([],c,true)else((cq (l.filter fun p=>Span.has s p.key) (aB s ms)).take (sG (cq (l.filter fun p=>Span.has s p.key) (aB s ms)) n),(if s.bQ=true then af.nil else s.hi),s.bQ||decide (n≤((cq (l.filter fun p=>Span.has s p.key) (aB s ms)).length:Int)))
variable {l:List aG} {ms:List aD}
theorem art{s:Span}{c:af}{n:Int}(h:s.empty=true):Gb l s ms c n=([],c,true):=if_pos h
theorem Ql{s:Span}{c:af}{n:Int}(h:s.empty=false){x:af}{b:Bool}(hx:x=if s.bQ=true then af.nil else s.hi)(hb:b=(s.bQ||decide (n≤((cq (l.filter fun p=>Span.has s p.key) (aB s ms)).length:Int)))):
  Gb l s ms c n=((cq (l.filter fun p=>Span.has s p.key) (aB s ms)).take (sG (cq (l.filter fun p=>Span.has s p.key) (aB s ms)) n),x,b):=by rw [Gb,if_neg (by simp [h]),hx,hb]
end Go.Fw

namespace Go.Fw
open Go Go.RowKit
variable {c:aX} {l:List Nd} {ss:List aw}
noncomputable def BX (l:List Nd):Nat→aw→List aw
 |0,x=>[x]
 |n+1,x=>(bu l x).flatMap (BX l n)
theorem Tree.abm(t:Tree c l ss):∀(n:Nat) (R T:List aw),T=R++T.flatMap (bu l)→(∀x∈T,x∈ss)→(∀x∈R,x.n.level.toNat=n)→ck T=R.flatMap (BX l n):=by
 intro n
 induction n with
 |zero=>
  intro R T hT hs hR
  have hRT:∀x∈R,x∈T:=fun x hx=>by rw [hT];exact fK _ hx
  have h0:∀x∈R,x.n.level=0:=fun x hx=>by have:=t.lvl (hs x (hRT x hx));have:=hR x hx;omega
  have hK:R.flatMap (bu l)=[]:=List.flatMap_eq_nil_iff.2 fun x hx=>fN (h0 x hx)
  generalize hS:T.flatMap (bu l)=S at hT
  have hS2:S=S.flatMap (bu l):=by
   conv=>lhs;rw [←hS,hT]
   rw [dT,hK,iU]
  have hST:∀x∈S,x∈T:=fun x hx=>by rw [hT];exact ib _ hx
  have hn:=KM hS2 fun x hx y hy=>by have:=(t.xw (hs x (hST x hx)) hy).2;omega
  rw [hT,hn,cx]
  unfold ck
  rw [rF.2 fun x hx=>dB (h0 x hx)]
  exact(WU R).symm
 |succ n ih=>
  intro R T hT hs hR
  have hRT:∀x∈R,x∈T:=fun x hx=>by rw [hT];exact fK _ hx
  generalize hS:T.flatMap (bu l)=S at hT
  have hS2:S=R.flatMap (bu l)++S.flatMap (bu l):=by
   conv=>lhs;rw [←hS,hT]
   rw [dT]
  have hST:∀x∈S,x∈T:=fun x hx=>by rw [hT];exact ib _ hx
  have h1:=ih (R.flatMap (bu l)) S hS2 (fun x hx=>hs x (hST x hx)) fun y hy=>by
   obtain⟨x,hx,hyx⟩:=kl.1 hy
   have:=(t.xw (hs x (hRT x hx)) hyx).2
   have:=hR x hx
   omega
  have h2:ck R=[]:=rG.2 fun x hx=>by have:=hR x hx;simp;omega
  rw [hT]
  unfold ck at*
  rw [gv,h2,iU,h1,List.flatMap_assoc]
  rfl
theorem Tree.leaves(t:Tree c l ss):ck ss=BX l (bC l 0).n.level.toNat (bC l 0):=by
 have:=t.abm (bC l 0).n.level.toNat [bC l 0] ss (by exact t.fix) (fun x hx=>hx) (fun x hx=>by simp at hx;rw [hx])
 simpa using this
def Bef (a b:aw):Prop:=∀p q,a.s.has p=true→b.s.has q=true→p.lt q=true
theorem oO{P:List af}{p q:af}(h:p.lt q=false):ae P q≤ae P p:=by
 unfold ae
 rw [←Hw,←Hw]
 refine WT fun x _ hx=> ?_
 simp only [kV]at hx⊢
 exact af.le_trans hx h
variable {x:aw}
theorem amC(h:fA x.n.ab x.n.kids.length=true):(l8 l x x.n.kids.length).Pairwise Bef:=by
 unfold l8
 rw [List.pairwise_map]
 refine WW (fun {i j} hi hj tS=> ?_) List.pairwise_lt_range
 intro p q hp hq
 rw [qR h (gN.1 hi),cm,fJ]at hp
 rw [qR h (gN.1 hj),cm,fJ]at hq
 cases hl:p.lt q
 ·have:=oO (P:=x.n.ab) hl;omega
 ·rfl
theorem Tree.dfs(t:Tree c l ss):∀(n:Nat) (x:aw),x∈ss→x.n.level.toNat=n→(∀y∈BX l n x,y∈ss∧y.n.level=0∧∀k,y.s.has k=true→x.s.has k=true)∧(BX l n x).Pairwise Bef:=by
 intro n
 induction n with
 |zero=>
  intro x hx hn
  have h0:x.n.level=0:=by have:=t.lvl hx;omega
  exact⟨fun y hy=>by simp [BX]at hy;subst hy;exact⟨hx,h0,fun k h=>h⟩,by simp [BX]⟩
 |succ n ih=>
  intro x hx hn
  have h0:¬x.n.level=0:=aa
  obtain⟨h1,h2,h3,h4⟩:=cL (t.kids hx) h0
  have hk:∀y∈bu l x,y∈ss∧y.n.level.toNat=n∧∀k,y.s.has k=true→x.s.has k=true:=fun y hy=>by
   have:=t.xw hx hy
   rw [h1]at hy
   obtain⟨j,hj,rfl⟩:=cB.1 hy
   exact⟨this.1,aa,fun k=>C4 k⟩
  refine⟨fun y hy=> ?_,?_⟩
  ·obtain⟨z,hz,hyz⟩:=kl.1 hy
   obtain⟨a1,a2,a3⟩:=hk z hz
   obtain⟨b1,b2,b3⟩:=(ih z a1 a2).1 y hyz
   exact⟨b1,b2,fun k h=>a3 k (b3 k h)⟩
  ·show((bu l x).flatMap (BX l n)).Pairwise Bef
   rw [List.pairwise_flatMap]
   refine⟨fun z hz=>(ih z (hk z hz).1 (hk z hz).2.1).2,?_⟩
   rw [h1]
   refine WW (fun {a b} ha hb rY=> ?_) (amC h3)
   intro u hu v hv p q hp hq
   rw [←h1]at ha hb
   exact rY p q (((ih a (hk a ha).1 (hk a ha).2.1).1 u hu).2.2 p hp) (((ih b (hk b hb).1 (hk b hb).2.1).1 v hv).2.2 q hq)
theorem Tree.Mo(t:Tree c l ss):(ck ss).Pairwise Bef:=by rw [t.leaves];exact(t.dfs _ _ t.root rfl).2
theorem Tree.xx(t:Tree c l ss)(hx:x∈ss){p:aG}(hp:p∈iZ x):x.s.has p.key=true:=by
 rw [t.view hx]at hp;exact(eO.1 hp).2
theorem Tree.aru(t:Tree c l ss)(hx:x∈ss):bc (cq x.n.rows x.ms):=(t.rows hx).fold fun m hm=>fg ((t.fits x hx).2 m hm)
theorem Tree.o8(t:Tree c l ss):gW (bM l):=by
 rw [qD t.KK]
 unfold gW
 rw [List.pairwise_flatMap]
 refine⟨fun x hx=> ?_,WW (fun {a b} ha hb rY=> ?_) t.Mo⟩
 ·rw [t.view (eO.1 hx).1];exact(t.aru (eO.1 hx).1).o8.filter _
 ·intro p hp q hq
  exact rY _ _ (t.xx (eO.1 ha).1 hp) (t.xx (eO.1 hb).1 hq)
theorem Tree.arv(t:Tree c l ss):bc (bM l):=dr.2 ⟨fun p hp=>by
 rw [qD t.KK]at hp
 obtain⟨x,hx,hp⟩:=kl.1 hp
 rw [t.view (eO.1 hx).1]at hp
 exact(dr.1 (t.aru (eO.1 hx).1)).1 p (eO.1 hp).1,t.o8⟩
theorem Tree.amD(t:Tree c l ss){z:aw}(hz:z∈ss)(h0:z.n.level=0):(bM l).filter (fun p=>z.s.has p.key)=iZ z:=by
 have hm:z∈ck ss:=eO.2 ⟨hz,dB h0⟩
 obtain⟨A,B,e⟩:=List.append_of_mem hm
 have ho:=t.Mo
 have pw:∀x∈A++z::B,x∈ss:=fun x hx=>by rw [←e]at hx;exact(eO.1 hx).1
 rw [qD t.KK,e]
 rw [e]at ho
 obtain⟨h1,h2,h3⟩:=wo.1 ho
 have hA:(A.flatMap iZ).filter (fun p=>z.s.has p.key)=[]:=rG.2 fun p hp hh=>by
  obtain⟨x,hx,hp⟩:=kl.1 hp
  have:=h3 x hx z (by simp) p.key p.key (t.xx (pw x (fK _ hx)) hp) hh
  rw [af.lt_irrefl]at this;cases this
 have hB:(B.flatMap iZ).filter (fun p=>z.s.has p.key)=[]:=rG.2 fun p hp hh=>by
  obtain⟨x,hx,hp⟩:=kl.1 hp
  have:=(rN.1 h2).1 x hx p.key p.key hh (t.xx (pw x (ib _ (dk _ hx))) hp)
  rw [af.lt_irrefl]at this;cases this
 have hV:(iZ z).filter (fun p=>z.s.has p.key)=iZ z:=rF.2 fun p hp=>t.xx hz hp
 rw [dT,cI,gv,gv,hA,hB,hV,cx,iU]
def kR (A:List aD):Nat:=(A.filter fun m=> !decide (m.kind=4)).length
theorem arw(A B:List aD):kR (A++B)=kR A+kR B:=by simp [kR]
theorem ayn(A:List aD):kR A≤A.length:=fy _ _
theorem zM(m:aD)(A:List aD):kR (m::A)=(if m.kind=4 then 0 else 1)+kR A:=by
 unfold kR
 rw [lF]
 by_cases h:m.kind=4
 ·simp [h]
 ·simp [h];omega
theorem abn{m:aD}{s:Span}(h:(m.clip s).2=true):(m.clip s).1.kind=m.kind:=by
 rw [(jh h).2];split<;>rfl
theorem Qm(s:Span):∀(A:List aD),kR (aB s A)≤kR A
 |[]=>bZ _
 |m::A=>by
  have ih:=Qm s A
  rw [fv,zM]
  split
  ·rename_i h
   rw [zM,abn h]
   omega
  ·omega
theorem amE{ms:List aD} :∀ {l:List aG},bc l→(∀m∈ms,m.fit)→(cq l ms).length≤l.length+kR ms:=by
 induction ms with
 |nil=>intro l _ _;simp [cq,kR]
 |cons m ms ih=>
  intro l h hm
  have h1:=ih (l:=takeN l m) (h.XL (hm m (by simp))) fun x hx=>hm x (dk _ hx)
  have h2:(takeN l m).length≤l.length+(if m.kind=4 then 0 else 1):=by
   by_cases h4:m.kind=4
   ·rw [if_pos h4]
    unfold takeN
    rw [if_pos h4]
    exact fy _ _
   ·rw [if_neg h4];exact h.wR m
  rw [zM]
  show(cq (takeN l m) ms).length≤_
  omega
def sH (f:Nat→Nat):Nat→Nat
 |0=>0
 |n+1=>sH f n+f n
theorem Qn{f g:Nat→Nat} :∀n,(∀j,j<n→f j≤g j)→sH f n≤sH g n
 |0,_=>bZ _
 |n+1,h=>by have:=Qn n fun j hj=>h j aa;have:=h n aa;unfold sH;omega
theorem Ey(f g:Nat→Nat):∀n,sH (fun j=>f j+g j) n=sH f n+sH g n
 |0=>rfl
 |n+1=>by have:=Ey f g n;simp only [sH];omega
theorem UG{f:Nat→Nat}{r:Nat} :∀n,(∀j,f j≤1)→(∀j,j≠r→f j=0)→sH f n≤if r<n then 1 else 0
 |0,_,_=>kW _
 |n+1,h,h2=>by
  have ih:=UG n h h2
  simp only [sH]
  by_cases e:n=r
  ·have:=h n
   rw [if_neg aa]at ih
   rw [if_pos aa];omega
  ·have:=h2 n e
   by_cases h3:r<n
   ·rw [if_pos h3]at ih;rw [if_pos aa];omega
   ·rw [if_neg h3]at ih;omega
theorem Gc{f:Nat→Nat} :∀n,(∀j,f j=0)→sH f n=0
 |0,_=>rfl
 |n+1,h=>by have:=Gc n h;have:=h n;simp only [sH];omega
theorem KN{x:aw}(hr:fA x.n.ab x.n.kids.length=true):∀(A:List aD),(∀m∈A,m.R)→sH (fun j=>kR (aB (aq l x j).s A)) x.n.kids.length≤kR A
 |[],_=>by rw [Gc];exact kW _;intro j;rfl
 |m::A,h=>by
  have ih:=KN hr A fun y hy=>h y (dk _ hy)
  have hR:=h m (by simp)
  have e:∀j,kR (aB (aq l x j).s (m::A))=(if(m.clip (aq l x j).s).2=true∧¬m.kind=4 then 1 else 0)+kR (aB (aq l x j).s A):=fun j=>by
   rw [fv]
   by_cases h1:(m.clip (aq l x j).s).2=true
   ·rw [if_pos h1,zM,abn h1]
    by_cases h4:m.kind=4
    ·rw [if_pos h4,if_neg (fun h=>h.2 h4)]
    ·rw [if_neg h4,if_pos ⟨h1,h4⟩]
   ·rw [if_neg h1,if_neg (fun h=>h1 h.1)];omega
  rw [show(fun j=>kR (aB (aq l x j).s (m::A)))=fun j=>(if(m.clip (aq l x j).s).2=true∧¬m.kind=4 then 1 else 0)+kR (aB (aq l x j).s A)from funext e,Ey,zM]
  by_cases h4:m.kind=4
  ·rw [if_pos h4,Gc _ fun j=>if_neg fun h=>h.2 h4];omega
  ·rw [if_neg h4]
   have XM:=zK hr m.key
   have lW:m.span=⟨m.key,m.key.next,false⟩:=by unfold aD.span;rw [if_neg h4]
   have hz:∀j,j<x.n.kids.length→j≠ae x.n.ab m.key→(m.clip (aq l x j).s).2=false:=fun j hj ig=>qa.2 (dv.2 fun q=>by
    rw [bL,lW,mW (by have:=hR.1.2.1;omega),qR hr hj]
    by_cases e:q=m.key
    ·rw [e,gr ig];simp
    ·simp [e])
   have h1:sH (fun j=>if(m.clip (aq l x j).s).2=true∧¬m.kind=4 then 1 else 0) x.n.kids.length≤sH (fun j=>if j=ae x.n.ab m.key then 1 else 0) x.n.kids.length:=Qn _ fun j hj=>by
    by_cases e:j=ae x.n.ab m.key
    ·rw [if_pos e];split<;>omega
    ·rw [if_neg (fun h=>by rw [hz j hj e]at h;exact absurd h.1 (by simp))];exact kW _
   have h2:=UG (f:=fun j=>if j=ae x.n.ab m.key then 1 else 0) (r:=ae x.n.ab m.key) x.n.kids.length (fun j=>by split<;>omega) fun j hj=>if_neg hj
   rw [if_pos XM]at h2
   omega
variable {f:aw→Nat}
theorem UH{g:Nat→aw}(h:aw→List aw):∀n,(((List.range n).map g).flatMap h).map f=((List.range n).map fun j=>(h (g j)).map f).flatten
 |n=>by rw [List.flatMap_map,List.map_flatMap,List.flatMap_def]
theorem Gd(f:Nat→List Nat):∀n,(((List.range n).map f).flatten).sum=sH (fun j=>(f j).sum) n
 |0=>rfl
 |n+1=>by rw [uz,bU,vB,List.sum_append_nat,Gd f n];simp [sH]
theorem Tree.af2(t:Tree c l ss):∀(n:Nat) (x:aw),x∈ss→x.n.level.toNat=n→((BX l n x).map fun y=>kR y.ms).sum≤kR x.ms+((tC l n x).map fun y=>kR y.n.aj).sum:=by
 intro n
 induction n with
 |zero=>intro x _ _;simp [BX,tC]
 |succ n ih=>
  intro x hx hn
  have h0:¬x.n.level=0:=aa
  obtain⟨h1,h2,h3,h4⟩:=cL (t.kids hx) h0
  rw [BX,tC,cA,mH,h1]
  unfold l8
  rw [UH,UH,Gd,Gd]
  have a1:sH (fun j=>((BX l n (aq l x j)).map fun y=>kR y.ms).sum) x.n.kids.length≤sH (fun j=>(kR (aB (aq l x j).s x.n.aj)+kR (aB (aq l x j).s x.ms))+((tC l n (aq l x j)).map fun y=>kR y.n.aj).sum) x.n.kids.length:=Qn _ fun j hj=>by
   have ha:=t.at hx h0 hj
   have:=ih (aq l x j) ha.1 aa
   rw [(t.sF hx (t.ub x hx) j).1,arw]at this
   exact this
  rw [Ey,Ey]at a1
  have a2:=KN (l:=l) h3 x.n.aj (t.aj hx).2.1
  have a3:=KN (l:=l) h3 x.ms (t.fits x hx).2
  omega
theorem Qo{f:aw→List aG}{g:aw→Nat} :∀(T:List aw),(∀x∈T,(f x).length≤g x)→(T.flatMap f).length≤(T.map g).sum
 |[],_=>bZ _
 |x::T,h=>by
  have:=h x (by simp)
  have:=Qo T fun y hy=>h y (dk _ hy)
  rw [cI,bP,cA,mH];omega
theorem UI{b:Nat} :∀(T:List aw),(T.map fun x=>b+f x).sum=T.length*b+(T.map f).sum
 |[]=>by simp
 |x::T=>by
  rw [cA,mH,UI T,cA,mH,jo,NQ];omega
theorem Qp{f:aw→Nat}{b:Nat} :∀(T:List aw),(∀x∈T,f x≤b)→(T.map f).sum≤T.length*b
 |[],_=>by simp
 |x::T,h=>by
  have:=h x (by simp)
  have:=Qp T fun y hy=>h y (dk _ hy)
  rw [cA,mH,jo,NQ];omega
theorem Tree.arx(t:Tree c l ss):(bM l).length≤l.length*1088:=by
 have hp:=t.UC (bC l 0).n.level.toNat [bC l 0] ss (by exact t.fix) (fun x hx=>hx) (fun x hx=>by simp at hx;rw [hx])
 rw [cI,iB,cx]at hp
 rw [qD t.KK]
 have h1:=Qo (f:=iZ) (g:=fun x=>64+kR x.ms) (ck ss) fun x hx=>by
  have hx:=(eO.1 hx).1
  have g1:=t.rows hx
  have g2:(x.n.rows.filter fun p=>x.s.has p.key).length≤x.n.rows.length:=fy _ _
  have g3:=t.UF hx
  have g5:=Qm x.s x.ms
  have g6:=amE (l:=x.n.rows.filter fun p=>x.s.has p.key) (ms:=aB x.s x.ms) (g1.filter _) (P7 (by have:=(t.fits x hx).1.1;omega) fun m hm=>fg ((t.fits x hx).2 m hm))
  unfold iZ
  omega
 rw [UI]at h1
 have h2:=t.af2 _ (bC l 0) t.root rfl
 rw [←t.leaves]at h2
 have h3:((tC l (bC l 0).n.level.toNat (bC l 0)).map fun y=>kR y.n.aj).sum=(ss.map fun y=>kR y.n.aj).sum:=((hp.map _).sum_nat).symm
 have h4:=Qp (f:=fun y=>kR y.n.aj) (b:=1024) ss fun x hx=>gg (ayn _) (t.UE hx)
 have h5:kR (bC l 0).ms=0:=rfl
 have h6:(ck ss).length≤ss.length:=fy _ _
 have h7:=t.len
 have h8:(ck ss).length*64≤ss.length*64:=ic 64 h6
 rw [h7]at h8 h4
 omega
theorem Tree.Qq(t:Tree c l ss):(bM l).length≤10246400:=by
 have:=t.arx
 have:=t.C2.1
 omega
variable {M:List aG}
theorem Fu(hM:gW M)(p:af→Bool)(h:af):M.filter (fun a=>p a.key)=M.filter (fun a=>p a.key&&a.key.lt h)++M.filter (fun a=>p a.key&& !a.key.lt h):=by
 induction M with
 |nil=>rfl
 |cons a M ih=>
  have hp:=rN.1 hM
  rw [lF,lF,lF,ih hp.2]
  cases hpa:p a.key
  ·simp
  ·cases hl:a.key.lt h
   ·have:M.filter (fun a=>p a.key&&a.key.lt h)=[]:=rG.2 fun b hb hh=>by
     have rY:=hp.1 b hb
     simp only [cm]at hh
     have:=af.lt_trans rY hh.2
     rw [hl]at this;cases this
    rw [this];simp
   ·simp
structure rl (l:List Nd) (x:Span) (n:Int) (rest:Span) (out:List aG):Prop where
 eq:out++(bM l).filter (fun p=>rest.has p.key)=(bM l).filter (fun p=>x.has p.key)
 len:out=[]∨(out.length:Int)<n
theorem rl.init(l:List Nd)(x:Span)(n:Int):rl l x n x.norm []:=⟨by
 rw [iU];exact qA fun p _=>ld x p.key,.inl rfl⟩
variable {out:List aG} {x:Span}
theorem rl.empty{rest:Span}{n:Int}(h:rl l x n rest out)(he:rest.empty=true):out=fe (bM l) x n:=by
 have h1:=h.eq
 rw [rG.2 (fun p _=>by rw [dv.1 he];simp),cx]at h1
 unfold fe
 rw [←h1]
 rcases h.len with h2|h2
 ·rw [h2];simp
 ·exact(fI aa).symm
theorem rl.full{rest:Span}{n:Int}(h:rl l x n rest out)(hn:n≤(out.length:Int)):out=fe (bM l) x n:=by
 have h2:out=[]:=h.len.resolve_right aa
 subst h2
 unfold fe
 rw [show n.toNat=0 by simp at hn;omega];rfl
structure A1 (l:List Nd) (z:aw) (rest s:Span):Prop where
 se:s=rest.bH z.s
 lo:s.has rest.lo=true
theorem Tree.leg(t:Tree c l ss){rest:Span}(he:rest.empty=false):A1 l (cG l rest.lo) rest (rest.bH (cG l rest.lo).s):=⟨rfl,by
 rw [bL,(t.qC rest.lo).has,Hl]
 have:=Span.empty_eq rest
 rw [he]at this;simpa using this⟩
theorem A1.view(t:Tree c l ss){z:aw}(hz:z∈ss)(h0:z.n.level=0){rest s:Span}(g:A1 l z rest s):cq (z.n.rows.filter fun p=>s.has p.key) (aB s z.ms)=(bM l).filter (fun p=>s.has p.key):=by
 have kr:∀k,s.has k=true→z.s.has k=true:=fun k hk=>by rw [g.se,bL,cm]at hk;exact hk.2
 have e:(bM l).filter (fun p=>s.has p.key)=((bM l).filter (fun p=>z.s.has p.key)).filter (fun p=>s.has p.key):=by
  rw [tM]
  refine qA fun p _=> ?_
  cases hs:s.has p.key
  ·rfl
  ·rw [kr _ hs];rfl
 rw [e,t.amD hz h0,t.view hz,tM,qQ (t.rows hz).o8 fun m hm=>by have:=(fg ((t.fits z hz).2 m hm)).1;omega]
 refine qA fun p _=> ?_
 cases hs:s.has p.key
 ·rfl
 ·rw [kr _ hs];rfl
theorem A1.nonempty{z:aw}{rest s:Span}(g:A1 l z rest s):s.empty=false:=by
 cases h:s.empty
 ·rfl
 ·have:=dv.1 h rest.lo;rw [g.lo]at this;cases this
theorem ary{s:Span}{a b k:af}(ha:s.has a=true)(hb:s.has b=true)(h1:k.lt a=false)(h2:b.lt k=false):s.has k=true:=by
 unfold Span.has at*
 simp only [cm,kV,kU]at*
 refine⟨af.le_trans ha.1 h1,hb.2.imp id fun h=>af.lt_of_le_of_lt h2 h⟩
theorem A1.fin{z:aw}{rest s:Span}(g:A1 l z rest s)(ho:s.bQ=false):rest.lo.lt s.hi=true:=by
 have h:=g.lo
 unfold Span.has at h
 rw [ho]at h
 simp only [uy,cm]at h
 exact h.2
theorem A1.split(t:Tree c l ss){z:aw}{rest s:Span}(g:A1 l z rest s)(ho:s.bQ=false):(bM l).filter (fun p=>rest.has p.key)=(bM l).filter (fun p=>s.has p.key)++(bM l).filter (fun p=>(rest.bH ⟨s.hi,af.nil,true⟩).has p.key):=by
 rw [Fu t.o8 (fun k=>rest.has k) s.hi]
 congr 1
 ·refine qA fun p _=> ?_
  have hr:s.has p.key=true→rest.has p.key=true:=fun hk=>by rw [g.se,bL,cm]at hk;exact hk.1
  have hl:=g.lo
  cases hs:s.has p.key
  ·cases hrk:rest.has p.key
   ·rfl
   ·cases ko:p.key.lt s.hi
    ·rfl
    ·exfalso
     have h3:s.has p.key=true:=by
      unfold Span.has at*
      rw [ho]at*
      simp only [uy,cm,kV,kU]at*
      exact⟨af.le_trans hl.1 hrk.1,ko⟩
     rw [hs]at h3;cases h3
  ·rw [hr hs]
   unfold Span.has at hs
   rw [ho]at hs
   simp only [uy,cm]at hs
   rw [hs.2];rfl
 ·refine qA fun p _=> ?_
  rw [bL]
  congr 1
  show _=(!p.key.lt s.hi&&(true||_))
  simp
theorem A1.open(t:Tree c l ss){z:aw}{rest s:Span}(g:A1 l z rest s)(ho:s.bQ=true):(bM l).filter (fun p=>rest.has p.key)=(bM l).filter (fun p=>s.has p.key):=by
 refine qA fun p _=> ?_
 have hl:=g.lo
 cases hs:s.has p.key
 ·cases hrk:rest.has p.key
  ·rfl
  ·exfalso
   have h3:s.has p.key=true:=by
    unfold Span.has at*
    rw [ho]at*
    simp only [Bool.true_or,Hl,cm,kV]at*
    exact af.le_trans hl hrk.1
   rw [hs]at h3;cases h3
 ·rw [g.se,bL,cm]at hs
  exact hs.1
theorem UJ{A:List aG}{n:Int}{k:Nat}(hn:0<n):A.take (sG A n)=A.take n.toNat:=by
 unfold sG
 by_cases h:(A.length:Int)≤n
 ·rw [fI aa,fI aa]
 ·congr 1;omega
variable {V:List aG}
theorem rl.last{rest:Span}{n:Int}{R:List aG}(h:rl l x n rest out)(hn:¬n≤(out.length:Int))(hV:(bM l).filter (fun p=>rest.has p.key)=V++R)(hl:R=[]∨n-(out.length:Int)≤(V.length:Int)):
  out++V.take (sG V (n-(out.length:Int)))=fe (bM l) x n:=by
 unfold fe
 rw [←h.eq,hV,UJ (k:=0) aa,List.take_append,fI (by omega:out.length≤n.toNat),show(n-(out.length:Int)).toNat=n.toNat-out.length by omega]
 congr 1
 rcases hl with rfl|hl
 ·rw [cx]
 ·rw [Ej aa]
theorem rl.next{rest r2:Span}{n:Int}(h:rl l x n rest out)(hn:¬n≤(out.length:Int))(hV:(bM l).filter (fun p=>rest.has p.key)=V++(bM l).filter (fun p=>r2.has p.key))(hl:¬n-(out.length:Int)≤(V.length:Int)):
  rl l x n r2 (out++V)∧V.take (sG V (n-(out.length:Int)))=V:=
 ⟨⟨by rw [ci,←hV];exact h.eq,.inr (by rw [bP];omega)⟩,by rw [UJ (k:=0) aa];exact fI aa⟩
def Oc (ss:List aw) (rest:Span):Nat:=if rest.empty=true then 0 else 1+((ck ss).filter fun y=>y.s.bQ||rest.lo.lt y.s.hi).length
theorem A1.ahead{z:aw}(hz:z∈ss)(h0:z.n.level=0){rest s:Span}(he:rest.empty=false)(g:A1 l z rest s)(ho:s.bQ=false):Oc ss (rest.bH ⟨s.hi,af.nil,true⟩)<Oc ss rest:=by
 have Qr:=g.fin ho
 unfold Oc
 rw [he,if_neg (by simp:¬false=true)]
 split
 ·omega
 ·rename_i ig
  generalize hr:rest.bH ⟨s.hi,af.nil,true⟩=r2 at ig⊢
  have Fa:r2.has r2.lo=true:=by have:=Span.empty_eq r2;cases h:r2.empty;rw [h]at this;simpa using this;exact absurd h ig
  have hm:rest.has r2.lo=true∧r2.lo.lt s.hi=false:=by
   have h1:(rest.bH ⟨s.hi,af.nil,true⟩).has r2.lo=true:=by rw [hr];exact Fa
   rw [bL,cm]at h1
   refine⟨h1.1,?_⟩
   have h2:=h1.2
   unfold Span.has at h2
   simp only [cm,kV]at h2
   exact h2.1
  have Qs:rest.has rest.lo=true:=by have:=g.lo;rw [g.se,bL,cm]at this;exact this.1
  have sI:z.s.has rest.lo=true:=by have:=g.lo;rw [g.se,bL,cm]at this;exact this.2
  have ko:rest.lo.lt r2.lo=true:=af.lt_of_lt_of_le Qr hm.2
  have hzc:(z.s.bQ||rest.lo.lt z.s.hi)=true:=by
   unfold Span.has at sI;rw [cm]at sI;exact sI.2
  have hzn:(z.s.bQ||r2.lo.lt z.s.hi)=false:=by
   cases h:(z.s.bQ||r2.lo.lt z.s.hi)
   ·rfl
   ·exfalso
    have h1:rest.has s.hi=true:=ary Qs hm.1 (af.lt_asymm Qr) hm.2
    have h2:z.s.has s.hi=true:=by
     have h5:=sI
     unfold Span.has at h5⊢
     simp only [cm,kV,kU]at h5 h⊢
     exact⟨af.le_trans h5.1 (af.lt_asymm Qr),h.imp id fun h=>af.lt_of_le_of_lt hm.2 h⟩
    have h3:s.has s.hi=true:=by rw [g.se,bL,←g.se,h1,h2];rfl
    unfold Span.has at h3
    rw [ho,af.lt_irrefl]at h3
    simp at h3
  have arz:∀y:aw,(y.s.bQ||r2.lo.lt y.s.hi)=true→(y.s.bQ||rest.lo.lt y.s.hi)=true:=fun y h=>by
   rw [kU]at h⊢
   exact h.imp id fun h=>af.lt_trans ko h
  have hzm:z∈ck ss:=eO.2 ⟨hz,dB h0⟩
  have key:∀T:List aw,z∈T→(T.filter fun y=>y.s.bQ||r2.lo.lt y.s.hi).length<(T.filter fun y=>y.s.bQ||rest.lo.lt y.s.hi).length:=by
   intro T
   induction T with
   |nil=>intro h;cases h
   |cons y T ih=>
    intro h
    have hle:(T.filter fun y=>y.s.bQ||r2.lo.lt y.s.hi).length≤(T.filter fun y=>y.s.bQ||rest.lo.lt y.s.hi).length:=by
     rw [←Hw,←Hw]
     exact WT fun y _ h=>arz y h
    rw [lF,lF]
    rcases dK.1 h with rfl|h
    ·rw [hzn,hzc];simp;omega
    ·have ih:=ih h
     cases ha:(y.s.bQ||r2.lo.lt y.s.hi)
     ·simp only [WS,yn]
      split
      ·simp;omega
      ·exact ih
     ·rw [arz y ha];simp;omega
  have:=key _ hzm
  omega
theorem rl.aG6(t:Tree c l ss){rest:Span}{n:Int}(h:rl l x n rest out):out.length≤10246400:=by
 have h1:=ax List.length h.eq
 have h2:=fy (fun p:aG=>x.has p.key) (bM l)
 have h3:=t.Qq
 rw [bP]at h1
 omega
theorem A1.part(t:Tree c l ss){z:aw}(hz:z∈ss)(h0:z.n.level=0){rest s:Span}(g:A1 l z rest s)(b:af)(n:Int):
  Gb z.n.rows s z.ms b n=(((bM l).filter (fun p=>s.has p.key)).take (sG ((bM l).filter (fun p=>s.has p.key)) n),(if s.bQ=true then af.nil else s.hi),s.bQ||decide (n≤(((bM l).filter (fun p=>s.has p.key)).length:Int))):=by
 rw [Ql g.nonempty rfl rfl,g.view t hz h0]
theorem rl.aq6(t:Tree c l ss){rest s:Span}{z:aw}{n:Int}(h:rl l x n rest out)(hn:¬n≤(out.length:Int))(g:A1 l z rest s)(ho:(s.bQ||decide (n-(out.length:Int)≤(((bM l).filter (fun p=>s.has p.key)).length:Int)))=true):
  out++((bM l).filter (fun p=>s.has p.key)).take (sG ((bM l).filter (fun p=>s.has p.key)) (n-(out.length:Int)))=fe (bM l) x n:=by
 cases hs:s.bQ
 ·rw [hs,uy,fJ]at ho
  exact h.last hn (g.split t hs) (.inr ho)
 ·exact h.last hn (R:=[]) (by rw [cx];exact g.open t hs) (.inl rfl)
theorem rl.go(t:Tree c l ss){rest s:Span}{z:aw}{n:Int}(h:rl l x n rest out)(hn:¬n≤(out.length:Int))(g:A1 l z rest s)(ho:(s.bQ||decide (n-(out.length:Int)≤(((bM l).filter (fun p=>s.has p.key)).length:Int)))=false):
  s.bQ=false∧rl l x n (rest.bH ⟨s.hi,af.nil,true⟩) (out++(bM l).filter (fun p=>s.has p.key))∧((bM l).filter (fun p=>s.has p.key)).take (sG ((bM l).filter (fun p=>s.has p.key)) (n-(out.length:Int)))=(bM l).filter (fun p=>s.has p.key):=by
 rw [rM,lR]at ho
 exact⟨ho.1,h.next hn (g.split t ho.1) ho.2⟩
theorem af3(t:Tree c l ss)(k:af):cG l k∈ss∧(cG l k).n.level=0:=⟨(t.qC k).mem,(t.qC k).lvl⟩
theorem KO{n:Int}(h:(M.length:Int)≤n):fe M Span.all n=M:=by
 unfold fe
 rw [rF.2 fun p _=>sC p.key,fI aa]
def C5 (n:Nd):aw:=⟨n,Span.all,[]⟩
theorem UK{n:Nd}(hs:n.slot=0)(pL:n.seen≤1099511627776):jf [n]:=fun i h=>by
 have:i=0:=by simp at h;omega
 subst this
 exact⟨by simpa using hs,pL⟩
theorem Qt{n:Nd}(h0:n.level=0)(hs:n.slot=0)(pL:n.seen≤1099511627776):sv [n] 0=some [C5 n]:=by
 have hf:cE [n] 0=(n,true):=Qe (UK hs pL) (i:=0) (by simp)
 unfold sv
 rw [if_pos (by rw [hf])]
 have hr:bC [n] 0=C5 n:=by unfold bC C5;rw [hf]
 rw [hr]
 show mY [n] (2+1) 0 [C5 n]=_
 rw [AZ (l:=[n]) (f:=2) (i:=0) (out:=[C5 n]) (ks:=[]) (by simp) (by simp) (uQ h0)]
 exact AY (l:=[n]) (f:=1) (i:=1) (out:=[C5 n]) (by simp)
theorem UL{c:aX}{n:Nd}(hc:lY c)(h0:n.level=0)(hs:n.slot=0)(pL:n.seen≤1099511627776)(hR:n.R c.fan c.leaf c.aT)(ht:n.fp=true)(hS:XK n):Tree c [n] [C5 n]:=by
 have hl:=hR.2.2.2
 rw [if_pos h0]at hl
 have ht2:=hR.2.1 ht
 have hz:=hl.1
 have hk:=hc.2.2.2.1
 refine⟨hc,by simp,⟨by simp,fun m hm=>by simp at hm;subst hm;exact hS⟩,UK hs pL,Qt h0 hs pL,⟨⟨rfl,fun i h=> ?_⟩,fun i h=> ?_,by simp;omega⟩,fun i h=> ?_⟩
 ·have:i=0:=by simp at h;omega
  subst this
  simp [P8,C5]
 ·have:i=0:=by simp at h;omega
  subst this
  rw [Qb (by simp)]
  exact ht2.2
 ·have:i=0:=by simp at h;omega
  subst this
  refine⟨hR,⟨⟨ht,ht2.1⟩,fun i h=>sC _,fun i h=> ?_,fun i h=> ?_⟩,by show n.slot<c.bp;omega,fun j h=> ?_⟩
  ·have h:i<n.ab.length:=h
   omega
  ·have h:i<n.aj.length:=h
   omega
  ·have h:j<([]:List aD).length:=h
   simp at h
theorem Qu{n:Nd}(h0:n.level=0)(hs:n.slot=0)(pL:n.seen≤1099511627776):bM [n]=n.rows:=by
 rw [qD (Qt h0 hs pL)]
 have e:ck [C5 n]=[C5 n]:=rF.2 fun x hx=>by simp at hx;subst hx;exact dB h0
 rw [e,cI,iB,cx]
 show cq (n.rows.filter fun p=>Span.all.has p.key) (aB Span.all [])=n.rows
 rw [rF.2 fun p _=>sC p.key];rfl
section
variable {c:aX} {l:List Nd} {ss:List aw}
structure aQg (l:List Nd) (n:Nat) (x:aw) (mt:List (Int×Bool)):Prop where
 none:∀y∈tC l n x,getM mt y.n.slot=none
 nd:((tC l n x).map fun y:aw=>y.n.slot).Nodup
structure aOz (l:List Nd) (n:Nat) (x:aw) (j:Nat) (mt:List (Int×Bool)):Prop where
 none:∀y∈((bu l x).drop j).flatMap (tC l n),getM mt y.n.slot=none
 nd:((((bu l x).drop j).flatMap (tC l n)).map fun y:aw=>y.n.slot).Nodup
theorem Tree.rm(t:Tree c l ss){x:aw}(hx:x∈ss)(h0:¬x.n.level=0):(bu l x).length=x.n.kids.length∧∀j (h:j<(bu l x).length),(bu l x)[j]=aq l x j:=by
 have h1:=(cL (t.kids hx) h0).1
 refine⟨by rw [h1,lK],fun j h=> ?_⟩
 simp only [h1,l8,jX,NP]
end
section
variable {α:Type} {E:Env} {f:Fr} {G:GH} {M Mk Ms Mr:MH} {ops rest:List Oper} {q:Bool} {K:Kt} {d:Nat} {ty:TypeId} {pos:String} {aft:Array Edge} {t et:TypeId} {x y kk:Operand} {b:Nat} {k:Int} {m:List (Int×α)} {V:Fq α}
theorem W.aCK{z0:Value}{z:α}(ht:F7 E.P t=some et)(hz:zvK E.P et=some z0)(hzz:V.R G z0 z)(hx:ev f x=.map (some b))(hk:ev f kk=.int .i64 k)(hm:TK V b G m Ms)(hp:(Ms++Mr).Perm M)
  (h:∀v,V.R G v ((getM m k).getD z)→W E ops.toArray q rest (jP f d v) G M K)(hd:Nat.blt d E.n=true:=by rfl):
  W E ops.toArray q (⟨some d,.lookup t x kk false,ty,pos,aft,none⟩::rest) f G M K:=by
 obtain⟨v,h1,h2⟩:=amu (E:=E) (f:=f) (M:=M) (d:=d) (ty:=ty) (pos:=pos) (aft:=aft) (ok:=false) ht hz hzz hx hk hm hp
 exact W.ok h2 (h v h1) hd
end
variable {x:aw}
theorem abo{l:List Nd}(h:(ft l x).isSome=true):ft l x=some (bu l x):=by
 unfold bu
 cases e:ft l x with
 |none=>rw [e]at h;cases h
 |some y=>rfl
variable {y:aw}
theorem amF{l:List Nd}(h:(ft l x).isSome=true)(hy:y∈bu l x):y.n.level<x.n.level:=by
 by_cases h0:x.n.level=0
 ·rw [fN h0]at hy;cases hy
 ·obtain⟨h1,h2,h3,h4⟩:=cL h h0
  rw [h1]at hy
  obtain⟨j,hj,rfl⟩:=cB.1 hy
  have:=h4 j (gN.1 hj)
  unfold oK at this
  rw [cm,fJ]at this
  have e:(aq l x j).n.level=x.n.level-1:=this.2
  omega
variable {T:List aw}
theorem amG{l:List Nd}{root:Int}(h1:(cE l root).2=true)(h2:T=bC l root::T.flatMap (bu l))(h3:∀x∈T,(ft l x).isSome=true)(h4:T.length≤l.length):sv l root=some T:=by
 have key:∀(d i f:Nat),i+d=T.length→d<f→i≤(bC l root::(T.take i).flatMap (bu l)).length→mY l f i (bC l root::(T.take i).flatMap (bu l))=some T:=by
  intro d
  induction d with
  |zero=>
   intro i f hi hf hl
   rw [fI aa,←h2]
   obtain⟨f,rfl⟩:∃q,f=q+1:=⟨f-1,aa⟩
   exact AY aa
  |succ d ih=>
   intro i f hi hf hl
   obtain⟨f,rfl⟩:∃q,f=q+1:=⟨f-1,aa⟩
   have hT:T=(bC l root::(T.take i).flatMap (bu l))++(T.drop i).flatMap (bu l):=by
    rw [pC,←dT,fo];exact h2
   obtain⟨O,hO⟩:∃O,O=bC l root::(T.take i).flatMap (bu l):=⟨_,rfl⟩
   rw [←hO]at hl hT⊢
   have hTl:=ax List.length hT
   rw [bP]at hTl
   by_cases ko:i<O.length
   ·have e:O[i]=T[i]'aa:=by
     have h5:=WQ hT (show i<T.length by omega)
     rw [h5,yo ko]
    have hk:ft l O[i]=some (bu l (T[i]'aa)):=by rw [e];exact abo (h3 _ (bN _))
    rw [AZ ko aa hk]
    have e2:O++bu l (T[i]'aa)=bC l root::(T.take (i+1)).flatMap (bu l):=by
     rw [hO,iA aa,dT];simp
    rw [e2]
    exact ih (i+1) f aa aa (by rw [←e2,bP];omega)
   ·exfalso
    have hd:T.drop i=(T.drop i).flatMap (bu l):=by
     have h5:=ax (List.drop i) hT
     rw [NR,WX (l:=O) aa,iU,show i-O.length=0 by omega,yk]at h5
     exact h5
    have h6:=KM hd fun x hx y hy=>amF (h3 x (pE hx)) hy
    have h7:=ax List.length h6
    rw [cv]at h7
    simp at h7
    omega
 unfold sv
 rw [if_pos h1]
 have:=key T.length 0 (l.length+2) aa aa (kW _)
 simpa using this
abbrev UM:=Int×Int×Int
def aw.key (x:aw):UM:=(x.n.slot,x.n.level,x.n.right)
def Np:List UM→Prop
 |[]=>True
 |[x]=>x.2.2= -1
 |x::y::T=>x.2.2=(if y.2.1=x.2.1 then y.1 else-1)∧Np (y::T)
theorem Qv(x:aw)(L:List aw)(i:Nat):C1 (x::L) (i+1)=C1 L i:=by
 unfold C1
 simp
theorem rn:∀ss,Iv ss↔Np (ss.map aw.key)
 |[]=>⟨fun _=>trivial,fun _ i h=>absurd h (qJ _)⟩
 |[x]=>by
  constructor
  ·intro h
   have:=h 0 (by simp)
   rw [Qb (by simp)]at this
   exact this
  ·intro h i hi
   have:i=0:=by simp at hi;exact hi
   subst this
   rw [Qb (by simp)]
   exact h
 |x::y::T=>by
  have ih:=rn (y::T)
  have e:C1 (x::y::T) 0=if y.n.level=x.n.level then y.n.slot else-1:=by
   unfold C1
   simp
  constructor
  ·intro h
   refine⟨?_,ih.1 fun i hi=> ?_⟩
   ·have:=h 0 (by simp)
    rw [e]at this
    exact this
   ·have:=h (i+1) (by simpa using hi)
    rw [Qv]at this
    exact this
  ·intro h i hi
   cases i with
   |zero=>rw [e];exact h.1
   |succ i=>rw [Qv];exact ih.2 h.2 i (by simpa using hi)
theorem Qw{s v r y:Int} :∀(P S:List UM),Np (P++(s,v,r)::S)→Np (P++(s,v,y)::(y,v,r)::S)
 |[],[],h=>⟨(if_pos rfl).symm,h⟩
 |[],q::S,h=>⟨(if_pos rfl).symm,h.1,h.2⟩
 |[p],S,h=>by
  have h:p.2.2=(if v=p.2.1 then s else-1)∧Np ([]++(s,v,r)::S):=h
  exact⟨h.1,Qw [] S h.2⟩
 |p::q::P,S,h=>by
  have h:p.2.2=(if q.2.1=p.2.1 then q.1 else-1)∧Np ((q::P)++(s,v,r)::S):=h
  exact⟨h.1,Qw (q::P) S h.2⟩
variable {v:Int}
theorem arA{s s' r:Int} :∀(S:List UM),Np ((s,v,r)::S)→Np ((s',v,r)::S)
 |[],h=>h
 |q::S,h=>⟨h.1,h.2⟩
theorem arB{s x y:Int}{S:List UM}(h:Np ((s,v,-1)::S)):Np ((s,v+1,-1)::(x,v,y)::(y,v,-1)::S):=
 ⟨(if_neg (by show ¬v=v+1;omega)).symm,(if_pos rfl).symm,arA S h⟩
theorem arC{l:List Nd}(hs:jf l)(hp:(T.map fun x:aw=>x.n.slot).Perm (l.map fun n:Nd=>n.slot)):Qa l T:=by
 refine⟨by simpa using hp.length_eq.symm,fun i h=> ?_⟩
 have h1:=(List.Perm.filter (fun q:Int=>decide (q=l[i].slot)) hp).length_eq
 rw [wF,wF,dt,dt]at h1
 have h2:(l.filter fun n=>decide (n.slot=l[i].slot)).length=1:=by
  have:=Qd hs l[i].slot
  unfold XH at this
  rw [this,(hs i h).1,dif_pos ⟨aa,aa,aa⟩]
  rfl
 rw [←h2,←h1];rfl
theorem amH{l:List Nd}(hs:jf l):(l.map fun n:Nd=>n.slot).Nodup:=by
 refine wk.2 fun i j hi hj tS he=> ?_
 rw [jX,jX]at he
 have h3:=(hs i (by simpa using hi)).1
 have h4:=(hs j (by simpa using hj)).1
 omega
variable {c:aX} {l:List Nd} {ss:List aw}
theorem Tree.IB(t:Tree c l ss):(ss.map fun x:aw=>x.n.slot).Perm (l.map fun n:Nd=>n.slot):=by
 have:=t.perm.map fun n:Nd=>n.slot
 rwa [lS]at this
theorem Tree.zN(t:Tree c l ss):(ss.map fun x:aw=>x.n.slot).Nodup:=(t.IB.nodup_iff).2 (amH t.slot)
theorem abp:∀ {L:List aw},(L.map fun x:aw=>x.n.slot).Nodup→∀ {x y:aw},x∈L→y∈L→x.n.slot=y.n.slot→x=y
 |[],_,_,_,hx,_,_=>by cases hx
 |a::L,h,x,y,hx,hy,e=>by
  rw [cA,nN]at h
  rcases dK.1 hx with e1|h1
  ·rcases dK.1 hy with e2|h2
   ·rw [e1,e2]
   ·exact absurd (cB.2 ⟨y,h2,by rw [←e1];exact e.symm⟩) h.1
  ·rcases dK.1 hy with e2|h2
   ·exact absurd (cB.2 ⟨x,h1,by rw [←e2];exact e⟩) h.1
   ·exact abp h.2 h1 h2 e
theorem Tree.rj(t:Tree c l ss)(hx:x∈ss)(hy:y∈ss)(e:x.n.slot=y.n.slot):x=y:=abp t.zN hx hy e
theorem Qx{f:aw→List aw} :∀ {L:List aw},((L.flatMap f).map fun x:aw=>x.n.slot).Nodup→∀ {x z y y':aw},x∈L→z∈L→y∈f x→y'∈f z→y.n.slot=y'.n.slot→x=z
 |[],_,_,_,_,_,hx,_,_,_,_=>by cases hx
 |a::L,h,x,z,y,y',hx,hz,hy,hy',e=>by
  rw [cI,bU,kX]at h
  obtain⟨h1,h2,h3⟩:=h
  rcases dK.1 hx with e1|g1
  ·rcases dK.1 hz with e2|g2
   ·rw [e1,e2]
   ·exact absurd e (h3 _ (cB.2 ⟨y,by rw [←e1];exact hy,rfl⟩) _ (cB.2 ⟨y',kl.2 ⟨z,g2,hy'⟩,rfl⟩))
  ·rcases dK.1 hz with e2|g2
   ·exact absurd e.symm (h3 _ (cB.2 ⟨y',by rw [←e2];exact hy',rfl⟩) _ (cB.2 ⟨y,kl.2 ⟨x,g1,hy⟩,rfl⟩))
   ·exact Qx h2 g1 g2 hy hy' e
theorem abq{f:aw→List aw} :∀ {L:List aw},((L.flatMap f).map fun x:aw=>x.n.slot).Nodup→∀ {x:aw},x∈L→((f x).map fun x:aw=>x.n.slot).Nodup
 |[],_,_,hx=>by cases hx
 |a::L,h,x,hx=>by
  rw [cI,bU,kX]at h
  rcases dK.1 hx with rfl|hx
  ·exact h.1
  ·exact abq h.2.1 hx
theorem Tree.abr(t:Tree c l ss):((ss.flatMap (bu l)).map fun x:aw=>x.n.slot).Nodup:=by
 have h:=t.zN
 rw [t.fix,cA,nN]at h
 exact h.2
theorem Tree.Ez(t:Tree c l ss)(hx:x∈ss)(hy:y∈bu l x):y.n.slot≠(bC l 0).n.slot:=fun e=>by
 have h:=t.zN
 rw [t.fix,cA,nN]at h
 exact h.1 (cB.2 ⟨y,kl.2 ⟨x,hx,hy⟩,e⟩)
theorem Tree.parent(t:Tree c l ss){z y':aw}(hx:x∈ss)(hz:z∈ss)(hy:y∈bu l x)(hy':y'∈bu l z)(e:y.n.slot=y'.n.slot):x=z:=Qx t.abr hx hz hy hy' e
variable {i:Nat} {j:Nat}
theorem Tree.Od(t:Tree c l ss)(hx:x∈ss)(hi:i<(bu l x).length)(hj:j<(bu l x).length)(e:(bu l x)[i].n.slot=(bu l x)[j].n.slot):i=j:=by
 have h:=abq t.abr hx
 have h2:=wk.1 h
 simp only [dt,jX]at h2
 rcases Nat.lt_trichotomy i j with h3|h3|h3
 ·exact absurd e (h2 i j hi hj h3)
 ·exact h3
 ·exact absurd e.symm (h2 j i hj hi h3)
theorem IC(hc:lY c)(BY:0<l.length)(aG7:Sml l)(hs:jf l)(aG8:ss=bC l 0::ss.flatMap (bu l))(hk:∀x∈ss,(ft l x).isSome=true)
  (hp:(ss.map fun x:aw=>x.n.slot).Perm (l.map fun n:Nd=>n.slot))(hlk:Np (ss.map aw.key))(hlen:(l.length:Int)≤c.bp)(aCL:∀x∈ss,yV c x):Tree c l ss:=
 ⟨hc,BY,aG7,hs,amG (by have:=Qe hs BY;rw [show((0:Nat):Int)=0 from rfl]at this;rw [this]) aG8 hk (by have:=hp.length_eq;simp at this;omega),
  ⟨⟨arC hs hp,(rn ss).2 hlk,hlen⟩,fun i h=>aCL _ (bN h)⟩⟩
theorem Tree.two(t:Tree c l ss)(hx:x∈ss)(s:Span):dg [aB s x.n.aj,aB s x.ms]=aB s x.n.aj++aB s x.ms∧rz (aB s x.n.aj++aB s x.ms):=by
 obtain⟨h1,_,h3⟩:=t.aj hx
 have hs:=(t.gz hx).2.2.2
 refine oM (ju h1) (ju (t.ub x hx)) fun a ha b hb=> ?_
 obtain⟨a',ha',e1⟩:=gX ha
 obtain⟨b',ow,e2⟩:=gX hb
 have:=h3 a' ha'
 obtain⟨i,hi,rfl⟩:=cj ow
 have:=hs i hi
 omega
theorem uc{l l':List Nd}(hn:(cE l (x.n.kids.getD i 0)).1=(cE l' (y.n.kids.getD j 0)).1)
  (hs:∀q,(x.s.bH (aA x.n.ab (i:Int))).has q=(y.s.bH (aA y.n.ab (j:Int))).has q)
  (hm:∀s:Span,s=x.s.bH (aA x.n.ab (i:Int))→dg [aB s x.n.aj,aB s x.ms]=dg [aB s y.n.aj,aB s y.ms]):aq l x i=aq l' y j:=by
 have e:x.s.bH (aA x.n.ab (i:Int))=y.s.bH (aA y.n.ab (j:Int)):=by
  rw [←gm x.s,←gm y.s]
  exact rk hs
 have h:=hm _ rfl
 show(⟨_,_,_⟩:aw)=⟨_,_,_⟩
 rw [hn,h,e]
end Go.Fw

namespace Go.Fw
def qS (p:List af) (c:List Int) (i:Nat) (k:af) (v:Int):List af×List Int:=
 if c.length≤i∨(aA p (i:Int)).has k=false∨k=(aA p (i:Int)).lo then([],[])else((p.take i++[k])++p.drop i,(c.take (i+1)++[v])++c.drop (i+1))
variable {i:Nat} {k:af} {p:List af} {v:Int}
theorem ID{c:List Int}(h:c.length≤i∨(aA p (i:Int)).has k=false∨k=(aA p (i:Int)).lo):qS p c i k v=([],[]):=if_pos h
theorem IE{c:List Int}(h1:¬c.length≤i)(h2:(aA p (i:Int)).has k=true)(h3:¬k=(aA p (i:Int)).lo):qS p c i k v=((p.take i++[k])++p.drop i,(c.take (i+1)++[v])++c.drop (i+1)):=
 if_neg fun h=>h.elim h1 (fun h=>h.elim (fun h=>by rw [h2]at h;cases h) h3)
theorem EA(h:(aA p (i:Int)).has k=true):i≤p.length:=by
 by_cases h2:i≤p.length
 ·exact h2
 ·rw [Cy aa]at h
  have:Span.zero.has k=false:=by
   simp only [Span.zero,Span.has]
   cases h3:k.lt af.nil
   ·simp
   ·simp
  rw [this]at h;cases h
theorem TL(h:(aA p (i:Int)).has k=true)(h2:¬k=(aA p (i:Int)).lo):
  (∀h:0<i∧i-1<p.length,(p[i-1]'h.2).lt k=true)∧(∀h:i<p.length,k.lt p[i]=true):=by
 have hi:=EA h
 have e:=ud (l:=p) (i:=(i:Int)) aa aa
 have h0:=h
 rw [e,ld]at h
 simp only [Span.has,cm,kU,kV,fJ]at h
 obtain⟨h3,h4⟩:=h
 have ji:∀h:i<p.length,k.lt p[i]=true:=fun ko=>by
  rcases h4 with h4|h4
  ·omega
  ·rw [show((i:Int)).toNat=i from rfl,nj (d:=af.nil) ko]at h4;exact h4
 refine⟨fun⟨h5,h6⟩=> ?_,ji⟩
 rw [if_pos aa,show((i:Int)-1).toNat=i-1 from by omega,nj (d:=af.nil) h6]at h3
 cases ko:(p[i-1]'h6).lt k
 ·exfalso
  have hke:k=p[i-1]'h6:=af.iw h3 ko
  apply h2
  rw [e,if_pos aa,show((i:Int)-1).toNat=i-1 from by omega,nj (d:=af.nil) h6]
  unfold Span.norm
  split
  ·rename_i hem
   exfalso
   simp only [Span.empty,cm,kV,lR]at hem
   have:=h4.resolve_left aa
   rw [hke]at this
   simp_all
  ·split<;>exact hke
 ·rfl
theorem abt{c:List Int}(hr:fA p c.length=true)(hi:i<c.length)(h:(aA p (i:Int)).has k=true)(h2:¬k=(aA p (i:Int)).lo):
  fA ((p.take i++[k])++p.drop i) ((c.take (i+1)++[v])++c.drop (i+1)).length=true:=by
 obtain⟨hp,hn⟩:=dp hr
 obtain⟨h3,h4⟩:=TL h h2
 have CV:=EA h
 refine xj (iq.2 fun j hj=> ?_) (by simp;omega)
 have hl:((p.take i++[k])++p.drop i).length=p.length+1:=by simp;omega
 have get:∀q (hq:q<((p.take i++[k])++p.drop i).length),((p.take i++[k])++p.drop i)[q]=if h:q<i then p[q]'aa else if h:q=i then k else p[q-1]'aa:=fun q hq=>by
  by_cases h5:q<i
  ·rw [dif_pos h5,yo (by simp;omega),yo (by simp;omega),nL]
  ·rw [dif_neg h5]
   by_cases h6:q=i
   ·rw [dif_pos h6,yo (by simp;omega),NS (by simp;omega)];simp
   ·rw [dif_neg h6,NS (by simp;omega),pB]
    congr 1;simp;omega
 rw [get,get]
 have hp':=iq.1 hp
 by_cases a:j+1<i
 ·rw [dif_pos aa,dif_pos a];exact hp' j aa
 ·by_cases b:j+1=i
  ·rw [dif_pos aa,dif_neg aa,dif_pos b]
   have:=h3 ⟨aa,aa⟩
   simpa only [show i-1=j from by omega]using this
  ·by_cases d:j=i
   ·rw [dif_neg aa,dif_pos d,dif_neg aa,dif_neg aa]
    have:=h4 aa
    simpa only [show j+1-1=i from by omega]using this
   ·rw [dif_neg aa,dif_neg d,dif_neg aa,dif_neg aa]
    have:=hp' (j-1) aa
    simpa only [show j-1+1=j+1-1 from by omega]using this
end Go.Fw

namespace Go.Fw
def jg (n:Nd) (i:Nat) (k:af) (v:Int):Nd×Bool:=
 if n.level=0∨(qS n.ab n.kids i k v).2.length=0 then(Nd.zero,false)
 else({ n with ab:=(qS n.ab n.kids i k v).1,kids:=(qS n.ab n.kids i k v).2 },true)
variable {i:Nat} {k:af} {v:Int}
theorem KP{n:Nd}(h:n.level=0∨(qS n.ab n.kids i k v).2.length=0):jg n i k v=(Nd.zero,false):=if_pos h
theorem KQ{n:Nd}(h1:¬n.level=0)(h2:¬(qS n.ab n.kids i k v).2.length=0):jg n i k v=({ n with ab:=(qS n.ab n.kids i k v).1,kids:=(qS n.ab n.kids i k v).2 },true):=if_neg (by rintro(h|h);exact h1 h;exact h2 h)
theorem XP{p:List af}{c:List Int}(h:c.length≤i∨(aA p (i:Int)).has k=false∨k=(aA p (i:Int)).lo):(qS p c i k v).2.length=0:=by rw [ID h];rfl
theorem amI{n:Nd}(h1:¬n.level=0)(h2:¬n.kids.length≤i)(h3:(aA n.ab (i:Int)).has k=true)(h4:¬k=(aA n.ab (i:Int)).lo):
  jg n i k v=({ n with ab:=(n.ab.take i++[k])++n.ab.drop i,kids:=(n.kids.take (i+1)++[v])++n.kids.drop (i+1) },true):=by
 have e:=IE (v:=v) h2 h3 h4
 rw [KQ h1 (by rw [e];simp),e]
end Go.Fw

namespace Go.Fw
open Go Go.RowKit
theorem Ge(A B:List af)(q:af):ae (A++B) q=ae A q+ae B q:=by
 unfold ae
 rw [gv,bP]
theorem Gf(P:List af)(h:Nat)(q:af):ae P q=ae (P.take h) q+ae (P.drop h) q:=by
 rw [←Ge,fo]
theorem Qy(P:List af)(i:Nat)(k q:af):ae ((P.take i++[k])++P.drop i) q=ae P q+if q.lt k=true then 0 else 1:=by
 have e:ae [k] q=if q.lt k=true then 0 else 1:=by
  unfold ae
  cases h:q.lt k<;>simp [lF,h]
 rw [Ge,Ge,e,Gf P i]
 omega
variable {P:List af}
theorem Mt(hr:rising P=true){h:Nat}(hh:h<P.length){q:af}(hq:q.lt P[h]=true):ae (P.take h) q=ae P q:=by
 have e:ae (P.drop h) q=0:=by
  unfold ae
  rw [List.length_eq_zero_iff,rG]
  intro x hx
  obtain⟨j,hj,rfl⟩:=cj hx
  rw [pB]
  rw [cv]at hj
  by_cases h0:j=0
  ·subst h0;simp [hq]
  ·simp [af.lt_trans hq (jt hr (h+j) h aa aa)]
 rw [Gf P h,e];omega
theorem IF(hr:rising P=true){h:Nat}(hh:h<P.length){q:af}(hq:q.lt P[h]=false):ae P q=(h+1)+ae (P.drop (h+1)) q:=by
 have e:ae (P.take (h+1)) q=h+1:=by
  unfold ae
  rw [rF.2]
  ·rw [bV];omega
  ·intro x hx
   obtain⟨j,hj,rfl⟩:=cj hx
   rw [nL]
   rw [bV]at hj
   cases h2:q.lt P[j]
   ·rfl
   ·exfalso
    by_cases h0:j=h
    ·subst h0;rw [hq]at h2;cases h2
    ·have:=af.lt_trans h2 (jt hr h j aa aa);rw [hq]at this;cases this
 rw [Gf P (h+1),e]
variable {j:Nat}
theorem af4{K:List Int}{h:Nat}(hj:j<h):(K.take h).getD j 0=K.getD j 0:=by
 rw [fc,fc,mF,if_pos hj]
theorem af5{K:List Int}{h:Nat} :(K.drop h).getD j 0=K.getD (h+j) 0:=by
 rw [fc,fc,oA]
variable {l:List Nd} {x:aw}
theorem uS(h0:0<x.n.level)(h2:fA x.n.ab x.n.kids.length=true)(h:∀j,j<x.n.kids.length→oK l x j=true):(ft l x).isSome=true∧bu l x=l8 l x x.n.kids.length:=by
 have e:=arj aa aa h2 h
 unfold bu
 rw [e];exact⟨rfl,rfl⟩
theorem ue{l':List Nd}{y:aw}{i:Nat}(hn:cE l (x.n.kids.getD i 0)=cE l' (y.n.kids.getD j 0))(hl:x.n.level=y.n.level):oK l x i=oK l' y j:=by
 unfold oK;rw [hn,hl]
variable {l l':List Nd} {K A:aw}
theorem af6(hK:(ft l K).isSome=true)(h0:¬K.n.level=0){h:Nat}(hh:h<K.n.ab.length)
  (ep:A.n.ab=K.n.ab.take h)(ek:A.n.kids=K.n.kids.take (h+1))(el:A.n.level=K.n.level)(hs:∀q,A.s.has q=(K.s.has q&&q.lt K.n.ab[h]))
  (hm:∀s:Span,(∀q,s.has q=true→A.s.has q=true)→dg [aB s A.n.aj,aB s A.ms]=dg [aB s K.n.aj,aB s K.ms])
  (hf:∀j,j<K.n.kids.length→cE l' (K.n.kids.getD j 0)=cE l (K.n.kids.getD j 0)):
  (ft l' A).isSome=true∧bu l' A=(bu l K).take (h+1):=by
 obtain⟨h1,h2,h3,h4⟩:=cL hK h0
 obtain⟨hr,hc⟩:=dp h3
 have o9:A.n.kids.length=h+1:=by rw [ek,bV];omega
 have KR:rising A.n.ab=true:=by rw [ep];exact Il hr _
 have Gg:A.n.ab.length=h:=by rw [ep,bV];omega
 have hg:∀j,j<h+1→A.n.kids.getD j 0=K.n.kids.getD j 0:=fun j hj=>by rw [ek,af4 hj]
 obtain⟨g1,g2⟩:=uS (l:=l') (x:=A) aa (xj KR aa) fun j hj=>by
  rw [ue (l':=l) (y:=K) (j:=j) (by rw [hg j aa,hf j aa]) el]
  exact h4 j aa
 refine⟨g1,?_⟩
 rw [g2,h1,o9]
 unfold l8
 rw [←El,List.take_range,show min (h+1) K.n.kids.length=h+1 by omega]
 refine rU fun j hj=> ?_
 have hj:=gN.1 hj
 refine uc (by rw [hg j hj,hf j aa]) (fun q=> ?_) fun s hse=>hm s fun q hq=> ?_
 ·rw [bL,bL,eR KR q aa,eR hr q aa,hs q,ep]
  cases hk:q.lt K.n.ab[h]
  ·have:=IF hr hh hk
   rw [gr (show ¬j=ae K.n.ab q by omega)];simp
  ·rw [Mt hr hh hk];simp
 ·rw [hse,bL,cm]at hq
  exact hq.1
theorem abu(hK:(ft l K).isSome=true)(h0:¬K.n.level=0){h:Nat}(hh:h<K.n.ab.length)
  (ep:A.n.ab=K.n.ab.drop (h+1))(ek:A.n.kids=K.n.kids.drop (h+1))(el:A.n.level=K.n.level)(hs:∀q,A.s.has q=(K.s.has q&& !q.lt K.n.ab[h]))
  (hm:∀s:Span,(∀q,s.has q=true→A.s.has q=true)→dg [aB s A.n.aj,aB s A.ms]=dg [aB s K.n.aj,aB s K.ms])
  (hf:∀j,j<K.n.kids.length→cE l' (K.n.kids.getD j 0)=cE l (K.n.kids.getD j 0)):
  (ft l' A).isSome=true∧bu l' A=(bu l K).drop (h+1):=by
 obtain⟨h1,h2,h3,h4⟩:=cL hK h0
 obtain⟨hr,hc⟩:=dp h3
 have o9:A.n.kids.length=K.n.kids.length-(h+1):=by rw [ek,cv]
 have KR:rising A.n.ab=true:=by rw [ep];exact Io hr _
 have Gg:A.n.ab.length=K.n.ab.length-(h+1):=by rw [ep,cv]
 have hg:∀j,A.n.kids.getD j 0=K.n.kids.getD (h+1+j) 0:=fun j=>by rw [ek,af5]
 obtain⟨g1,g2⟩:=uS (l:=l') (x:=A) aa (xj KR aa) fun j hj=>by
  rw [ue (l':=l) (y:=K) (j:=h+1+j) (by rw [hg j,hf _ aa]) el]
  exact h4 _ aa
 refine⟨g1,?_⟩
 rw [g2,h1,o9]
 refine Av (by simp [l8]) fun j hj hj2=> ?_
 have hj:j<K.n.kids.length-(h+1):=by simpa [l8]using hj
 rw [pB]
 simp only [l8,jX,NP]
 refine uc (by rw [hg j,hf _ aa]) (fun q=> ?_) fun s hse=>hm s fun q hq=> ?_
 ·rw [bL,bL,eR KR q aa,eR hr q aa,hs q,ep]
  cases hk:q.lt K.n.ab[h]
  ·have:=IF hr hh hk
   rw [this]
   simp
  ·have h5:=Mt hr hh hk
   have h6:ae (K.n.ab.take h) q≤h:=Nq _ _ _
   rw [gr (show ¬h+1+j=ae K.n.ab q by omega)];simp
 ·rw [hse,bL,cm]at hq
  exact hq.1
theorem aCM{s:Span}(h:s.empty=false):s.has s.lo=true:=by
 have:=Span.empty_eq s
 rw [h]at this
 simpa using this
theorem cO{s:Span}{q:af} :s.has q=true↔q.lt s.lo=false∧(s.bQ=true∨q.lt s.hi=true):=by
 unfold Span.has
 simp
theorem abv{s:Span}(h:s.norm=s)(he:s.empty=false):s.bQ=true→s.hi=af.nil:=fun ho=>by
 unfold Span.norm at h
 rw [if_neg (by simp [he]),if_pos ho]at h
 rw [←h]
variable {a:Span} {k:af}
theorem af7{s:Span}(hs:s.norm=s)(ha:a.norm=a)(hk:s.has k=true)(zA:k≠s.lo)(h:∀q,a.has q=(s.has q&&q.lt k)):a=⟨s.lo,k,false⟩∧s.lo.lt k=true:=by
 have h1:=cO.1 hk
 have h2:s.lo.lt k=true:=by
  cases e:s.lo.lt k
  ·exact absurd (af.iw h1.1 e) zA
  ·rfl
 refine⟨?_,h2⟩
 rw [←ha,←PS (s:=⟨s.lo,k,false⟩) (by simp [Span.empty,h2]) rfl]
 refine rk fun q=> ?_
 rw [h q,eZ,cm,cO,cO]
 refine⟨fun⟨⟨g1,g2⟩,g3⟩=>⟨g1,.inr g3⟩,fun⟨g1,g2⟩=> ?_⟩
 have g2:q.lt k=true:=by rcases g2 with g|g;cases g;exact g
 refine⟨⟨g1,?_⟩,g2⟩
 rcases h1.2 with g|g
 ·exact .inl g
 ·exact .inr (af.lt_trans g2 g)
theorem C6{s:Span}(hs:s.norm=s)(ha:a.norm=a)(hk:s.has k=true)(h:∀q,a.has q=(s.has q&& !q.lt k)):a=⟨k,s.hi,s.bQ⟩:=by
 have h1:=cO.1 hk
 have he:(⟨k,s.hi,s.bQ⟩:Span).empty=false:=by
  cases e:(⟨k,s.hi,s.bQ⟩:Span).empty
  ·rfl
  ·have:=dv.1 e k
   have h3:(⟨k,s.hi,s.bQ⟩:Span).has k=true:=cO.2 ⟨af.lt_irrefl k,h1.2⟩
   rw [h3]at this;cases this
 have hse:s.empty=false:=by
  cases e:s.empty
  ·rfl
  ·have:=dv.1 e k;rw [hk]at this;cases this
 have hn:(⟨k,s.hi,s.bQ⟩:Span).norm=⟨k,s.hi,s.bQ⟩:=by
  unfold Span.norm
  rw [if_neg (by simp [he])]
  split
  ·rename_i ho
   rw [abv hs hse ho]
  ·rfl
 rw [←ha,←hn]
 refine rk fun q=> ?_
 rw [h q,eZ,cm,cO,cO]
 refine⟨fun⟨⟨g1,g2⟩,g3⟩=>⟨by simpa using g3,g2⟩,fun⟨g1,g2⟩=>⟨⟨?_,g2⟩,by simpa using g1⟩⟩
 have g1:q.lt k=false:=g1
 cases e:q.lt s.lo
 ·rfl
 ·have:=af.lt_of_lt_of_le e h1.1
  rw [g1]at this;cases this
variable {m:aD}
theorem abw(hm:m.R)(h4:¬m.kind=4){q:af} :m.span.has q=decide (q=m.key):=by
 unfold aD.span
 rw [if_neg h4]
 exact mW (by have:=hm.1.2.1;omega)
theorem C7{s:Span}(hm:m.R)(h:(m.clip s).2=true){q:af}(hq:(m.clip s).1.span.has q=true):m.span.has q=true∧s.has q=true:=by
 by_cases h4:m.kind=4
 ·rw [xv h h4,bL,cm]at hq
  exact hq
 ·have e:=(jh h)
  rw [e.2,if_neg h4]at hq
  refine⟨hq,?_⟩
  cases hs:s.has q
  ·exfalso
   have:(m.span.bH s).empty=true:=dv.2 fun p=>by
    rw [bL,abw hm h4]
    by_cases ep:p=m.key
    ·rw [abw hm h4,fJ]at hq
     rw [ep,←hq,hs];simp
    ·simp [ep]
   rw [this]at e
   exact absurd e.1 (by simp)
  ·rfl
theorem UN{s:Span}(h:∀q,a.has q=true→s.has q=true):a.bH s=a.norm:=by
 rw [←gm]
 refine rk fun q=> ?_
 rw [bL]
 cases e:a.has q
 ·rfl
 ·rw [h q e];rfl
theorem UO{s:Span}(h:a.bH s=a.norm){q:af}(hq:a.has q=true):s.has q=true:=by
 have h2:=bL a s q
 rw [h,ld,hq]at h2
 simpa using h2.symm
theorem XQ{A B K:aw}{h:Nat}(hP:bc K.n.rows)(Iy:∀m∈K.ms,m.R)(ea:A.n.rows=K.n.rows.take h)(eb:B.n.rows=K.n.rows.drop h)
  (ha:∀q,A.s.has q=(K.s.has q&&q.lt k))(hb:∀q,B.s.has q=(K.s.has q&& !q.lt k))(h1:∀i (hi:i<K.n.rows.length),i<h→K.n.rows[i].key.lt k=true)(h2:∀i (hi:i<K.n.rows.length),h≤i→K.n.rows[i].key.lt k=false)
  (ma:aB A.s A.ms=aB A.s K.ms)(mb:aB B.s B.ms=aB B.s K.ms):iZ A++iZ B=iZ K:=by
 have hk:∀m∈K.ms,m.key.b.size<140737488355328:=fun m hm=>by have:=(fg (Iy m hm)).1;omega
 have fa:(A.n.rows.filter fun p=>A.s.has p.key)=K.n.rows.filter fun p=>A.s.has p.key:=by
  conv=>rhs;rw [←fo h K.n.rows]
  rw [gv,ea,rG (l:=K.n.rows.drop h)|>.2 ?_,cx]
  intro p hp
  obtain⟨i,hi,rfl⟩:=cj hp
  rw [cv]at hi
  rw [pB,ha,h2 _ aa aa];simp
 have fb:(B.n.rows.filter fun p=>B.s.has p.key)=K.n.rows.filter fun p=>B.s.has p.key:=by
  conv=>rhs;rw [←fo h K.n.rows]
  rw [gv,eb,rG (l:=K.n.rows.take h)|>.2 ?_,iU]
  intro p hp
  obtain⟨i,hi,rfl⟩:=cj hp
  rw [bV]at hi
  rw [nL,hb,h1 _ aa aa];simp
 have hF:=(hP.fold fun m hm=>fg (Iy m hm)).o8 (l:=cq K.n.rows K.ms)
 unfold iZ
 rw [fa,fb,ma,mb,qQ hP.o8 hk,qQ hP.o8 hk,qQ hP.o8 hk,Fu hF K.s.has k]
 congr 1
 ·exact qA fun p _=>ha _
 ·exact qA fun p _=>hb _
end Go.Fw
