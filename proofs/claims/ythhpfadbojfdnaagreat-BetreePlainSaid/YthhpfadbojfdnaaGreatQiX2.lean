/- Data, arguments, and more rules of the calculus. Nothing of the program is named here. No condition. -/
import Derived.ProofKit
import Derived.SizedLaws
import Derived.Carry
import Derived.Laws.CopyRow
import Derived.Lib.Overlaps
import Derived.Lib.AppendZerosOnto
import Derived.Laws.MakeOwn
import Derived.Test.YthhpfadbojfdnaaGreatQiX1
set_option linter.unusedVariables false
set_option linter.unusedSimpArgs false
set_option linter.unnecessarySimpa false
set_option linter.unusedSectionVars false

namespace Go.Fw
open Go Go.RowKit
variable {E:Env} {Q:Exit→Kt} {f:Fr} {G:GH} {M:MH}
theorem WC.join{X:Type}{x y:Code}(live:X→List (Nat×Value))(I:X→GH→MH→Prop)
  (h1:WC E x (Ck (fun f' G' M'=>Le G G'∧∃z,Has f' (live z)∧I z G' M') Q) f G M)
  (h2:∀z g G' M',Le G G'→I z G' M'→WC E y Q (gk g (live z)) G' M'):WC E (.seq x y) Q f G M:=by
 refine WC.seq ?_
 intro a w hi hr
 refine wp_mono (h1 a w hi hr) ?_
 rintro e a' w' ⟨f',G',M',k1,k2,k3⟩
 cases e with
 |normal=>
  obtain⟨k4,z,k5,k6⟩:=k3
  have:=h2 z f' G' M' k4 k6
  rw [BE k5]at this
  exact⟨f',G',M',k1,k2,this⟩
 |_=>exact⟨f',G',M',k1,k2,k3⟩
theorem WC.fr{c:Code}{f f':Fr}(h:f'=f)(k:WC E c Q f G M):WC E c Q f' G M:=h▸k
def W8 (P:Program) (t:TypeId) (j:Nat):Option (Bool×Nat×Nat):=
 match P.underlying t with
 |some (.struct fs)=>(fs[j]?).bind fun fd=>(gO P fd.type).map fun k=>(k.1,fd.offset,k.2)
 |_=>none
theorem E3{d j:Nat}{t ty:TypeId}{pos:String}{aft:Array Edge}{x:Operand}{bb:Bool}{off k:Nat}{L vs:List Value}(ht:W8 E.P t j=some (bb,off,k))(hx:ev f x=.agg L.toArray)(hv:(L.drop off).take k=vs)
  (hl:(bb||Nat.beq vs.length 1)=true):Ok E f G M ⟨some d,.field t x j,ty,pos,aft,none⟩ (HO bb vs):=fun w _=>by
 unfold W8 at ht
 split at ht
 ·rename_i fs hu
  obtain⟨fd,hfd,h3⟩:=qK.1 ht
  obtain⟨⟨b2,k2⟩,hk,h4⟩:=qF.1 h3
  simp only [Hu]at h4
  obtain⟨rfl,rfl,rfl⟩:=h4
  cases b2 with
  |true=>
   subst hv
   have e:L.toArray.extract fd.offset (fd.offset+k2)=((L.drop fd.offset).take k2).toArray:=by apply Ho.1;simp [List.extract_eq_take_drop]
   simp [execOp,hx,Instr.field,run_underlying hu,hfd,part,J2 hk,fZ hk,asAgg,HO]
  |false=>
   match vs,hl with
   |[v],_=>
    have h5:L[fd.offset]?=some v:=by
     have:=ax (fun l=>l[0]?) hv
     rw [mF,oA]at this
     split at this<;>simp_all
    simp [execOp,hx,Instr.field,run_underlying hu,hfd,part,J2 hk,asAgg,h5,HO]
 ·cases ht
end Go.Fw
namespace Go.Fw
open Go
theorem iv{k:IntKind}{a b:Int}(h:a=b):Value.int k a=Value.int k b:=by rw [h]
theorem eqv{x y:Value}(h:x=y:=by first|rfl|exact iv (by dsimp only;omega)|exact iv aa):x=y:=h
variable {p:Prop}
theorem aqO [Decidable p](h:(!decide p)=true):¬p:=by simpa using h
theorem aqP [Decidable p](h:(!decide p)=false):p:=by simpa using h
theorem FQ:∀(k:Nat) (l1 l2:List UInt8) (h:∀i,i<k→l1[i]?=l2[i]?) (h1:k<l1.length) (h2:k<l2.length),l1[k]≠l2[k]→Op.bytesLess l1 l2=decide (l1[k]<l2[k])
 |0,x::xs,y::ys,_,_,_,hn=>by
  simp only [WO]at hn⊢
  simp [Op.bytesLess,hn]
 |k+1,x::xs,y::ys,h,h1,h2,hn=>by
  have h0:=h 0 aa
  simp at h0
  subst h0
  have ih:=FQ k xs ys (fun i hi=>by simpa using h (i+1) aa) (by simpa using h1) (by simpa using h2) (by simpa using hn)
  simp only [Op.bytesLess,NI,ih]
  simp
 |_,[],_,_,h1,_,_=>by simp at h1
 |_,_::_,[],_,_,h2,_=>by simp at h2
theorem Ec:∀(k:Nat) (l1 l2:List UInt8) (h:∀i,i<k→l1[i]?=l2[i]?),(k=l1.length∨k=l2.length)→k≤l1.length→k≤l2.length→Op.bytesLess l1 l2=decide (l1.length<l2.length)
 |0,l1,l2,_,h,_,_=>by
  cases l1<;>cases l2<;>simp [Op.bytesLess]at h⊢
 |k+1,x::xs,y::ys,h,h0,h1,h2=>by
  have h3:=h 0 aa
  simp at h3
  subst h3
  have ih:=Ec k xs ys (fun i hi=>by simpa using h (i+1) aa) (by simpa using h0) (by simpa using h1) (by simpa using h2)
  simp [Op.bytesLess,ih]
 |k+1,[],_,_,_,h1,_=>by simp at h1
 |k+1,_::_,[],_,_,_,h2=>by simp at h2
theorem getElem?_data(a:ByteArray)(i:Nat):a[i]?=a.toList[i]?:=by
 rw [ByteArray.toList_eq]
 by_cases h:i<a.size
 ·rw [vA a i h,eY (by simpa using h)]
  simp [ByteArray.getElem_eq_getElem_data]
 ·rw [getElem?_neg a i h,rE (by simpa using h)]
theorem size_data(a:ByteArray):a.size=a.toList.length:=by rw [ByteArray.toList_eq];simp
variable {a:ByteArray} {b:ByteArray} {k:Nat}
theorem ajs(h:∀i,i<k→a[i]?=b[i]?)(h1:k<a.size)(h2:k<b.size)(hn:(a[k]'h1).toNat≠(b[k]'h2).toNat):decide (((a[k]'h1).toNat:Int)<(b[k]'h2).toNat)=blt a b:=by
 have e1:∀(c:ByteArray) (hc:k<c.size),c.toList[k]'(by rw [←size_data];exact hc)=c[k]'hc:=fun c hc=>by
  have:=getElem?_data c k
  rw [vA c k hc,eY (by rw [←size_data];exact hc)]at this
  exact(Hx this).symm
 unfold blt
 rw [FQ k a.toList b.toList (fun i hi=>by rw [←getElem?_data,←getElem?_data];exact h i hi) (by rw [←size_data];exact h1) (by rw [←size_data];exact h2) (by
  rw [e1 a h1,e1 b h2];exact fun e=>hn (by rw [e]))]
 rw [e1 a h1,e1 b h2,eZ]
 simp [UInt8.lt_iff_toNat_lt]
theorem Ij(h:∀i,i<k→a[i]?=b[i]?)(h0:k=a.size∨k=b.size)(h1:k≤a.size)(h2:k≤b.size):decide ((a.size:Int)<b.size)=blt a b:=by
 unfold blt
 rw [Ec k a.toList b.toList (fun i hi=>by rw [←getElem?_data,←getElem?_data];exact h i hi) (by rw [←size_data,←size_data];exact h0) (by rw [←size_data];exact h1) (by rw [←size_data];exact h2)]
 rw [←size_data,←size_data,eZ]
 simp
theorem aiL(h:∀i,i<k→a[i]?=b[i]?)(h1:k<a.size)(h2:k<b.size)(he:((a[k]'h1).toNat:Int)=(b[k]'h2).toNat):∀i,i<k+1→a[i]?=b[i]?:=fun i hi=>by
 by_cases e:i=k
 ·subst e
  rw [vA a i h1,vA b i h2]
  congr 1
  exact UInt8.toNat_inj.1 aa
 ·exact h i aa
structure af where
 b:ByteArray
 le:b.size≤140737488355328
variable {a:af} {b:af}
theorem af.ext'(h:a.b=b.b):a=b:=by cases a;cases b;simp_all
theorem af.AF{a b:af} :a.b=b.b↔a=b:=⟨af.ext',fun h=>h▸rfl⟩
instance : DecidableEq af := fun a b => decidable_of_iff (a.b = b.b) af.AF
def af.nil:af:=⟨⟨#[]⟩,by decide⟩
instance : Inhabited af := ⟨af.nil⟩
def af.lt (a b:af):Bool:=blt a.b b.b
def i64 (n:Int):Prop:= -9223372036854775808≤n∧n≤9223372036854775807
structure Span where
 lo:af
 hi:af
 bQ:Bool
 deriving DecidableEq
structure aG where
 key:af
 val:af
 deriving DecidableEq
structure aD where
 aW:Int
 kind:Int
 key:af
 hi:af
 bQ:Bool
 val:af
 deriving DecidableEq
structure Nd where
 slot:Int
 level:Int
 ab:List af
 kids:List Int
 high:af
 fp:Bool
 right:Int
 seen:Int
 aj:List aD
 rows:List aG
 deriving DecidableEq
instance : Inhabited aG := ⟨⟨default, default⟩⟩
def aD.Ok (m:aD):Prop:=i64 m.aW∧i64 m.kind
def Nd.Ok (n:Nd):Prop:=i64 n.slot∧i64 n.level∧i64 n.right∧i64 n.seen
def Span.cells (s:Span):List Value:=[.string s.lo.b,.string s.hi.b,.bool s.bQ]
def aD.cells (m:aD):List Value:=[.int .i64 m.aW,.int .i64 m.kind,.string m.key.b,.string m.hi.b,.bool m.bQ,.string m.val.b]
def cy:fB af where
 k:=1
 w:=16
 R:=fun _ cs s=>cs=[.string s.b]
 mono:=fun _ h=>h
 len:=fun h=>by rw [h];rfl
 one:=fun h u hu=>by rw [h]at hu;simp at hu;subst hu;rfl
def bE:fB Int where
 k:=1
 w:=8
 R:=fun _ cs n=>cs=[.int .i64 n]∧i64 n
 mono:=fun _ h=>h
 len:=fun h=>by rw [h.1];rfl
 one:=fun h u hu=>by rw [h.1]at hu;simp at hu;subst hu;rfl
def aU:fB aG where
 k:=2
 w:=32
 R:=fun _ cs p=>cs=[.string p.key.b,.string p.val.b]
 mono:=fun _ h=>h
 len:=fun h=>by rw [h];rfl
 one:=fun h u hu=>by rw [h]at hu;simp at hu;rcases hu with rfl|rfl<;>rfl
def dy:fB aD where
 k:=6
 w:=72
 R:=fun _ cs m=>cs=[.int .i64 m.aW,.int .i64 m.kind,.string m.key.b,.string m.hi.b,.bool m.bQ,.string m.val.b]∧m.Ok
 mono:=fun _ h=>h
 len:=fun h=>by rw [h.1];rfl
 one:=fun h u hu=>by rw [h.1]at hu;simp at hu;rcases hu with rfl|rfl|rfl|rfl|rfl|rfl<;>rfl
def cc (G:GH) (cs:List Value) (n:Nd):Prop:=
 ∃a1 c1 a2 c2 a3 c3 a4 c4,cs=[.int .i64 n.slot,.int .i64 n.level,.slice a1 n.ab.length c1,.slice a2 n.kids.length c2,.string n.high.b,.bool n.fp,.int .i64 n.right,.int .i64 n.seen,.slice a3 n.aj.length c3,.slice a4 n.rows.length c4]∧
  az cy G (.slice a1 n.ab.length c1) n.ab∧az bE G (.slice a2 n.kids.length c2) n.kids∧az dy G (.slice a3 n.aj.length c3) n.aj∧az aU G (.slice a4 n.rows.length c4) n.rows∧n.Ok
theorem cc.mono{G G':GH}{cs n}(hl:Le G G')(h:cc G cs n):cc G' cs n:=by
 obtain⟨a1,c1,a2,c2,a3,c3,a4,c4,h0,h1,h2,h3,h4,h5⟩:=h
 exact⟨a1,c1,a2,c2,a3,c3,a4,c4,h0,h1.mono hl,h2.mono hl,h3.mono hl,h4.mono hl,h5⟩
def dm:fB Nd where
 k:=10
 w:=152
 R:=cc
 mono:=fun hl h=>h.mono hl
 len:=fun h=>by obtain⟨a1,c1,a2,c2,a3,c3,a4,c4,h0,_⟩:=h;rw [h0];rfl
 one:=fun h u hu=>by
  obtain⟨a1,c1,a2,c2,a3,c3,a4,c4,h0,_⟩:=h
  rw [h0]at hu
  simp at hu
  rcases hu with rfl|rfl|rfl|rfl|rfl|rfl|rfl|rfl|rfl|rfl<;>rfl
theorem ou:∀l:List UInt8,Op.bytesLess l l=false
 |[]=>rfl
 |x::xs=>by simp [Op.bytesLess,ou xs]
theorem uw:∀ {a b c:List UInt8},Op.bytesLess a b=true→Op.bytesLess b c=true→Op.bytesLess a c=true
 |[],_::_,_::_,_,_=>rfl
 |[],[],_,h,_=>by simp [Op.bytesLess]at h
 |_::_,[],_,h,_=>by simp [Op.bytesLess]at h
 |_,_::_,[],_,h=>by simp [Op.bytesLess]at h
 |x::a,y::b,z::c,h1,h2=>by
  simp only [Op.bytesLess,kU,cm,fJ,Hm]at h1 h2⊢
  rcases h1 with h1|⟨rfl,h1⟩
  ·rcases h2 with h2|⟨rfl,h2⟩
   ·exact .inl (UInt8.lt_trans h1 h2)
   ·exact .inl h1
  ·rcases h2 with h2|⟨rfl,h2⟩
   ·exact .inl h2
   ·exact .inr ⟨rfl,uw h1 h2⟩
theorem ux:∀ {a b:List UInt8},Op.bytesLess a b=false→Op.bytesLess b a=false→a=b
 |[],[],_,_=>rfl
 |[],_::_,h,_=>by simp [Op.bytesLess]at h
 |_::_,[],_,h=>by simp [Op.bytesLess]at h
 |x::a,y::b,h1,h2=>by
  simp only [Op.bytesLess,rM,wj,lR,WL]at h1 h2
  obtain⟨h3,h4⟩:=h1
  obtain⟨h5,h6⟩:=h2
  have e:x=y:=UInt8.le_antisymm (Hp.1 h5) (Hp.1 h3)
  subst e
  have h4:Op.bytesLess a b=false:=h4.resolve_left (by simp)
  have h6:Op.bytesLess b a=false:=h6.resolve_left (by simp)
  rw [ux h4 h6]
theorem af.lt_irrefl(a:af):a.lt a=false:=ou _
theorem af.lt_trans{c:af}(h:a.lt b=true)(k:b.lt c=true):a.lt c=true:=uw h k
theorem af.iw(h:a.lt b=false)(k:b.lt a=false):a=b:=af.ext' (toList_inj.1 (ux h k))
theorem af.lt_asymm(h:a.lt b=true):b.lt a=false:=by
 cases hb:b.lt a
 ·rfl
 ·have:=af.lt_trans h hb;rw [af.lt_irrefl]at this;cases this
theorem af.lt_of_le_of_lt{c:af}(h:b.lt a=false)(k:b.lt c=true):a.lt c=true:=by
 cases rY:a.lt b
 ·rw [af.iw rY h];exact k
 ·exact af.lt_trans rY k
theorem af.lt_of_lt_of_le{c:af}(h:a.lt b=true)(k:c.lt b=false):a.lt c=true:=by
 cases hbc:b.lt c
 ·rw [←af.iw hbc k];exact h
 ·exact af.lt_trans h hbc
theorem af.le_trans{a b c:af}(h:b.lt a=false)(k:c.lt b=false):c.lt a=false:=by
 cases hca:c.lt a
 ·rfl
 ·rw [af.lt_of_lt_of_le hca h]at k;cases k
theorem af.nil_le(a:af):a.lt af.nil=false:=by
 show Op.bytesLess a.b.toList (ByteArray.mk #[]).toList=false
 have:(ByteArray.mk #[]).toList=[]:=by rw [ByteArray.toList_eq]
 rw [this]
 cases a.b.toList<;>rfl
def Span.zero:Span:=⟨af.nil,af.nil,false⟩
def Span.has (s:Span) (k:af):Bool:= !k.lt s.lo&&(s.bQ||k.lt s.hi)
def Span.empty (s:Span):Bool:= !s.bQ&& !s.lo.lt s.hi
def Span.norm (s:Span):Span:=if s.empty=true then Span.zero else if s.bQ=true then { s with hi:=af.nil } else s
def Span.all:Span:=⟨af.nil,af.nil,true⟩
theorem Span.empty_eq(s:Span):(!s.has s.lo)=s.empty:=by
 simp [Span.has,Span.empty,af.lt_irrefl]
def rising:List af→Bool
 |a::b::r=>a.lt b&&rising (b::r)
 |_=>true
theorem iq:∀ {l:List af},rising l=true↔∀i (h:i+1<l.length),l[i].lt l[i+1]=true
 |[]=>by simp [rising]
 |[a]=>by simp [rising]
 |a::b::r=>by
  simp only [rising,cm]
  rw [iq]
  constructor
  ·rintro⟨h1,h2⟩ i h
   cases i with
   |zero=>exact h1
   |succ i=>exact h2 i (by simpa using h)
  ·intro h
   exact⟨h 0 (by simp),fun i hi=>h (i+1) (by simpa using hi)⟩
variable {i:Nat} {l:List af}
theorem aan(h:i+1<l.length)(hn:l[i].lt l[i+1]=false):rising l=false:=by
 cases hr:rising l
 ·rfl
 ·rw [iq.1 hr i h]at hn;cases hn
theorem jt{l:List af}(hr:rising l=true):∀(j i:Nat) (tS:i<j) (hj:j<l.length),l[i].lt l[j]=true
 |0,i,h,_=>by omega
 |j+1,i,h,hj=>by
  have h1:=iq.1 hr j hj
  by_cases e:i=j
  ·subst e;exact h1
  ·exact af.lt_trans (jt hr j i aa aa) h1
def fA (ab:List af) (n:Nat):Bool:=rising ab&&decide (n=ab.length+1)
def ae (l:List af) (k:af):Nat:=(l.filter fun p=> !k.lt p).length
def aA (l:List af) (i:Int):Span:=
 if i<0∨(l.length:Int)<i then Span.zero
 else Span.norm ⟨if 0<i then l.getD (i-1).toNat af.nil else af.nil,l.getD i.toNat af.nil,decide ((l.length:Int)≤i)⟩
def aqX:List af→Int→Int→Int
 |[],n,_=>n
 |s::l,n,Ii=>if n≤Ii then aqX l (n+(s.b.size+1)) Ii else n
variable {k:af}
theorem J5(hr:rising l=true)(hi:i≤l.length)(h1:∀j (h:j<l.length),j<i→k.lt l[j]=false)(h2:∀j (h:j<l.length),i≤j→k.lt l[j]=true):ae l k=i:=by
 unfold ae
 have e:l=l.take i++l.drop i:=(fo i l).symm
 rw [e,gv,bP]
 have f1:(l.take i).filter (fun p=> !k.lt p)=l.take i:=by
  rw [rF]
  intro a ha
  obtain⟨j,hj,rfl⟩:=cj ha
  simp only [bV]at hj
  rw [nL,h1 j aa aa];rfl
 have f2:(l.drop i).filter (fun p=> !k.lt p)=[]:=by
  rw [rG]
  intro a ha
  obtain⟨j,hj,rfl⟩:=cj ha
  simp only [cv]at hj
  rw [pB,h2 (i+j) aa aa];simp
 rw [f1,f2]
 simp [hi]
def gf (l:List af) (k:af):Nat:=(l.filter fun p=>p.lt k).length
theorem wz(hi:i≤l.length)(h1:∀j (h:j<l.length),j<i→l[j].lt k=true)(h2:∀j (h:j<l.length),i≤j→l[j].lt k=false):gf l k=i:=by
 unfold gf
 have e:l=l.take i++l.drop i:=(fo i l).symm
 rw [e,gv,bP]
 have f1:(l.take i).filter (fun p=>p.lt k)=l.take i:=by
  rw [rF]
  intro a ha
  obtain⟨j,hj,rfl⟩:=cj ha
  simp only [bV]at hj
  rw [nL,h1 j aa aa]
 have f2:(l.drop i).filter (fun p=>p.lt k)=[]:=by
  rw [rG]
  intro a ha
  obtain⟨j,hj,rfl⟩:=cj ha
  simp only [cv]at hj
  rw [pB,h2 (i+j) aa aa];simp
 rw [f1,f2]
 simp [hi]
theorem OW{a a':Int}{b b':Bool}(h:a=a')(k:b=b'):Value.tuple #[.int .i64 a,.bool b]=Value.tuple #[.int .i64 a',.bool b']:=by rw [h,k]
variable {j:Nat}
theorem Tx(hr:rising l=true)(tS:i≤j)(hj:j<l.length):l[j].lt (l[i]'aa)=false:=by
 by_cases e:i=j
 ·subst e;exact af.lt_irrefl _
 ·exact af.lt_asymm (jt hr j i aa hj)
variable {m:Nat}
theorem TF(hr:rising l=true)(hm:m<l.length)(h:l[m].lt k=true)(q:Nat)(hq:q<l.length)(hqm:q<m+1):l[q].lt k=true:=
 af.lt_of_le_of_lt (Tx hr aa hm) h
theorem Fg(hr:rising l=true)(hm:m<l.length)(h:l[m].lt k=false)(q:Nat)(hq:q<l.length)(hqm:m≤q):l[q].lt k=false:=by
 cases h1:l[q].lt k
 ·rfl
 ·rw [af.lt_of_le_of_lt (Tx hr hqm hq) h1]at h;cases h
theorem OX(l:List af)(k:af):gf l k≤l.length:=fy _ _
theorem Ed(hr:rising l=true)(k:af):(∀j (h:j<l.length),j<gf l k→l[j].lt k=true)∧(∀j (h:j<l.length),gf l k≤j→l[j].lt k=false):=by
  suffices ∃i,i≤l.length∧(∀j (h:j<l.length),j<i→l[j].lt k=true)∧(∀j (h:j<l.length),i≤j→l[j].lt k=false)by
    obtain⟨i,h0,h1,h2⟩:=this
    rw [wz h0 h1 h2];exact⟨h1,h2⟩
  by_cases h:∃i,∃h:i<l.length,l[i].lt k=false
  · have key:∀n i,i≤n→∀(h:i<l.length),l[i].lt k=false→∃i,∃h:i<l.length,l[i].lt k=false∧∀j (hj:j<l.length),j<i→l[j].lt k=true:=by
      intro n
      induction n with
      | zero => intro i hi hl hk;obtain rfl:i=0:=aa
                exact⟨0,hl,hk,fun j _ hj=>by omega⟩
      | succ n ih=>
        intro i hi hl hk
        by_cases h2:∃j,∃hj:j<l.length,j<i∧l[j].lt k=false
        · obtain⟨j,hj,wC,hjk⟩:=h2
          exact ih j aa hj hjk
        · refine⟨i,hl,hk,fun j hj wC=> ?_⟩
          cases h3:l[j].lt k
          ·exact absurd ⟨j,hj,wC,h3⟩ h2
          ·rfl
    obtain⟨i,hi,hk⟩:=h
    obtain⟨i,hi,hk,h3⟩:=key i i (bZ _) hi hk
    exact⟨i,aa,h3,fun j hj tS=>Fg hr hi hk j hj tS⟩
  · refine⟨l.length,bZ _,fun j hj _=> ?_,fun j hj h=>by omega⟩
    cases h3:l[j].lt k
    ·exact absurd ⟨j,hj,h3⟩ h
    ·rfl
theorem zp(hr:rising l=true)(h:l[gf l k]?=some k):((gf l k:Nat):Int)+1=(ae l k:Nat):=by
 obtain⟨ko,he⟩:=vz.1 h
 have:=Ed hr k
 rw [J5 hr (i:=gf l k+1) aa (fun j hj wC=> ?_) (fun j hj wC=> ?_)]
 ·omega
 ·by_cases e:j=gf l k
  ·subst e;rw [he];exact af.lt_irrefl _
  ·exact af.lt_asymm (this.1 j hj aa)
 ·rw [←he];exact jt hr j (gf l k) aa hj
theorem BN(hr:rising l=true)(h:¬l[gf l k]?=some k):((gf l k:Nat):Int)=(ae l k:Nat):=by
 have:=Ed hr k
 have hle:=OX l k
 rw [J5 hr (i:=gf l k) hle (fun j hj wC=>af.lt_asymm (this.1 j hj wC)) (fun j hj wC=> ?_)]
 cases h1:k.lt l[j]
 ·have h2:l[j]=k:=af.iw (this.2 j hj wC) h1
  by_cases e:j=gf l k
  ·subst e;exact absurd (by rw [eY hj,h2]) h
  ·have h3:=jt hr j (gf l k) aa hj
   rw [h2]at h3
   rw [this.2 (gf l k) aa (bZ _)]at h3
   cases h3
 ·rfl
theorem Nq(l:List af)(k:af)(i:Nat):ae (l.take i) k≤i:=by
 refine gg (fy _ _) ?_
 simp;omega
variable {i:Int}
theorem Cy(h:i<0∨(l.length:Int)<i):aA l i=Span.zero:=by unfold aA;rw [if_pos h]
theorem ud(h:0≤i)(h':i≤(l.length:Int)):
  aA l i=Span.norm ⟨if 0<i then l.getD (i-1).toNat af.nil else af.nil,l.getD i.toNat af.nil,decide ((l.length:Int)≤i)⟩:=by
 unfold aA;rw [if_neg aa]
variable {α:Type}
theorem nj{l:List α}{i:Nat}{d:α}(h:i<l.length):l.getD i d=l[i]:=by simp [List.getD,eY h]
theorem KI{l:List α}{i:Nat}{d:α}(h:l.length≤i):l.getD i d=d:=by simp [List.getD,rE h]
theorem afn(h:0<i)(h':i<(l.length:Int))(a:(i-1).toNat<l.length)(b:i.toNat<l.length):Span.norm ⟨l[(i-1).toNat],l[i.toNat],false⟩=aA l i:=by
 rw [ud aa aa,if_pos h,nj (d:=af.nil) a,nj (d:=af.nil) b,gr aa]
theorem afo(h:0<i)(h':¬i<(l.length:Int))(h2:i≤l.length)(a:(i-1).toNat<l.length):Span.norm ⟨l[(i-1).toNat],af.nil,true⟩=aA l i:=by
 rw [ud aa aa,if_pos h,nj a,KI aa,dB aa]
theorem afp(h0:¬i<0)(h:¬0<i)(h':i<(l.length:Int))(b:i.toNat<l.length):Span.norm ⟨af.nil,l[i.toNat],false⟩=aA l i:=by
 rw [ud aa aa,if_neg h,nj b,gr aa]
theorem afq(h0:¬i<0)(h:¬0<i)(h':¬i<(l.length:Int))(h2:i≤l.length):Span.norm ⟨af.nil,af.nil,true⟩=aA l i:=by
 rw [ud aa aa,if_neg h,KI aa,dB aa]
variable {p:List af}
theorem dp{n:Nat}(h:fA p n=true):rising p=true∧n=p.length+1:=by
 simpa [fA]using h
theorem ld(s:Span)(k:af):s.norm.has k=s.has k:=by
 unfold Span.norm
 by_cases h:s.empty=true
 ·rw [if_pos h]
  simp only [Span.empty,cm,kV]at h
  have e1:Span.zero.has k=false:=by simp [Span.has,Span.zero,af.nil_le]
  rw [e1]
  cases hk:s.has k
  ·rfl
  ·simp only [Span.has,h.1,uy,cm,kV]at hk
   have:=af.lt_of_le_of_lt hk.1 hk.2
   rw [h.2]at this;cases this
 ·rw [if_neg h]
  split
  ·rename_i ho;simp [Span.has,ho]
  ·rfl
theorem eR(hr:rising p=true)(k:af)(hj:j≤p.length):(aA p (j:Int)).has k=decide (j=ae p k):=by
 rw [ud aa aa,ld]
 have XM:ae p k≤p.length:=fy _ _
 obtain⟨h1,h2⟩:(∀i (h:i<p.length),i<ae p k→k.lt p[i]=false)∧(∀i (h:i<p.length),ae p k≤i→k.lt p[i]=true):=by
  have hl:=Ed hr k
  by_cases hy:p[gf p k]?=some k
  ·have e:=zp hr hy
   obtain⟨ko,he⟩:=vz.1 hy
   refine⟨fun i h hi=> ?_,fun i h hi=> ?_⟩
   ·by_cases e2:i=gf p k
    ·subst e2;rw [he];exact af.lt_irrefl _
    ·exact af.lt_asymm (hl.1 i h aa)
   ·have h3:=jt hr i (gf p k) aa h
    rw [he]at h3;exact h3
  ·have e:=BN hr hy
   refine⟨fun i h hi=>af.lt_asymm (hl.1 i h aa),fun i h hi=> ?_⟩
   cases h1:k.lt p[i]
   ·have h2:p[i]=k:=af.iw (hl.2 i h aa) h1
    have h3:i=gf p k:=by
     by_cases e2:gf p k<i
     ·have h4:=jt hr i (gf p k) e2 h
      have h5:=hl.2 (gf p k) aa (bZ _)
      rw [h2]at h4;rw [h4]at h5;cases h5
     ·omega
    subst h3
    exact absurd (by rw [eY h,h2]) hy
   ·rfl
 rw [eZ]
 simp only [Span.has,cm,kV,kU,fJ]
 constructor
 ·rintro⟨ha,hb⟩
  have eG:j≤ae p k:=by
   rcases rO (ae p k) j with ko|RX
   ·rw [if_pos aa,nj (d:=af.nil) (by omega:((j:Int)-1).toNat<p.length)]at ha
    rw [h2 _ aa aa]at ha;cases ha
   ·exact RX
  have ji:ae p k≤j:=by
   rcases hb with hb|hb
   ·omega
   ·rcases rO j (ae p k)with ko|RX
    ·rw [nj (d:=af.nil) (by omega:(j:Int).toNat<p.length)]at hb
     rw [h1 _ aa aa]at hb;cases hb
    ·exact RX
  omega
 ·rintro rfl
  refine⟨?_,?_⟩
  ·split
   ·rw [nj (d:=af.nil) aa];exact h1 _ aa aa
   ·exact af.nil_le k
  ·by_cases he:ae p k=p.length
   ·left;omega
   ·right
    rw [nj (d:=af.nil) aa];exact h2 _ aa aa
end Go.Fw
namespace Go.Fw
open Go Go.RowKit
def yS (w:World):GH:=fun b=>w.heap[b]?
def Ya {α:Type} (P:Program) (t:TypeId) (e:fB α):Prop:=
 ∀ {H:Type} (enc:TypeId×Value→H) (w:World) (dS:Nat) (cs:List Value) (x:DataW H×List MemPlace),
  DataW.trod enc P w 0 (fun _=>true) true dS t cs=some x→(∀n∈x.1.weights P t,n≤140737488351232)→∃a,e.R (yS w) cs a
variable {P:Program} {t:TypeId}
theorem axT(ht:P.underlying t=some .string):Ya P t cy:=by
 intro H enc w dS cs x h hw
 obtain⟨s,rfl,rfl,hs⟩:=DataW.trod_string ht h
 have:=hw s.data.toList.length (by simp [DataW.weights])
 exact⟨⟨s,by simp at this;have e:s.size=s.data.size:=rfl;omega⟩,rfl⟩
theorem aiT{n:Int}(h:(Lit.int .i64 n).wf=true):i64 n:=by
 simp [Lit.wf,IntKind.min,IntKind.max,IntKind.bits,IntKind.signed]at h
 exact⟨aa,aa⟩
theorem axU(ht:P.underlying t=some (.int .i64)):Ya P t bE:=by
 intro H enc w dS cs x h hw
 obtain⟨n,rfl,rfl,hn⟩:=DataW.trod_int ht h
 exact⟨n,rfl,aiT hn⟩
theorem aiU{w:World}{b o n:Nat}{cs:List Value}(h:w.cells? 0 ⟨b,o,none⟩ n=some cs)(hn:0<n):cs.length=n∧jc (yS w) b o cs:=by
 obtain⟨_,hl,hc⟩:=World.cells?_some h
 refine⟨hl,?_⟩
 have h0:∀j,j<cs.length→∃v,cs[j]?=some v∧w.cell? ⟨b,o+j,none⟩=some v:=fun j hj=>by
  have:=hc j aa
  rw [Addr.add_lit]at this
  exact⟨cs[j],eY hj,by rw [this,eY hj]⟩
 obtain⟨v0,_,hv0⟩:=h0 0 aa
 cases hb:w.heap[b]? with
 |none=>simp [World.cell?,hb]at hv0
 |some ob=>
  cases ob<;>simp [World.cell?,hb]at hv0
  rename_i c T fr
  refine⟨c,T,fr,hb,fun j hj=> ?_⟩
  obtain⟨v,e1,e2⟩:=h0 j hj
  simp [World.cell?,hb]at e2
  rw [e1,e2]
theorem Cj{H:Type}{e:TypeId} :∀ {l:List (DataW H)} {d:DataW H},d∈l→∀n∈d.weights P e,n∈DataW.weightsAll P e l
 |[],_,h,_,_=>by cases h
 |a::l,d,h,n,hn=>by
  simp only [DataW.weightsAll,cP]
  rcases dK.1 h with rfl|h
  ·exact .inl hn
  ·exact .inr (Cj h n hn)
def aCc {α:Type} (P:Program) (t:TypeId) (e:fB α):Prop:=
 ∀ {H:Type} (enc:TypeId×Value→H) (w:World) (dS:Nat) (cs:List Value) (x:DataW H×List MemPlace),
  DataW.trod enc P w 0 (fun _=>true) true dS t cs=some x→(∀n∈x.1.weights P t,n≤140737488351232)→∃v l,cs=[v]∧az e (yS w) v l
theorem afO{α:Type}{t':TypeId}{e:fB α}(ht:cW P t=some t')(hd:Ya P t' e)(hk:P.cellsOf t'=e.k)(hp:0<e.k)(hb:jb P t'=some e.w):aCc P t e:=by
 intro H enc w dS cs x h hw
 have hu:=cR ht
 have hbo:P.bytesOf t'=e.w:=by
  simp only [jb,qF]at hb
  obtain⟨i,h1,h2⟩:=hb
  simp [Program.bytesOf,h1,h2]
 rcases DataW.trod_slice hu h with⟨rfl,rfl⟩|⟨a,len,cap,ys,zs,n,hf,rfl,rfl,h1,h2,h3,h4,h5,h6,h7⟩
 ·exact⟨_,[],rfl,az.nil⟩
 ·have Nt:(ys.length+zs.length)*e.w≤140737488351232:=by
   have h9:=hw (((ys.map (·.1)).length+(zs.map (·.1)).length)*P.bytesOf t') (by simp [DataW.weights,hu])
   simpa [hbo]using h9
  have hlen:ys.length≤140737488351232:=by
   have h8:ys.length≤(ys.length+zs.length)*e.w:=gg (Nat.le_add_right _ zs.length) (AA _ e.Ni)
   omega
  obtain⟨b,o,spot⟩:=a
  rw [hk]at h5
  have aFG:0<len→spot=none:=fun h0=>by
   have h8:=h5 0 h0
   rw [eY aa,qK]at h8
   obtain⟨cs,h9,ir⟩:=h8
   rw [Nat.zero_mul,Addr.add_zero']at h9
   obtain⟨_,hl,hc⟩:=World.cells?_some h9
   have ov:=hc 0 hp
   rw [Addr.add_zero',eY aa]at ov
   exact World.cell?_spot ov
  have hel:∀i,i<len→∃a',∃cs,jd (yS w) (.slice (some ⟨b,o,spot⟩) len cap) e.k i cs∧e.R (yS w) cs a':=fun i hi=>by
   have h8:=h5 i hi
   rw [eY aa,qK]at h8
   obtain⟨cs,h9,ir⟩:=h8
   obtain⟨a',ha'⟩:=hd enc w n cs _ ir (fun m hm=>hw m (by
    simp only [DataW.weights,hu,dK,cP]
    exact .inr (.inl (Cj (kn (bN (by omega:i<ys.length))) m hm))))
   obtain rfl:=aFG aa
   rw [Addr.add_lit]at h9
   obtain⟨_,jC⟩:=aiU h9 hp
   exact⟨a',cs,⟨b,o,len,cap,rfl,jC⟩,ha'⟩
  obtain⟨l,hl,hL⟩:∃l:List α,l.length=len∧∀i (h:i<l.length),∃cs,jd (yS w) (.slice (some ⟨b,o,spot⟩) len cap) e.k i cs∧e.R (yS w) cs l[i]:=by
   have key:∀m,m≤len→∃l:List α,l.length=m∧∀i (h:i<l.length),∃cs,jd (yS w) (.slice (some ⟨b,o,spot⟩) len cap) e.k i cs∧e.R (yS w) cs l[i]:=by
    intro m
    induction m with
    |zero=>exact fun _=>⟨[],rfl,fun i h=>absurd h (by simp)⟩
    |succ m ih=>
     intro hm
     obtain⟨l,h8,h9⟩:=ih aa
     obtain⟨a',cs,ir,ov⟩:=hel m aa
     refine⟨l++[a'],by simp [h8],fun i h=> ?_⟩
     by_cases hi:i<l.length
     ·obtain⟨cs',jC,xa⟩:=h9 i hi
      exact⟨cs',jC,by rw [yo hi];exact xa⟩
     ·have:i=m:=by simp at h;omega
      subst this
      exact⟨cs,ir,by rw [NS aa];simpa [h8]using ov⟩
   exact key len (bZ _)
  have h1':ys.length=l.length:=aa
  subst hl
  exact⟨_,l,rfl,some ⟨b,o,spot⟩,cap,rfl,h2,⟨h3,by rw [fz,h1']at Nt;omega⟩,(fun h=>nomatch h),hL⟩
theorem Fc.law{g:FuncId}{vs:List Value}{w:World}(h:Fc P g vs (yS w) [] (fun v _ _=>v=.bool true)):
  Calls P g vs.toArray w fun e w'=>e=.returned (.bool true)∧Below w.heap.size w w':=by
 have hw:Real w (fun b=>b∈(([]:MH).map (·.1))) (yS w) [] w:=⟨rfl,rfl,rfl,bZ _,fun _ _ _=>rfl,fun _ _ h=>h,(fun _ h=>nomatch h),(fun _ h=>nomatch h),HA,(fun _ h=>nomatch h)⟩
 refine(h.2 w hw).mono ?_
 rintro e w' ⟨v,G',M',rfl,h1,h2,h3,rfl⟩
 exact⟨rfl,h1.os,h1.tape,h1.output,h1.size,fun k hk=>h1.s9 k hk (fun h=>nomatch h)⟩
section
open Go.ChangeShapes Go.WideShapes Go.ChangeAt
open Go.ChangeMaps (open_string)
variable {H:Type} {enc:TypeId×Value→H} {P:Program} {W:World} {base:Nat} {t t':TypeId} {v:Value} {d:DataW H} {p:List MemPlace}
variable {α:Type}
theorem afN{e:fB α}(ht:cW P t=some t')(hd:aCc P t e)(hv:Value.okWide P W .any base t v)(h:DataW.Trod enc P W 0 (fun _=>true) true t v d p)(hw:∀n∈d.weights P t,n≤140737488351232):
  ∃l,az e (yS W) v l:=by
 obtain⟨a,len,cap,rfl⟩:=okWide_slice (cR ht) hv
 obtain⟨dS,hf⟩:=h
 obtain⟨v',l,h1,h2⟩:=hd enc W dS _ _ hf hw
 simp [Value.cells]at h1
 subst h1
 exact⟨l,h2⟩
theorem axV{e:fB α}{fs:Array Field}(ht:P.underlying t=some (.struct fs))(hd:Ya P t e)(hv:Value.okWide P W .any base t v)(h:DataW.Trod enc P W 0 (fun _=>true) true t v d p)(hw:∀n∈d.weights P t,n≤140737488351232):
  ∃cs a,v=.agg (List.toArray cs)∧e.R (yS W) cs a:=by
 obtain⟨cs,rfl,_⟩:=okWide_struct ht hv
 obtain⟨dS,hf⟩:=h
 obtain⟨a,h1⟩:=hd enc W dS _ _ hf hw
 exact⟨cs.toList,a,by simp,by simpa [Value.cells]using h1⟩
end
end Go.Fw
namespace Go.Fw
variable {j:Nat} {α:Type}
theorem Bx{l:List (List α)}(h:j<l.length):(l.take (j+1)).flatten=(l.take j).flatten++l[j]:=by
 rw [iA h,vB];simp
theorem dY{l:List (List α)}(h:j<l.length):(l.take (j+1)).flatten.length=(l.take j).flatten.length+l[j].length:=by rw [Bx h];simp
theorem nE(l:List (List α))(j:Nat):(l.take j).flatten.length≤l.flatten.length:=by
 have h:l.flatten=(l.take j).flatten++(l.drop j).flatten:=by rw [←vB,fo]
 rw [h];simp
theorem w6{l:List (List α)}(h:¬j<l.length):(l.take j).flatten=l.flatten:=by rw [fI aa]
theorem Kx{l:List α}{i:Nat}{d:α}(h:i<l.length):l.getD i d=l[i]:=by simp [h]
def je (p:List af) (c:List Int):List af×List Int×af×List af×List Int×Bool:=
 if c.length<4∨p.length≠c.length-1 then([],[],af.nil,[],[],false)
 else(p.take ((c.length+1) / 2-1),c.take ((c.length+1) / 2),p.getD ((c.length+1) / 2-1) af.nil,p.drop ((c.length+1) / 2),c.drop ((c.length+1) / 2),true)
variable {p:List af}
theorem Ky{c:List Int}(h:c.length<4∨p.length≠c.length-1):je p c=([],[],af.nil,[],[],false):=if_pos h
theorem Kz{c:List Int}(h:¬(c.length<4∨p.length≠c.length-1)):
  je p c=(p.take ((c.length+1) / 2-1),c.take ((c.length+1) / 2),p[(c.length+1) / 2-1]'aa,p.drop ((c.length+1) / 2),c.drop ((c.length+1) / 2),true):=by
 rw [je,if_neg h,Kx aa]
variable {G:GH} {v:Value}
theorem az.cast{e:fB α}{l l':List α}(h:az e G v l)(he:l=l'):az e G v l':=he▸h
theorem xj{n:Nat}(h:rising p=true)(h2:n=p.length+1):fA p n=true:=by simp [fA,h,h2]
theorem Il(h:rising p=true)(n:Nat):rising (p.take n)=true:=iq.2 fun i hi=>by
 simp at hi;simpa using iq.1 h i aa
theorem Io(h:rising p=true)(n:Nat):rising (p.drop n)=true:=iq.2 fun i hi=>by
 simp at hi;simpa [N1]using iq.1 h (n+i) aa
theorem jd.form{k n:Nat}{cs:List Value}(h:jd G v k n cs):∃a len cap,v=.slice (some a) len cap:=by
 obtain⟨b,o,len,cap,h1,_⟩:=h
 exact⟨_,len,cap,h1⟩
end Go.Fw
namespace Go.Fw
open Go Go.RowKit
theorem kH{a b:Bool}(h:a=true)(k:b=true):(a&&b)=true:=by rw [h,k];rfl
def xE (P:Program) (t:TypeId):Option (List (TypeId×Nat×Nat)):=match P.underlying t with
 |some (.struct fs)=>some (fs.toList.map fun f=>(f.type,f.offset,P.cellsOf f.type))
 |_=>none
variable {H:Type} {P:Program} {cs:List Value} {t:TypeId}
theorem K5{L:List (TypeId×Nat×Nat)}(hs:xE P t=some L){enc:TypeId×Value→H}{w:World}{dS:Nat}{x:DataW H×List MemPlace}
  (h:DataW.trod enc P w 0 (fun _=>true) true dS t cs=some x)(hw:∀n∈x.1.weights P t,n≤140737488351232):
  cs.length=P.cellsOf t∧∀(i:Nat) (ty:TypeId) (o k:Nat),L[i]?=some (ty,o,k)→∃y n,DataW.trod enc P w 0 (fun _=>true) true n ty ((cs.drop o).take k)=some y∧∀n∈y.1.weights P ty,n≤140737488351232:=by
 unfold xE at hs
 split at hs
 ·rename_i fs hu
  cases hs
  obtain⟨xs,n,rfl,rfl,hl,hlen,hf⟩:=DataW.trod_struct hu h
  refine⟨hl,fun i ty o k hi=> ?_⟩
  rw [N5,qF]at hi
  obtain⟨f,TH,he⟩:=hi
  cases he
  have hfa:fs[i]?=some f:=by rw [←Array.getElem?_toList];exact TH
  have h1:=hf i f hfa
  have hil:i<xs.length:=by rw [hlen];exact(NY.1 hfa).1
  rw [eY hil]at h1
  refine⟨xs[i],n,h1,fun m hm=>hw m ?_⟩
  show m∈DataW.weights P t (.agg _)
  unfold DataW.weights
  rw [hu]
  exact DataW.weights_mem_each (j:=i) (by rw [N5,TH];rfl) (by rw [N5,eY hil];rfl) m hm
 ·cases hs
variable {o:Nat}
theorem LP{v:Value}(h:(cs.drop o).take 1=[v]):cs[o]?=some v:=by
 have:=ax (·[0]?) h
 simpa using this
theorem Q7(ht:P.underlying t=some .string){enc:TypeId×Value→H}{w:World}{n:Nat}{y:DataW H×List MemPlace}
  (h:DataW.trod enc P w 0 (fun _=>true) true n t ((cs.drop o).take 1)=some y)(hw:∀n∈y.1.weights P t,n≤140737488351232):∃s:af,cs[o]?=some (.string s.b):=by
 obtain⟨a,ha⟩:=axT ht enc w n _ y h hw
 exact⟨a,LP ha⟩
theorem uY(ht:P.underlying t=some (.int .i64)){enc:TypeId×Value→H}{w:World}{n:Nat}{y:DataW H×List MemPlace}
  (h:DataW.trod enc P w 0 (fun _=>true) true n t ((cs.drop o).take 1)=some y)(hw:∀n∈y.1.weights P t,n≤140737488351232):∃a:Int,cs[o]?=some (.int .i64 a)∧i64 a:=by
 obtain⟨a,ha⟩:=axU ht enc w n _ y h hw
 exact⟨a,LP ha.1,ha.2⟩
theorem anc(ht:P.underlying t=some .bool){enc:TypeId×Value→H}{w:World}{n:Nat}{y:DataW H×List MemPlace}
  (h:DataW.trod enc P w 0 (fun _=>true) true n t ((cs.drop o).take 1)=some y):∃a:Bool,cs[o]?=some (.bool a):=by
 obtain⟨a,ha,_⟩:=DataW.trod_bool ht h
 exact⟨a,LP ha⟩
section
open Go.ChangeShapes Go.WideShapes Go.ChangeAt
theorem aa0{H:Type}{enc:TypeId×Value→H}{P:Program}{W:World}{base:Nat}{t:TypeId}{v:Value}{d:DataW H}{p:List MemPlace}{α:Type}{e:fB α}{L:List (TypeId×Nat×Nat)}(ht:xE P t=some L)(hd:Ya P t e)(hv:Value.okWide P W .any base t v)(h:DataW.Trod enc P W 0 (fun _=>true) true t v d p)(hw:∀n∈d.weights P t,n≤140737488351232):
  ∃cs a,v=.agg (List.toArray cs)∧e.R (yS W) cs a:=by
 unfold xE at ht
 split at ht
 ·rename_i fs hu;exact axV hu hd hv h hw
 ·cases ht
end
structure aX where
 fan:Int
 leaf:Int
 aT:Int
 bp:Int
 rest:Int
def aNn:fB aX where
 k:=5
 w:=40
 R:=fun _ cs c=>cs=[.int .i64 c.fan,.int .i64 c.leaf,.int .i64 c.aT,.int .i64 c.bp,.int .i64 c.rest]∧i64 c.fan∧i64 c.leaf∧i64 c.aT∧i64 c.bp∧i64 c.rest
 mono:=fun _ h=>h
 len:=fun h=>by rw [h.1];rfl
 one:=fun h u hu=>by rw [h.1]at hu;simp at hu;rcases hu with rfl|rfl|rfl|rfl|rfl<;>rfl
theorem aq5{P:Program}{t i:TypeId}(ht:xE P t=some [(i,0,1),(i,1,1),(i,2,1),(i,3,1),(i,4,1)])(hi:P.underlying i=some (.int .i64))(hc:P.cellsOf t=5):Ya P t aNn:=by
 intro H enc w dS cs x h hw
 obtain⟨hl,hf⟩:=K5 ht h hw
 obtain⟨y0,n0,t0,w0⟩:=hf 0 _ _ _ rfl
 obtain⟨y1,n1,t1,w1⟩:=hf 1 _ _ _ rfl
 obtain⟨y2,n2,t2,w2⟩:=hf 2 _ _ _ rfl
 obtain⟨y3,n3,t3,w3⟩:=hf 3 _ _ _ rfl
 obtain⟨y4,n4,t4,w4⟩:=hf 4 _ _ _ rfl
 obtain⟨a0,e0,q0⟩:=uY hi t0 w0
 obtain⟨a1,e1,q1⟩:=uY hi t1 w1
 obtain⟨a2,e2,q2⟩:=uY hi t2 w2
 obtain⟨a3,e3,q3⟩:=uY hi t3 w3
 obtain⟨a4,e4,q4⟩:=uY hi t4 w4
 rw [hc]at hl
 match cs,hl with
 |[_,_,_,_,_],_=>
  simp at e0 e1 e2 e3 e4
  subst e0 e1 e2 e3 e4
  exact⟨⟨a0,a1,a2,a3,a4⟩,rfl,q0,q1,q2,q3,q4⟩
def af.max (a b:af):af:=if a.lt b=true then b else a
def af.min (a b:af):af:=if(a.lt b||decide (a=b))=true then a else b
section
variable {E:Env} {f:Fr} {G:GH} {M:MH} {d:Nat} {ty:TypeId} {pos:String} {aft:Array Edge} {t t':TypeId} {x y:Operand} {a b:ByteArray}
theorem aaq(hx:ev f x=.string a)(hy:ev f y=.string b)(h:a.size+b.size≤9223372036854775807):Ok E f G M ⟨some d,.binOp .add t x y t',ty,pos,aft,none⟩ (.string (a++b)):=fun w _=>by
 have h2:¬(((a.size+b.size:Nat):Int)>IntKind.i64.max):=by simp [IntKind.max,IntKind.bits,IntKind.signed];omega
 simp only [execOp,hx,hy,eqGuard,binOp,Op.stringOp]
 rw [if_neg h2]
 simp
variable {tV:Array TypeId}
theorem aqa{a b:af}(hx:ev f x=.string a.b)(hy:ev f y=.string b.b):
  Ok E f G M ⟨some d,.call { callee:=.builtin .max,args:= #[x,y],argTypes:=tV },ty,pos,aft,none⟩ (.string (af.max a b).b):=fun _ _=>by
 simp [execOp,resolve,invoke,builtin,hx,hy,Builtin.max_,Builtin.max2,af.max,af.lt,blt,Op.stringOp,asBool]
 split<;>simp_all
theorem aqb{a b:af}(hx:ev f x=.string a.b)(hy:ev f y=.string b.b):
  Ok E f G M ⟨some d,.call { callee:=.builtin .min,args:= #[x,y],argTypes:=tV },ty,pos,aft,none⟩ (.string (af.min a b).b):=fun _ _=>by
 simp only [execOp,resolve,invoke,builtin,Builtin.min_,Builtin.min2,af.min,af.lt,blt,Op.stringOp,asBool,beq_toList]
 simp [hx,hy,Builtin.min2,Op.stringOp,asBool,beq_toList,←af.AF]
 split<;>simp_all
end
def Ty (p:Nat→Prop):List Nat→Prop
 |[]=>True
 |i::l=>p i∧Ty p l
theorem Ty.mem{p:Nat→Prop} :∀ {l:List Nat},Ty p l→∀i∈l,p i
 |_::_,h,i,hi=>by
  rcases dK.1 hi with rfl|hi
  ·exact h.1
  ·exact h.2.mem i hi
theorem W.sub{E:Env}{f:Fr}{G:GH}{M M':MH}{ops lo:List Oper}{K:Kt}(hs:M'.Sublist M)(h:W E ops.toArray false lo f G M' K):W E ops.toArray false lo f G M K:=fun a w Q hi hr hK=>h a w Q hi (hr.sub hs) hK
section
variable {E:Env} {f:Fr} {G:GH} {M Mk:MH} {ops:Array Oper} {K:Kt} {dS:Nat} {bS:Array Bool}
theorem WD.any(rs:List Nat)(hr:Region.ready .any ops bS=rs)(ig:rs.isEmpty=false)
  (h:Ty (fun i=>∃o,ops[i]?=some o∧o.guard=none∧W E [o].toArray false [o] f G M (fun f' G' M'=>Le G G'∧Mk.Sublist M'∧∃xg,xg.Sublist M'∧Mk.Sublist xg∧WD E ops dS (bS.setIfInBounds i true) f' G' M' xg K)) rs):WD E ops (dS+1) bS f G M Mk K:=by
 intro pw a w Q hi hw hp hK
 refine wpAnyH_all hr (by intro e;subst e;cases ig) ?_
 intro j hj
 obtain⟨o,ho,hg,h⟩:=h.mem j hj
 have h1:=h a w (fun e a' w'=>e=.normal∧E.real G Mk w'∧wpAnyH E.P .any ops Q (E.real G Mk) dS (bS.setIfInBounds j true) a' w') hi hw (by
  rintro f' G' M' a' w' h2 h3 ⟨h4,h5,xg,h6,h7,h8⟩
  have h9:E.real G' Mk w':=⟨h3.r.sub h5,h3.le,h3.nw⟩
  refine⟨rfl,h9.MW h4 hw.le,?_⟩
  refine BG (S:=E.real G' xg) (fun w zj=> ?_) _ _ _ _ (h8 h6 a' w' Q h2 h3 hp hK)
  have ir:E.real G' Mk w:=⟨zj.r.sub h7,zj.le,zj.nw⟩
  exact ir.MW h4 hw.le)
 unfold wpList at h1
 rw [if_pos (by simp [Region.wanted,hg])]at h1
 unfold wpOp
 simp only [ho]
 rw [if_pos (by simp [Region.wanted,hg])]
 rcases h1 with h1|⟨_,a1,w1,h1,_⟩
 ·left
  unfold Oper.wp at h1⊢
  exact Nl h1 (fun a' w' h2=>h2.2) (fun e a' w' he h2=>absurd h2.1 he)
 ·cases h1
end
def af.cut (a:af) (lo hi:Nat):af:=⟨a.b.extract lo hi,by have:=a.le;rw [ByteArray.size_extract];omega⟩
section
variable {E:Env} {f:Fr} {G:GH} {M:MH} {d:Nat} {ty:TypeId} {pos:String} {aft:Array Edge} {t:TypeId} {x:Operand}
theorem O0{a:af}{lo hi:Option Operand}(l h:Nat)(ht:E.P.underlying t=some .string)(hx:ev f x=.string a.b)(eG:vv f 0 l lo)(ji:vv f a.b.size h hi)(rY:l≤h∧h≤a.b.size):
  Ok E f G M ⟨some d,.slice t x lo hi none,ty,pos,aft,none⟩ (.string (a.cut l h).b):=fun w _=>by
 obtain⟨h1,h2⟩:=rY
 have hb:(Instr.sliceBounds false a.b.size a.b.size (lo.map (ev f)) (hi.map (ev f)) none).run E.P w=.ok (l,h,a.b.size) w:=by
  cases lo with
  |none=>
   simp only [vv]at eG
   subst eG
   cases hi with
   |none=>simp only [vv]at ji;subst ji;simp [Instr.sliceBounds]
   |some y=>
    have:=nG (P:=E.P) (f:=f) (x:=y) (n:=h) (y:=a.b.size) (code:=.sliceAlen) ji aa w
    simp [Instr.sliceBounds,this]
  |some z=>
   have hz:=nG (P:=E.P) (f:=f) (x:=z) (n:=l) (y:=h) (code:=.sliceB) eG h1 w
   cases hi with
   |none=>simp only [vv]at ji;subst ji;simp [Instr.sliceBounds,hz]
   |some y=>
    have:=nG (P:=E.P) (f:=f) (x:=y) (n:=h) (y:=a.b.size) (code:=.sliceAlen) ji aa w
    simp [Instr.sliceBounds,this,hz]
 simp only [execOp,Instr.sliceAt,Instr.slice,Sem.run_bind,run_underlying ht,Result.andThen_ok,HD,hx]
 simp [run_underlying ht,hb,af.cut]
end
end Go.Fw
namespace Go.Fw
open Go
theorem Ok.int{E:Env}{f:Fr}{G:GH}{M:MH}{o:Oper}{k:IntKind}{m n:Int}(h:Ok E f G M o (.int k m))(e:m=n):Ok E f G M o (.int k n):=e▸h
end Go.Fw
namespace Go.Fw
open Go Go.RowKit
section
variable {E:Env} {f:Fr} {G:GH} {M:MH} {ops rest:List Oper} {q:Bool} {K:Kt} {Q:Exit→Kt} {d:Nat} {ty:TypeId} {pos:String} {aft:Array Edge} {t t':TypeId} {x y:Operand}
theorem al4(a b:List UInt8):(!Op.bytesLess a b&& !(a==b))=Op.bytesLess b a:=by
 cases h1:Op.bytesLess a b
 ·cases h2:Op.bytesLess b a
  ·have:=ux h1 h2;subst this;simp
  ·have h3:a≠b:=by rintro rfl;rw [ou]at h2;cases h2
   simp [h3]
 ·cases h2:Op.bytesLess b a
  ·simp
  ·have:=uw h1 h2;rw [ou]at this;cases this
theorem azW(a b:List UInt8):(Op.bytesLess a b||(a==b))= !Op.bytesLess b a:=by
 rw [←al4 a b];simp
variable {a:ByteArray} {b:ByteArray}
theorem Ok.str{f:Fr}{G:GH}{M:MH}{o:Oper}(h:Ok E f G M o (.string a))(e:a=b):Ok E f G M o (.string b):=e▸h
variable {t2:TypeId}
theorem aqi(hx:ev f x=.string a)(hy:ev f y=.string b):Ok E f G M ⟨some d,.binOp .gtr t x y t2,ty,pos,aft,none⟩ (.bool (blt b a)):=fun _ _=>by
 simp [execOp,hx,hy,eqGuard,binOp,Op.stringOp,blt,al4]
theorem awO(hx:ev f x=.string a)(hy:ev f y=.string b):Ok E f G M ⟨some d,.binOp .leq t x y t2,ty,pos,aft,none⟩ (.bool (!blt b a)):=fun _ _=>by
 simp [execOp,hx,hy,eqGuard,binOp,Op.stringOp,blt,azW]
variable {args:List Operand} {tV:Array TypeId} {caps:List Value} {fst:List Value} {g:FuncId} {vs:List Value}
theorem Tz{w:World}{dst:Option Nat}(hc:jR E.P g)(hx:ev f x=.func (.func g) fst.toArray caps.toArray)(ha:fst++(args.map (ev f)++caps)=vs):
  (execOp (ev f) ⟨dst,.call { callee:=.value x,args:=args.toArray,argTypes:=tV },ty,pos,aft,none⟩).run E.P w=.ok (.enter g vs.toArray) w:=by
 have h4:=hc (fst.toArray++(args.map (ev f)).toArray++caps.toArray) w
 have e:fst.toArray++(args.map (ev f)).toArray++caps.toArray=vs.toArray:=by rw [←ha];simp
 simp only [execOp,resolve,hx,Deferred.ofValue,Sem.run_bind,Sem.run_pure,Result.andThen_ok,invoke,yq]
 rw [←e];exact h4
variable {v:Value}
theorem al5(hc:Fc E.P g vs G [] (fun v' _ _=>v'=v)){w:World}(hr:E.real G M w):Calls E.P g vs.toArray w fun e w'=>e=.returned v∧E.real G M w':=by
 have hw:Real w (fun b=>b∈(([]:MH).map (·.1))) G [] w:=⟨rfl,rfl,rfl,bZ _,fun _ _ _=>rfl,hr.r.ro,(fun _ h=>nomatch h),(fun _ h=>nomatch h),HA,(fun _ h=>nomatch h)⟩
 refine(hc.2 w hw).mono ?_
 rintro e w' ⟨v',G',M',rfl,h2,h3,h4,rfl⟩
 have h5:=Real.call (Mp:=[]) (Mr:=M) (by simpa using hr.r) h2 h4
 have h6:Real E.w0 E.own G' M w':=h5.sub (cH _ _)
 refine⟨rfl,Env.real.MW (G':=G') ⟨h6,hr.le.trans h3,?_⟩ h3 hr.le⟩
 intro b hb ow
 cases hg:G b with
 |none=>
  rcases h4 b hg ow with h7|h7
  ·exact .inl (gg hr.r.size h7)
  ·simp at h7
 |some o=>exact hr.nw b hb (by simp [hg])
theorem W.yv(hx:ev f x=.func (.func g) fst.toArray caps.toArray)(hc:Fc E.P g vs G [] (fun v' _ _=>v'=v))(ha:fst++(args.map (ev f)++caps)=vs)
  (k:W E ops.toArray q rest (jP f d v) G M K)(hd:Nat.blt d E.n=true:=by rfl):
  W E ops.toArray q (⟨some d,.call { callee:=.value x,args:=args.toArray,argTypes:=tV },ty,pos,aft,none⟩::rest) f G M K:=by
 cases q
 ·intro a w Q hi hr hK
  refine wpList_plain rfl fun K' iG=> ?_
  unfold Oper.wp
  rw [hi.eval,Tz hc.1 hx ha]
  refine(al5 hc hr).mono ?_
  rintro e w' ⟨rfl,h⟩
  exact iG _ _ (k _ w' Q (hi.put hd v) h hK)
 ·intro a hi
  refine wpQuiet_step fun K' iG=> ?_
  rw [if_pos (by rfl)]
  refine⟨v,fun w hr=> ?_,iG _ (k _ (hi.put hd v))⟩
  unfold Oper.quietAt
  rw [hi.eval,Tz hc.1 hx ha]
  exact⟨rfl,al5 hc hr⟩
def CR (Ms:MH) (v:Value) (k n:Nat) (cs:List Value):Prop:=∃b len cap T cur,v=.slice (some ⟨b,0,none⟩) len cap∧Ms=[(b,Obj.cells cur T (0,0))]∧∀j,j<cs.length→cur[n*k+j]?=cs[j]?
variable {Ms:MH} {cs:List Value}
theorem CR.form{k n:Nat}(h:CR Ms v k n cs):∃a n c,v=.slice (some a) n c:=by
 obtain⟨b,len,cap,T,cur,rfl,_⟩:=h;exact⟨_,_,_,rfl⟩
theorem aE.at{α:Type}{e:fB α}{T:TypeId}{v:Value}{l:List α}{Ms:MH}(ho:aE e T G v l Ms){i:Nat}(hi:i<l.length):∃cs,CR Ms v e.k i cs∧e.R G cs l[i]:=by
 obtain⟨css,h1,⟨h2,h3⟩,h4⟩:=ho
 obtain⟨h5,h6⟩:=h1.spec
 obtain⟨cs,h7,h8⟩:=h6 i hi
 refine⟨cs,?_,h8⟩
 rcases h3 with⟨rfl,hn,_⟩|⟨b,cap,cur,rfl,h9,ir,ov,jC,rfl⟩
 ·omega
 ·refine⟨b,_,cap,T,cur,rfl,rfl,fun j hj=> ?_⟩
  have xa:=tv (k:=e.k) h1.lens h7 j hj
  have hk:cs.length=e.k:=h1.lens cs (NX h7)
  have ko:i*e.k+j<l.length*e.k:=by
   have:(i+1)*e.k≤l.length*e.k:=ic _ hi
   rw [fz]at this;omega
  rw [←xa,←jC,mF,if_pos ko]
  simp
variable {T:TypeId} {b:Bool} {i:Nat} {α:Type}
theorem aV{e:fB α}{l:List α}{k:IntKind}{m:Int}(ht:cW E.P t=some t')(hk:gO E.P t'=some (b,e.k))(ho:aE e T G v l Ms)(hx:ev f x=v)(hy:ev f y=.int k m)(hi:m=i∧i<l.length):
  Ok E f G M ⟨some d,.indexAddr t x y,ty,pos,aft,none⟩ (.pointer (some (mN v e.k i 0))):=fun _ _=>by
 obtain⟨rfl,hi⟩:=hi
 obtain⟨css,h1,⟨h2,h3⟩,h4⟩:=ho
 rcases h3 with⟨rfl,hn,_⟩|⟨b,cap,cur,rfl,h9,ir,ov,jC,rfl⟩
 ·omega
 ·simp [execOp,hx,hy,Instr.indexAt,asIntOf,run_underlying (cR ht),hi,fZ hk,mN,Addr.add_lit]
variable {B:MH} {j:Nat} {o:Nat}
theorem dQ{kk:Nat}(ht:gO E.P t=some (b,j))(he:CR Ms v kk i cs)(hM:(Ms++B).Perm M)(hx:ev f x=.pointer (some (mN v kk i o)))
  (hv:(cs.drop o).take j=vs)(hl:vs.length=j)(hb:b=false→j=1):Ok E f G M ⟨some d,.load t x,ty,pos,aft,none⟩ (HO b vs):=fun w hr=>by
 obtain⟨bb,len,cap,T,cur,rfl,rfl,hc⟩:=he
 subst hv
 have ow:w.heap[bb]?=some (.cells cur T (0,0)):=hr.r.mu (bb,.cells cur T (0,0)) ((hM.mem_iff).1 (by simp))
 have:=jB ht hb (w:=w) (a:=⟨bb,0+i*kk+o,none⟩) hl (fun j' v' yd=>by
  rw [Addr.add_lit]
  rw [mF]at yd
  split at yd
  ·rw [oA]at yd
   have h1:=hc (o+j') (vz.1 yd).1
   rw [yd]at h1
   simp only [World.cell?,ow]
   rw [show 0+i*kk+o+j'=i*kk+(o+j')from by omega]
   exact h1
  ·cases yd)
 simp only [rQ]at this
 simp [execOp,hx,Instr.loadAt,Instr.sureAddr,mN,this]
theorem fG.set{e:fB α}{G:GH}{a:α}(h:e.R G cs a):∀ {css:List (List Value)} {l:List α} {i:Nat},fG e G css l→i<l.length→fG e G (css.set i cs) (l.set i a)
 |[],[],_,_,hi=>absurd hi (qJ _)
 |_::_,_::_,0,h2,_=>⟨h,h2.2⟩
 |_::css,_::l,i+1,h2,hi=>⟨h2.1,fG.set h h2.2 (by simpa using hi)⟩
theorem BJ{k:Nat} :∀ {css:List (List Value)} {i:Nat} {cs:List Value},(∀c∈css,c.length=k)→cs.length=k→i<css.length→(css.set i cs).flatten=css.flatten.take (i*k)++cs++css.flatten.drop (i*k+k)
 |c::css,0,cs,h,hc,_=>by
  have:=h c (by simp)
  simp only [NM,rI,Nat.zero_mul,Ay,iU,rQ]
  rw [←this,List.drop_left]
 |c::css,i+1,cs,h,hc,hi=>by
  have h1:=h c (by simp)
  have h2:=BJ (k:=k) (css:=css) (i:=i) (cs:=cs) (fun c hc=>h c (by simp [hc])) hc (by simpa using hi)
  simp only [List.set_cons_succ,rI]
  rw [h2,fz,NV]
  have e1:List.take (k+i*k) (c++css.flatten)=c++css.flatten.take (i*k):=by rw [←h1,aiX]
  have e2:List.drop (k+(i*k+k)) (c++css.flatten)=css.flatten.drop (i*k+k):=by rw [←h1,aiY]
  rw [show i*k+k=k+i*k from by omega]at e2⊢
  rw [e1,show k+i*k+k=k+(k+i*k)from by omega,e2]
  simp
theorem azX(X vs:List α)(ik o j k N:Nat)(h1:vs.length=j)(h2:o+j≤k)(h3:ik+k≤N)(h4:N≤X.length):
   List.take N (X.take (ik+o)++vs++X.drop (ik+o+vs.length))=(X.take N).take ik++(((X.drop ik).take k).take o++vs++((X.drop ik).take k).drop (o+vs.length))++(X.take N).drop (ik+k):=by
  subst h1
  apply N3
  intro p
  rcases rO p ik with h|h
  ·simp (disch:=(first|omega|(simp only [bP,bV,cv];omega))) only [rH,HE]
  · rcases rO p (ik+o)with h5|h5
    · simp (disch:=(first|omega|(simp only [bP,bV,cv];omega))) only [rH,rV,HE,oA]
      congr 1;simp only [bP,bV,cv];omega
    · rcases rO p (ik+o+vs.length)with h6|h6
      · simp (disch:=(first|omega|(simp only [bP,bV,cv];omega))) only [rH,rV,HE,oA]
        congr 1;simp only [bP,bV,cv];omega
      · rcases rO p (ik+k)with h7|h7
        · simp (disch:=(first|omega|(simp only [bP,bV,cv];omega))) only [rH,rV,HE,oA]
          congr 1;simp only [bP,bV,cv];omega
        · rcases rO p N with h8|h8
          · simp (disch:=(first|omega|(simp only [bP,bV,cv];omega))) only [rH,rV,HE,oA]
            congr 1;simp only [bP,bV,cv];omega
          ·rw [rE (by simp only [bP,bV,cv];omega),rE (by simp only [bP,bV,cv];omega)]
theorem W.jD{e:fB α}{z:Value}{l:List α}{a':α}{bb:Bool}(ht:gO E.P t=some (bb,j))(hx:ev f x=.pointer (some (mN v e.k i o)))(hy:ev f y=z)(hv:z.cells.toList=vs)(hl:vs.length=j)(h1:vs.all Value.oneCell'=true)
  (ho:aE e T G v l Ms)(hM:(Ms++B).Perm M)(hi:i<l.length)(hoj:o+j≤e.k)(hR:∀cs,e.R G cs l[i]→e.R G (setAt cs o vs) a')
  (k:∀kQ,aE e T G v (l.set i a') kQ→W E ops.toArray false rest f G (kQ++B) K):
  W E ops.toArray false (⟨none,.store t x y,ty,pos,aft,none⟩::rest) f G M K:=by
 intro a w Q Hi hr0 hK
 have hr:=hr0.perm hM
 obtain⟨css,h2,⟨h3,h4⟩,h5⟩:=ho
 obtain⟨h6,h7⟩:=h2.spec
 obtain⟨cs,h8,h9⟩:=h7 i hi
 have qc:cs.length=e.k:=h2.lens cs (NX h8)
 rcases h4 with⟨rfl,hn,_⟩|⟨b,cap,cur,rfl,ir,ov,jC,xa,rfl⟩
 ·omega
 ·have hik:i*e.k+e.k≤l.length*e.k:=by
   have:(i+1)*e.k≤l.length*e.k:=ic _ hi
   rw [fz]at this;omega
  have hck:l.length*e.k≤cap*e.k:=ic _ ir
  have kr:cur.toList.length=cap*e.k:=by simpa using jC
  have ow:w.heap[b]?=some (.cells cur.toList.toArray T (0,0)):=by simpa using hr.r.mu (b,.cells cur T (0,0)) (by simp)
  have gU:(execOp (ev f) ⟨none,.store t x y,ty,pos,aft,none⟩).run E.P w=.ok .skip (w.setRow b (setAt cur.toList (i*e.k+o) vs).toArray):=by
   have q3:=run_storeCells_at E.P b (i*e.k+o) T vs 0 cur w (by simpa using ow) aa (BF h1)
   simp only [rK]at q3
   rw [←lU cur.toList (i*e.k+o) vs aa]at q3
   have q4:z.cells.size=j:=by rw [←hl,←hv];simp
   simp [execOp,hx,hy,Instr.storeAt,Instr.sureAddr,storeVar,fZ ht,q4,hv,q3,mN]
  have Mg:setAt cs o vs=cs.take o++vs++cs.drop (o+vs.length):=lU cs o vs aa
  have axW:(setAt cs o vs).length=e.k:=by rw [zi cs o vs aa,qc]
  refine wpList_plain rfl fun K' iG=> ?_
  unfold Oper.wp
  rw [Hi.eval,gU]
  refine iG _ _ (k [(b,.cells (setAt cur.toList (i*e.k+o) vs).toArray T (0,0))] ⟨css.set i (setAt cs o vs),fG.set (hR cs h9) h2 hi,⟨?_,.inr ⟨b,cap,_,by simp,by simpa using ir,ov,?_,?_,rfl⟩⟩,by simpa using h5⟩ _ _ Q (Hi.zJ undef) (nI hr) hK)
  ·rw [BJ h2.lens axW aa]
   simp only [bP,bV,cv,axW,h3,cg]
   omega
  ·simp only [uA]
   rw [zi _ _ _ aa,kr]
  ·rw [BJ h2.lens axW aa,Mg]
   have j8:css.flatten=cur.toList.take (l.length*e.k):=xa.symm
   have FW:cs=(cur.toList.drop (i*e.k)).take e.k:=by
    apply N3
    intro p
    rw [mF,oA]
    by_cases hp:p<e.k
    ·have:=tv (k:=e.k) h2.lens h8 p aa
     rw [if_pos hp,←this,j8,mF,if_pos aa]
    ·rw [if_neg hp,rE aa]
   simp only [qB,cg]
   rw [lU _ _ _ aa,j8,FW]
   exact azX cur.toList vs (i*e.k) o j e.k (l.length*e.k) hl hoj hik aa
end
section
variable {E:Env} {f:Fr} {G:GH} {M Mk:MH} {ops:Array Oper} {K:Kt} {dS:Nat} {bS:Array Bool}
variable {a:Act} {b:Bool} {j:Nat} {o:Oper} {want:Bool}
theorem Hj{dj:Nat}(hg:o.guard=some (j,want))(hj:(ops[j]?).bind (·.dst)=some dj)(hb:f dj=.bool b)(J8:Nat.blt dj E.n=true)(hi:Is E.n a f):Region.wanted o (yielded ops a.tmps)=(b==want):=by
 have hl:dj<a.tmps.size:=by rw [hi.size];have h1:=J8;simp [Nat.blt]at h1;omega
 have:=hi.get dj
 rw [Az,hb,N0 hl]at this
 simp at this
 simp only [Region.wanted,hg,yielded,hj,NZ,N0 hl,this]
 cases b<;>cases want<;>rfl
variable {d:Nat}
theorem WD.aCD(i dj:Nat){v:Value}(ho:ops[i]?=some o)(WH:o.dst=some d)(hg:o.guard=some (j,want))(hj:(ops[j]?).bind (·.dst)=some dj)(hb:f dj=.bool b)(hw:b=want)(hs:Region.noSelect ops=true)(hf:Region.free .any ops bS i=true)
  (hr:(Region.ready .any ops bS).contains i=true)(dI:Ok E f G Mk ⟨some d,o.op,o.type,o.pos,o.after,none⟩ v)(h:WD E ops dS (bS.setIfInBounds i true) (jP f d v) G M Mk K)(hd:Nat.blt d E.n=true:=by rfl)(J8:Nat.blt dj E.n=true:=by rfl):WD E ops (dS+1) bS f G M Mk K:=by
 intro pw a w Q hi zj hp hK
 have hS:E.real G Mk w:=⟨zj.r.sub pw,zj.le,zj.nw⟩
 refine wpAnyH_take ho hs hf hr (fun c a w h=>absurd h (hp _ _ _)) (v:=v) ?_ hS ?_
 ·refine .inl ⟨by rw [Hj hg hj hb J8 hi,hw];cases want<;>rfl,fun w' zj=> ?_⟩
  rw [hi.eval]
  have:=dI w' zj
  obtain⟨o1,o2,o3,o4,o5,o6⟩:=o
  cases WH
  exact this
 ·rw [WH]
  exact h pw _ w Q (hi.put hd v) zj hp hK
theorem WD.takeN(i dj:Nat)(ho:ops[i]?=some o)(WH:o.dst=some d)(hg:o.guard=some (j,want))(hj:(ops[j]?).bind (·.dst)=some dj)(hb:f dj=.bool b)(hw:b= !want)(hs:Region.noSelect ops=true)(hf:Region.free .any ops bS i=true)
  (hr:(Region.ready .any ops bS).contains i=true)(h:WD E ops dS (bS.setIfInBounds i true) (jP f d undef) G M Mk K)(hd:Nat.blt d E.n=true:=by rfl)(J8:Nat.blt dj E.n=true:=by rfl):WD E ops (dS+1) bS f G M Mk K:=by
 intro pw a w Q hi zj hp hK
 have hS:E.real G Mk w:=⟨zj.r.sub pw,zj.le,zj.nw⟩
 refine wpAnyH_take ho hs hf hr (fun c a w h=>absurd h (hp _ _ _)) (v:=undef) ?_ hS ?_
 ·exact .inr ⟨by rw [Hj hg hj hb J8 hi,hw];cases want<;>rfl,rfl⟩
 ·rw [WH]
  exact h pw _ w Q (hi.put hd undef) zj hp hK
theorem WD.sp(dj:Nat)(hb:f dj=.bool b)(ht:b=true→WD E ops dS bS f G M Mk K)(hf:b=false→WD E ops dS bS f G M Mk K):WD E ops dS bS f G M Mk K:=by
 cases b
 ·exact hf rfl
 ·exact ht rfl
theorem afg{P:Program}{o1:Option Nat}{o2:Op}{o3:TypeId}{o4:String}{o5:Array Edge}{g g':Option (Nat×Bool)}{nx:Act→World→Prop}{Q:Exit→Act→World→Prop}{r:Result Next}(h:(⟨o1,o2,o3,o4,o5,g⟩:Oper).upon P a nx Q r):(⟨o1,o2,o3,o4,o5,g'⟩:Oper).upon P a nx Q r:=by
 cases r with
 |ok n w'=>cases n<;>exact h
 |halt x w'=>cases x<;>exact h
def GY (n:Nat) (f:Fr) (ops:Array Oper) (o:Oper):Prop:=o.guard=none∨∃j dj want b,o.guard=some (j,want)∧(ops[j]?).bind (·.dst)=some dj∧f dj=.bool b∧b=want∧Nat.blt dj n=true
theorem WD.aA5(rs:List Nat)(hr:Region.ready .any ops bS=rs)(ig:rs.isEmpty=false)
  (h:Ty (fun i=>∃o,ops[i]?=some o∧GY E.n f ops o∧W E [(⟨o.dst,o.op,o.type,o.pos,o.after,none⟩:Oper)].toArray false [(⟨o.dst,o.op,o.type,o.pos,o.after,none⟩:Oper)] f G M (fun f' G' M'=>Le G G'∧Mk.Sublist M'∧∃xg,xg.Sublist M'∧Mk.Sublist xg∧WD E ops dS (bS.setIfInBounds i true) f' G' M' xg K)) rs):WD E ops (dS+1) bS f G M Mk K:=by
 intro pw a w Q hi hw hp hK
 refine wpAnyH_all hr (by intro e;subst e;cases ig) ?_
 intro j hj
 obtain⟨o,ho,hg,h⟩:=h.mem j hj
 have aFH:Region.wanted o (yielded ops a.tmps)=true:=by
  rcases hg with hg|⟨j',dj,want,b,g1,g2,g3,g4,g5⟩
  ·simp [Region.wanted,hg]
  ·rw [Hj g1 g2 g3 g5 hi,g4];cases want<;>rfl
 have h1:=h a w (fun e a' w'=>e=.normal∧E.real G Mk w'∧wpAnyH E.P .any ops Q (E.real G Mk) dS (bS.setIfInBounds j true) a' w') hi hw (by
  rintro f' G' M' a' w' h2 h3 ⟨h4,h5,xg,h6,h7,h8⟩
  have h9:E.real G' Mk w':=⟨h3.r.sub h5,h3.le,h3.nw⟩
  refine⟨rfl,h9.MW h4 hw.le,?_⟩
  refine BG (S:=E.real G' xg) (fun w zj=> ?_) _ _ _ _ (h8 h6 a' w' Q h2 h3 hp hK)
  have ir:E.real G' Mk w:=⟨zj.r.sub h7,zj.le,zj.nw⟩
  exact ir.MW h4 hw.le)
 unfold wpList at h1
 rw [if_pos (by simp [Region.wanted])]at h1
 unfold wpOp
 simp only [ho]
 rw [if_pos aFH]
 rcases h1 with h1|⟨_,a1,w1,h1,_⟩
 ·left
  unfold Oper.wp at h1⊢
  obtain⟨o1,o2,o3,o4,o5,o6⟩:=o
  exact Nl (afg h1) (fun a' w' h2=>h2.2) (fun e a' w' he h2=>absurd h2.1 he)
 ·cases h1
end
def nY:Value→Nat
 | .slice _ _ c=>c
 |_=>0
def iu {α:Type} (e:fB α) (T:TypeId) (G:GH) (v:Value) (n:Nat) (P:List α) (pV:Nat) (S:List α) (Ms:MH):Prop:=
 ∃b cap cur cp cs,v=.slice (some ⟨b,0,none⟩) n cap∧Ms=[(b,Obj.cells cur T (0,0))]∧fG e G cp P∧fG e G cs S∧P.length+pV+S.length=n∧n≤cap∧cap≤maxLen∧cur.size=cap*e.k∧
  cur.toList.take (P.length*e.k)=cp.flatten∧(cur.toList.drop ((P.length+pV)*e.k)).take (S.length*e.k)=cs.flatten∧n*e.w≤140737488355328
def Src {α:Type} (e:fB α) (E:Env) (G:GH) (M:MH) (u:Value) (Q:List α):Prop:=
 ∃a c css,u=.slice a Q.length c∧fG e G css Q∧(a=none→Q=[])∧∀w,E.real G M w→∀ad,a=some ad→∀j v,css.flatten[j]?=some v→w.cell? (ad.add j)=some v
section
variable {E:Env} {f:Fr} {G G':GH} {M:MH} {ops rest:List Oper} {q:Bool} {K:Kt} {Q:Exit→Kt} {d:Nat} {ty:TypeId} {pos:String} {aft:Array Edge} {t t':TypeId} {x y:Operand}
variable {α:Type} {e:fB α} {T:TypeId} {v:Value} {l P S:List α} {Ms B:MH} {n pV:Nat}
theorem fG.Ee:∀ {css:List (List Value)} {l:List α} (n:Nat),fG e G css l→fG e G (css.take n) (l.take n)
 |[],[],n,_=>by simp [fG]
 |_::_,_::_,0,_=>by simp [fG]
 |_::_,_::_,n+1,h=>⟨h.1,fG.Ee n h.2⟩
theorem fG.Ef:∀ {css:List (List Value)} {l:List α} (n:Nat),fG e G css l→fG e G (css.drop n) (l.drop n)
 |[],[],n,_=>by simp [fG]
 |_::_,_::_,0,h=>h
 |_::_,_::_,n+1,h=>fG.Ef n h.2
theorem qW{k:Nat} :∀ {css:List (List Value)} (n:Nat),(∀c∈css,c.length=k)→(css.take n).flatten=css.flatten.take (n*k)
 |[],n,_=>by simp
 |c::css,0,h=>by simp
 |c::css,n+1,h=>by
  have h1:=h c (by simp)
  rw [wx,rI,rI,qW n (fun c hc=>h c (by simp [hc])),fz,NV,←h1,Nat.add_comm,aiX]
theorem BK{k:Nat} :∀ {css:List (List Value)} (n:Nat),(∀c∈css,c.length=k)→(css.drop n).flatten=css.flatten.drop (n*k)
 |[],n,_=>by simp
 |c::css,0,h=>by simp
 |c::css,n+1,h=>by
  have h1:=h c (by simp)
  rw [List.drop_succ_cons,rI,BK n (fun c hc=>h c (by simp [hc])),fz,NV,←h1,Nat.add_comm,aiY]
theorem aE.open(ho:aE e T G v l Ms)(h:0<l.length):iu e T G v l.length l 0 [] Ms:=by
 obtain⟨css,h1,⟨h2,h3⟩,h4⟩:=ho
 rcases h3 with⟨_,hn,_⟩|⟨b,cap,cur,rfl,h5,h6,h7,h8,rfl⟩
 ·omega
 ·exact⟨b,cap,cur,css,[],rfl,rfl,h1,trivial,by simp,h5,h6,h7,h8,by simp,h4⟩
theorem iu.own(h:iu e T G v n P 0 S Ms):aE e T G v (P++S) Ms:=by
 obtain⟨b,cap,cur,cp,cs,rfl,rfl,h3,h4,h5,h6,h7,h8,h9,ir,ov⟩:=h
 have hn:(P++S).length=n:=by simp;omega
 have hp:=h3.dY
 have hs:=h4.dY
 refine⟨cp++cs,h3.append h4,⟨?_,.inr ⟨b,cap,cur,by rw [hn],by rw [hn];exact h6,h7,h8,?_,rfl⟩⟩,by rw [hn];exact ov⟩
 ·simp only [vB,bP,hp,hs,fz]
 ·rw [vB,←h9,←ir,bP,fz,List.take_add]
  simp
theorem iu.fS(h:iu e T G v n P pV S Ms):n≤nY v:=by
 obtain⟨b,cap,cur,cp,cs,rfl,rfl,h3,h4,h5,h6,h7⟩:=h;exact h6
variable {m:Nat}
theorem iu.extend(h:iu e T G v n P 0 [] Ms)(hm:n+m≤nY v)(hw:(n+m)*e.w≤140737488355328)(h0:0<n):iu e T G (fm v e.k 0 (n+m)) (n+m) P m [] Ms:=by
 obtain⟨b,cap,cur,cp,cs,rfl,rfl,h3,h4,h5,h6,h7,h8,h9,ir,ov⟩:=h
 simp only [nY]at hm
 refine⟨b,cap,cur,cp,[],?_,rfl,h3,trivial,by simp at h5⊢;omega,hm,h7,h8,h9,by simp,hw⟩
 simp only [fm]
 rw [if_neg aa]
 simp [Addr.add_lit]
theorem TA(z:Array Value)(n:Nat):(madeCells z (n*z.size)).toList=(List.replicate n z.toList).flatten:=by
 apply N3
 intro j
 simp only [madeCells,Array.toList_map,Array.toList_range,N5]
 by_cases hj:j<n*z.size
 ·have hz:0<z.size:=by
   rcases Nat.eq_zero_or_pos z.size with h|h
   ·simp [h]at hj
   ·exact h
  have hd:j / z.size<n:=(Nat.div_lt_iff_lt_mul hz).2 hj
  have hm:j % z.size<z.size:=Nat.mod_lt _ hz
  have h1:=tv (k:=z.size) (css:=List.replicate n z.toList) (i:=j / z.size) (cs:=z.toList) (fun c hc=>by rw [List.eq_of_mem_replicate hc];simp) (by simp [hd]) (j % z.size) (by simpa using hm)
  rw [show j / z.size*z.size+j % z.size=j from by rw [Nat.mul_comm];exact Nat.div_add_mod j z.size]at h1
  rw [h1]
  simp [hj,hm,getElem!_pos]
 ·have h2:(List.replicate n z.toList).flatten.length=n*z.size:=by simp
  rw [rE (by simpa using hj),rE (by rw [h2];omega)]
  rfl
theorem NE(z:Array Value)(n:Nat):(Builtin.zeroCells z n).toList=(List.replicate n z.toList).flatten:=TA z n
variable {ad:Option Addr} {bb:Bool} {cap:Nat} {k:Nat}
theorem AL{n:Nat}{lo hi:Option Operand}(a b:Nat)(ht:cW E.P t=some t')(hk:gO E.P t'=some (bb,k))(hx:ev f x=.slice ad n cap)(eG:vv f 0 a lo)(ji:vv f n b hi)(rY:a≤b∧b≤cap):
  Ok E f G M ⟨some d,.slice t x lo hi none,ty,pos,aft,none⟩ (fm (.slice ad n cap) k a b):=fun w _=>by
 obtain⟨h1,h2⟩:=rY
 have hb:(Instr.sliceBounds true n cap (lo.map (ev f)) (hi.map (ev f)) none).run E.P w=.ok (a,b,cap) w:=by
  cases lo with
  |none=>
   simp only [vv]at eG
   subst eG
   cases hi with
   |none=>simp only [vv]at ji;subst ji;simp [Instr.sliceBounds]
   |some y=>
    have:=nG (P:=E.P) (f:=f) (x:=y) (n:=b) (y:=cap) (code:=.sliceAcap) ji aa w
    simp [Instr.sliceBounds,this]
  |some z=>
   have hz:=nG (P:=E.P) (f:=f) (x:=z) (n:=a) (y:=b) (code:=.sliceB) eG h1 w
   cases hi with
   |none=>simp only [vv]at ji;subst ji;simp [Instr.sliceBounds,hz]
   |some y=>
    have:=nG (P:=E.P) (f:=f) (x:=y) (n:=b) (y:=cap) (code:=.sliceAcap) ji aa w
    simp [Instr.sliceBounds,this,hz]
 simp only [execOp,Instr.sliceAt,Instr.slice,Sem.run_bind,run_underlying (cR ht),Result.andThen_ok,HD,hx]
 simp [run_underlying (cR ht),hb,fZ hk,fm]
theorem fL{lo hi:Option Operand}(a b:Nat)(ht:cW E.P t=some t')(hk:gO E.P t'=some (bb,e.k))(ho:iu e T G v n P pV S Ms)(hx:ev f x=v)(eG:vv f 0 a lo)(ji:vv f n b hi)(rY:a≤b∧b≤nY v):
  Ok E f G M ⟨some d,.slice t x lo hi none,ty,pos,aft,none⟩ (fm v e.k a b):=by
 obtain⟨bl,cap,cur,cp,cs,rfl,rfl,_⟩:=ho
 exact AL a b ht hk hx eG ji rY
theorem ew{lo hi:Option Operand}(a b:Nat)(ht:cW E.P t=some t')(hk:gO E.P t'=some (bb,e.k))(ho:aE e T G v l Ms)(hx:ev f x=v)(eG:vv f 0 a lo)(ji:vv f l.length b hi)(rY:a≤b∧(b≤l.length∨b≤nY v)):
  Ok E f G M ⟨some d,.slice t x lo hi none,ty,pos,aft,none⟩ (fm v e.k a b):=by
 obtain⟨css,h1,⟨h2,h3⟩,h4⟩:=ho
 rcases h3 with⟨rfl,hn,_⟩|⟨bl,cap,cur,rfl,h5,h6,h7,h8,rfl⟩
 ·rw [hn]at ji
  refine AL a b ht hk hx eG ji ⟨rY.1,?_⟩
  rcases rY.2 with h|h
  ·omega
  ·exact h
 ·refine AL a b ht hk hx eG ji ⟨rY.1,?_⟩
  rcases rY.2 with h|h
  ·omega
  ·exact h
theorem FY{n:Nat}{lo hi mx:Operand}(a b c:Nat)(ht:cW E.P t=some t')(hk:gO E.P t'=some (bb,k))(hx:ev f x=.slice ad n cap)(eG:vv f 0 a (some lo))(ji:vv f n b (some hi))(hmx:vv f cap c (some mx))(rY:a≤b∧b≤c∧c≤cap):
  ∃u,Ok E f G M ⟨some d,.slice t x (some lo) (some hi) (some mx),ty,pos,aft,none⟩ u:=by
 refine⟨.slice (if c=a then ad else ad.map (·.add (a*k))) (b-a) (c-a),fun w _=> ?_⟩
 obtain⟨h1,h2,h3⟩:=rY
 have e1:=nG (P:=E.P) (f:=f) (x:=lo) (n:=a) (y:=b) (code:=.slice3C) eG h1 w
 have e2:=nG (P:=E.P) (f:=f) (x:=hi) (n:=b) (y:=c) (code:=.slice3B) ji h2 w
 have e3:=nG (P:=E.P) (f:=f) (x:=mx) (n:=c) (y:=cap) (code:=.slice3Acap) hmx h3 w
 have hb:(Instr.sliceBounds true n cap (some (ev f lo)) (some (ev f hi)) (some (ev f mx))).run E.P w=.ok (a,b,c) w:=by
  simp [Instr.sliceBounds,e1,e2,e3]
 simp only [execOp,Instr.sliceAt,Instr.slice,Sem.run_bind,run_underlying (cR ht),Result.andThen_ok,yr,hx]
 simp [run_underlying (cR ht),hb,fZ hk]
theorem Ph{c:Nat}(ht:cW E.P t=some t')(hx:ev f x=.slice ad m c):Ok E f G M ⟨some d,.call { callee:=.builtin .cap,args:= #[x],argTypes:= #[t] },ty,pos,aft,none⟩ (.int .i64 c):=fun _ _=>by
 simp [execOp,resolve,invoke,builtin,hx,Builtin.cap_,run_underlying (cR ht),goInt]
theorem aE.zx(ho:aE e T G v l Ms):∃a,v=.slice a l.length (nY v):=by
 obtain⟨a,c,rfl⟩:=ho.form;exact⟨a,rfl⟩
variable {b:Nat}
theorem E7{o:Obj}(hM:([(b,o)]++B).Perm M){w:World}(hw:E.real G M w):w.heap[b]?=some o:=hw.r.mu (b,o) (hM.mem_iff.1 (by simp))
theorem Src.Pj(ho:aE e T G v l Ms)(hM:(Ms++B).Perm M){lo:Nat}(eG:lo≤l.length)(h0:0<l.length):Src e E G M (fm v e.k lo l.length) (l.drop lo):=by
 obtain⟨css,h1,⟨h2,h3⟩,h4⟩:=ho
 rcases h3 with⟨_,hn,_⟩|⟨b,cap,cur,rfl,h5,h6,h7,h8,rfl⟩
 ·omega
 ·refine⟨if cap=lo then some ⟨b,0,none⟩else some ⟨b,lo*e.k,none⟩,cap-lo,css.drop lo,?_,h1.Ef lo,?_,?_⟩
  ·simp only [fm,cv,yr,Addr.add_lit,rQ]
  ·intro h;split at h<;>cases h
  ·intro w hw ad had j u hj
   rw [BK lo h1.lens,oA]at hj
   have hb:=E7 hM hw
   have ko:=(vz.1 hj).1
   rw [h2]at ko
   have ig:¬cap=lo:=by
    intro e1;subst e1
    have:l.length=cap:=aa
    rw [this]at ko;omega
   rw [if_neg ig]at had
   cases had
   rw [Addr.add_lit]
   simp only [World.cell?,hb]
   rw [←h8,mF,if_pos ko]at hj
   simpa using hj
variable {cs:List Value} {o:Nat}
theorem TC{w:World}{dl dc:Nat}{a:Option Addr}{sl sc:Nat}{cur:Array Value}(ht:cW E.P t=some t')(hk:gO E.P t'=some (bb,e.k))(hg:w.heap[b]?=some (.cells cur T (0,0)))(hn:cs.length=Nat.min sl dl*e.k)
  (axX:∀ad,a=some ad→∀j v,cs[j]?=some v→w.cell? (ad.add j)=some v)(ha:a=none→cs=[])(Vf:o+cs.length≤cur.size)(h1:∀v∈cs,v.oneCell'=true):
  ∃z,(Builtin.copy_ #[t,t] ty #[.slice (some ⟨b,o,none⟩) dl dc,.slice a sl sc]).run E.P w=.ok z (w.setRow b (cur.toList.take o++cs++cur.toList.drop (o+cs.length)).toArray):=by
 have kq:=run_storeCells_at E.P b o T cs 0 cur w hg (by simpa using Vf) h1
 simp only [rK]at kq
 refine⟨goInt (Nat.min sl dl),?_⟩
 cases a with
 |none=>
  have FW:=ha rfl
  subst FW
  have h0:Nat.min sl dl*e.k=0:=by simpa using hn.symm
  simp only [Em,rK]at kq
  simp [Builtin.copy_,run_underlying (cR ht),fZ hk,Builtin.lenOf,Builtin.firstCells,kq]
 |some ad=>
  have hl:=run_loadCells_list (P:=E.P) w ad cs (axX ad rfl)
  simp [Builtin.copy_,run_underlying (cR ht),fZ hk,Builtin.lenOf,Builtin.firstCells,←hn,hl,kq]
theorem W.afh{w':World→World}{vx vy:Value}(hx:ev f x=vx)(hy:ev f y=vy){M':MH}(gU:∀w,E.real G M w→∃z,(Builtin.copy_ #[t,t] ty #[vx,vy]).run E.P w=.ok z (w' w)∧E.real G M' (w' w))
  (k:∀z,W E ops.toArray false rest (jP f d z) G M' K)(hd:Nat.blt d E.n=true:=by rfl):W E ops.toArray false (⟨some d,.call { callee:=.builtin .copy,args:= #[x,y],argTypes:= #[t,t] },ty,pos,aft,none⟩::rest) f G M K:=by
 intro a w Q hi hr hK
 obtain⟨z,h1,h2⟩:=gU w hr
 have gU:(execOp (ev f) ⟨some d,.call { callee:=.builtin .copy,args:= #[x,y],argTypes:= #[t,t] },ty,pos,aft,none⟩).run E.P w=.ok (.value z) (w' w):=by
  simp [execOp,resolve,invoke,builtin,hx,hy,h1]
 refine wpList_plain rfl fun K' iG=> ?_
 unfold Oper.wp
 rw [hi.eval,gU]
 exact iG _ _ (k z _ _ Q (hi.put hd z) h2 hK)
theorem jE{n lo hi:Nat}(h:lo<cap∨lo=0):fm (.slice (some ⟨b,0,none⟩) n cap) k lo hi=.slice (some ⟨b,lo*k,none⟩) (hi-lo) (cap-lo):=by
 simp only [fm,yr,Addr.add_lit,rQ]
 split
 ·rcases h with h|h
  ·omega
  ·subst h;simp
 ·rfl
variable {u:Value}
theorem W.AM{Q:List α}(p:Nat)(Gg:P.length=p)(ht:cW E.P t=some t')(hk:gO E.P t'=some (bb,e.k))(hp:iu e T G v n P pV S Ms)(hM:(Ms++B).Perm M)(hs:Src e E G M u Q)(hx:ev f x=fm v e.k p n)(hy:ev f y=u)(hq:Q.length≤pV)(h0:0<pV)
  (k:∀z kQ,iu e T G v n (P++Q) (pV-Q.length) S kQ→W E ops.toArray false rest (jP f d z) G (kQ++B) K)(hd:Nat.blt d E.n=true:=by rfl):
  W E ops.toArray false (⟨some d,.call { callee:=.builtin .copy,args:= #[x,y],argTypes:= #[t,t] },ty,pos,aft,none⟩::rest) f G M K:=by
 subst Gg
 obtain⟨b,cap,cur,cp,cs,rfl,rfl,h3,h4,h5,h6,h7,h8,h9,ir,ov⟩:=hp
 obtain⟨a,c,css,rfl,g1,g2,g3⟩:=hs
 have qc:=g1.dY
 have hPl:=h3.dY
 have qz:cur.toList.length=cap*e.k:=by simpa using h8
 have hle:(P.length+pV+S.length)*e.k≤cap*e.k:=ic _ aa
 have hqk:Q.length*e.k≤pV*e.k:=ic _ hq
 simp only [fz]at hle
 rw [jE aa]at hx
 refine W.afh (w':=fun w=>w.setRow b (cur.toList.take (P.length*e.k)++css.flatten++cur.toList.drop (P.length*e.k+css.flatten.length)).toArray) (M':=[(b,.cells (cur.toList.take (P.length*e.k)++css.flatten++cur.toList.drop (P.length*e.k+css.flatten.length)).toArray T (0,0))]++B) hx hy (fun w hw=> ?_) (fun z=>k z _ ?_) hd
 ·obtain⟨z,hz⟩:=TC (ty:=ty) (dl:=n-P.length) (dc:=cap-P.length) (sl:=Q.length) (sc:=c) (a:=a) (e:=e) (o:=P.length*e.k) ht hk (E7 hM hw) (by have hmn:Nat.min Q.length (n-P.length)=Q.length:=wu aa;rw [qc,hmn]) (fun ad had j v hj=>g3 w hw ad had j v hj) (fun ha=>by have:=g2 ha;subst this;exact kj (by simpa using qc)) aa g1.one
  exact⟨z,hz,nI (hw.perm hM)⟩
 ·refine⟨b,cap,_,cp++css,cs,rfl,rfl,h3.append g1,h4,by simp;omega,h6,h7,?_,?_,?_,ov⟩
  ·simp only [uA,bP,bV,cv,qz,qc];omega
  ·rw [qB,bP,fz,vB,←h9]
   have e1:(cur.toList.take (P.length*e.k)++css.flatten).length=P.length*e.k+Q.length*e.k:=by simp only [bP,bV,qz,qc];omega
   rw [←e1,HC]
  ·rw [qB,←ir,bP]
   rw [show P.length+Q.length+(pV-Q.length)=P.length+pV from by omega]
   congr 1
   have e1:(cur.toList.take (P.length*e.k)++css.flatten).length=P.length*e.k+Q.length*e.k:=by simp only [bP,bV,qz,qc];omega
   rw [NR,yj (by rw [e1,fz];omega),iU,Aw,e1,qc]
   congr 1
   rw [fz];omega
variable {i:Nat}
theorem W.FX(ht:cW E.P t=some t')(hk:gO E.P t'=some (bb,e.k))(hp:iu e T G v n P pV [] Ms)(hM:(Ms++B).Perm M)(hx:ev f x=fm v e.k (i+pV) n)(hy:ev f y=fm v e.k i n)(hi:i<P.length)
  (k:∀z kQ,iu e T G v n (P.take i) pV (P.drop i) kQ→W E ops.toArray false rest (jP f d z) G (kQ++B) K)(hd:Nat.blt d E.n=true:=by rfl):
  W E ops.toArray false (⟨some d,.call { callee:=.builtin .copy,args:= #[x,y],argTypes:= #[t,t] },ty,pos,aft,none⟩::rest) f G M K:=by
 obtain⟨b,cap,cur,cp,cs,rfl,rfl,h3,h4,h5,h6,h7,h8,h9,ir,ov⟩:=hp
 simp only [Em,rK]at h5
 have hPl:=h3.dY
 have qz:cur.toList.length=cap*e.k:=by simpa using h8
 have hle:(P.length+pV)*e.k≤cap*e.k:=ic _ aa
 have hik:i*e.k≤P.length*e.k:=ic _ aa
 have LN:(cp.drop i).flatten.length=(P.length-i)*e.k:=by rw [(h3.Ef i).dY,cv]
 have pw:(P.length-i)*e.k=P.length*e.k-i*e.k:=Nat.sub_mul _ _ _
 simp only [fz]at hle
 rw [jE aa]at hx hy
 refine W.afh (w':=fun w=>w.setRow b (cur.toList.take ((i+pV)*e.k)++(cp.drop i).flatten++cur.toList.drop ((i+pV)*e.k+(cp.drop i).flatten.length)).toArray) (M':=[(b,.cells (cur.toList.take ((i+pV)*e.k)++(cp.drop i).flatten++cur.toList.drop ((i+pV)*e.k+(cp.drop i).flatten.length)).toArray T (0,0))]++B) hx hy (fun w hw=> ?_) (fun z=>k z _ ?_) hd
 ·have hb:=E7 hM hw
  obtain⟨z,hz⟩:=TC (ty:=ty) (dl:=n-(i+pV)) (dc:=cap-(i+pV)) (sl:=n-i) (sc:=cap-i) (a:=some ⟨b,i*e.k,none⟩) (e:=e) (o:=(i+pV)*e.k) ht hk hb (by have hmn:Nat.min (n-i) (n-(i+pV))=n-(i+pV):=NO aa;rw [LN,hmn];congr 1;omega) (fun ad had j v hj=>by
   cases had
   rw [Addr.add_lit]
   simp only [World.cell?,hb]
   rw [BK i h3.lens,oA,←h9,mF]at hj
   split at hj
   ·simpa using hj
   ·cases hj) (fun ha=>by cases ha) (by rw [LN,fz,h8];omega) (h3.Ef i).one
  exact⟨z,hz,nI (hw.perm hM)⟩
 ·have e1:(cur.toList.take ((i+pV)*e.k)).length=(i+pV)*e.k:=by simp only [bV,qz,fz];omega
  refine⟨b,cap,_,cp.take i,cp.drop i,rfl,rfl,h3.Ee i,h3.Ef i,by simp;omega,h6,h7,?_,?_,?_,ov⟩
  ·have e5:=fz i pV e.k
   simp only [uA,bP,cv,e1,qz,LN];omega
  ·have e2:Min.min (i*e.k) ((i+pV)*e.k)=i*e.k:=wu (by rw [fz];omega)
   have e3:Min.min (i*e.k) (P.length*e.k)=i*e.k:=wu aa
   rw [qB,qW i h3.lens,←h9,bV,wu aa,ci,Ej (by rw [e1,fz];omega),AB,AB,e2,e3]
  ·rw [qB,bV,wu aa,cv,ci]
   rw [NR,yj (by rw [e1];omega),iU,e1,Ei,yk,Ej (by rw [LN];omega),fI (by rw [LN];omega)]
theorem W.aqq{z:List Value}{tn:TypeId}{c:Nat}(ht:cW E.P t=some t')(hk:gO E.P t'=some (bb,e.k))(hz:eg E.P t'=some z)(sI:Nat.beq z.length e.k=true)(hb:jb E.P t'=some e.w)(hn:E.P.underlying tn=some (.int .i64))
  (ho:aE e t' G v l Ms)(hM:(Ms++B).Perm M)(hx:ev f x=fm v e.k 0 i)(hy:ev f y=.int .i64 (c:Int))(hi:i≤l.length)(h0:0<c)(Gn:0<l.length)(al6:nY v<i+c)(kr:(i+c)*e.w≤140737488355328)(hkp:Nat.blt 0 e.k=true)
  (k:∀v2 H0,iu e t' G v2 (i+c) (l.take i) c [] H0→W E ops.toArray false rest (jP f d v2) G (H0++(Ms++B)) K)(hd:Nat.blt d E.n=true:=by rfl):
  W E ops.toArray false (⟨some d,.call { callee:=.builtin .append,args:= #[x,y],argTypes:= #[t,tn] },ty,pos,aft,none⟩::rest) f G M K:=by
 intro a w Q Hi hr hK
 have hrp:=hr.perm hM
 obtain⟨css,h1,⟨h2,h3⟩,h4⟩:=ho
 have wi:=cR ht
 have BH:∃ez zv,E.P.info? t'=some ez∧ez.zero=some zv∧ez.size=e.k∧ez.bytes=e.w∧zv.cells.size=e.k:=by
  simp only [eg,qF,qK]at hz
  obtain⟨zv,⟨ez,h1,h2⟩,rfl⟩:=hz
  have h3:=fZ hk w
  simp [sizeOf,typeInfo,h1]at h3
  simp only [jb,h1,yr,tK]at hb
  exact⟨ez,zv,h1,h2,h3,hb,by simpa using tP sI⟩
 obtain⟨ez,zv,tw,jY,xY,hi4,hi5⟩:=BH
 have hk0:0<e.k:=by have:=hkp;simp [Nat.blt]at this;omega
 have hw0:=e.Ni
 have hle:i+c≤140737488355328:=gg (AA _ hw0) kr
 rcases h3 with⟨_,AO,_⟩|⟨b,cap,cur,rfl,h5,h6,h7,h8,rfl⟩
 ·omega
 ·simp only [nY]at al6
  have hvx:fm (.slice (some ⟨b,0,none⟩) l.length cap) e.k 0 i=.slice (some ⟨b,0,none⟩) i cap:=by rw [jE (.inr rfl)];simp
  rw [hvx]at hx
  have qz:cur.toList.length=cap*e.k:=by simpa using h7
  have ow:w.heap[b]?=some (.cells cur t' (0,0)):=E7 hM hr
  have j8:css.flatten=cur.toList.take (l.length*e.k):=h8.symm
  have hik:i*e.k≤l.length*e.k:=ic _ hi
  have hlk:l.length*e.k≤cap*e.k:=ic _ h5
  have holds:(css.take i).flatten=cur.toList.take (i*e.k):=by rw [qW i h1.lens,j8,AB];congr 1;omega
  have hol:(css.take i).flatten.length=i*e.k:=by rw [holds,bV,qz];omega
  have hold:(Builtin.firstCells ez.size i (.slice (some ⟨b,0,none⟩) i cap)).run E.P w.drew=.ok (css.take i).flatten.toArray w.drew:=by
   rw [xY]
   have hc:∀j u,(css.take i).flatten[j]?=some u→w.drew.cell? ((⟨b,0,none⟩:Addr).add j)=some u:=fun j u hj=>by
    rw [Addr.add_lit,rQ]
    have ko:=(vz.1 hj).1
    rw [holds,mF]at hj
    split at hj
    ·show World.cell? { w with drawn:=w.drawn+1 } _=_
     simp only [World.cell?,ow]
     simpa using hj
    ·cases hj
   have zR:=run_loadCells_list (P:=E.P) w.drew ⟨b,0,none⟩ (css.take i).flatten hc
   rw [hol]at zR
   simp [Builtin.firstCells,zR]
  have RX:=grownCap_ge w (i+c) cap t'
  have hcm:=grownCap_le_maxLen w (i+c) cap t' (by simp only [maxLen];omega)
  have tU:=Lib.run_append_grow_zeros (P:=E.P) (ty:=ty) w t tn t' ez zv .i64 .i64 wi hn tw jY (some ⟨b,0,none⟩) i cap (css.take i).flatten hold c h0 aa al6 aa (by rw [hi4];have:c*e.w≤(i+c)*e.w:=ic _ aa;omega) (by rw [hi4];have:=growslice_fits al6 kr;omega)
  have gU:(execOp (ev f) ⟨some d,.call { callee:=.builtin .append,args:= #[x,y],argTypes:= #[t,tn] },ty,pos,aft,none⟩).run E.P w=.ok (.value (.slice (some ⟨w.heap.size,0,none⟩) (i+c) (grownCap w (i+c) cap t'))) (w.drew.alloc (.cells ((css.take i).flatten.toArray++Builtin.zeroCells zv.cells c++Builtin.zeroCells zv.cells (grownCap w (i+c) cap t'-(i+c))) t' (0,0))):=by
   simp only [execOp,resolve,invoke,builtin,Sem.run_bind,Sem.run_pure,Result.andThen_ok,yq,cA,lG,hx,hy,tU]
  refine wpList_plain rfl fun K' iG=> ?_
  unfold Oper.wp
  rw [Hi.eval,gU]
  refine iG _ _ (k _ [(w.heap.size,.cells ((css.take i).flatten.toArray++Builtin.zeroCells zv.cells c++Builtin.zeroCells zv.cells (grownCap w (i+c) cap t'-(i+c))) t' (0,0))] ⟨_,_,_,css.take i,[],rfl,rfl,h1.Ee i,trivial,by simp;omega,RX,hcm,?_,?_,by simp,kr⟩ _ _ Q (Hi.put hd _) ?_ hK)
  ·simp only [W4,uA,size_zeroCells,hi5,hol]
   rw [←fz,←fz];congr 1;omega
  ·simp only [Array.toList_append,qB,bV,wu hi]
   rw [ci,Ej aa,fI aa]
  ·exact(hrp.drew).alloc _
variable {j:Nat}
theorem W.Xi{z:List Value}(ht:cW E.P t=some t')(hk:gO E.P t'=some (bb,e.k))(hz:eg E.P t'=some z)(sI:Nat.beq z.length e.k=true)
  (ho:aE e t' G v l Ms)(hM:(Ms++B).Perm M)(hx:ev f x=fm v e.k 0 i)(hy:ev f y=fm v e.k j l.length)(tS:i≤j)(hj:j≤l.length)(h0:0<l.length)
  (k:∀v' kQ,aE e t' G v' (l.take i++l.drop j) kQ→l.length≤nY v'→(∃b,v'=.slice (some ⟨b,0,none⟩) (l.take i++l.drop j).length (nY v'))→W E ops.toArray false rest (jP f d v') G (kQ++B) K)(hd:Nat.blt d E.n=true:=by rfl):
  W E ops.toArray false (⟨some d,.call { callee:=.builtin .append,args:= #[x,y],argTypes:= #[t,t] },ty,pos,aft,none⟩::rest) f G M K:=by
 intro a w Q Hi hr hK
 have hrp:=hr.perm hM
 have axX:=Src.Pj (E:=E) (B:=B) ho hM hj h0
 obtain⟨css,h1,⟨h2,h3⟩,h4⟩:=ho
 have wi:=cR ht
 have BH:∃ez zv,E.P.info? t'=some ez∧ez.zero=some zv∧ez.size=e.k∧zv.cells.size=e.k:=by
  simp only [eg,qF,qK]at hz
  obtain⟨zv,⟨ez,h1,h2⟩,rfl⟩:=hz
  have h3:=fZ hk w
  simp [sizeOf,typeInfo,h1]at h3
  exact⟨ez,zv,h1,h2,h3,by simpa using tP sI⟩
 obtain⟨ez,zv,tw,jY,xY,hi5⟩:=BH
 rcases h3 with⟨_,AO,_⟩|⟨b,cap,cur,rfl,h5,h6,h7,h8,rfl⟩
 ·omega
 ·have hvx:fm (.slice (some ⟨b,0,none⟩) l.length cap) e.k 0 i=.slice (some ⟨b,0,none⟩) i cap:=by rw [jE (.inr rfl)];simp
  rw [hvx]at hx
  have qz:cur.toList.length=cap*e.k:=by simpa using h7
  have ow:w.heap[b]?=some (.cells cur t' (0,0)):=E7 hM hr
  have hik:i*e.k≤l.length*e.k:=ic _ aa
  have aTW:i*e.k≤j*e.k:=ic _ tS
  have hlk:l.length*e.k≤cap*e.k:=ic _ h5
  have hjk:j*e.k≤l.length*e.k:=ic _ hj
  have LN:(css.drop j).flatten.length=(l.length-j)*e.k:=by rw [(h1.Ef j).dY,cv]
  have pw:(l.length-j)*e.k=l.length*e.k-j*e.k:=Nat.sub_mul _ _ _
  have j8:css.flatten=cur.toList.take (l.length*e.k):=h8.symm
  have holds:(css.take i).flatten=cur.toList.take (i*e.k):=by rw [qW i h1.lens,j8,AB];congr 1;omega
  have hlen:(l.take i++l.drop j).length=i+(l.length-j):=by simp;omega
  have hwb:(l.take i++l.drop j).length*e.w≤140737488355328:=gg (ic _ aa) h4
  have afi:∀Eg:Array Value,Eg.size=cap*e.k→Eg.toList.take ((i+(l.length-j))*e.k)=(css.take i).flatten++(css.drop j).flatten→aE e t' G (.slice (some ⟨b,0,none⟩) (i+(l.length-j)) cap) (l.take i++l.drop j) [(b,.cells Eg t' (0,0))]:=fun Eg hs ht=>
   ⟨css.take i++css.drop j,(h1.Ee i).append (h1.Ef j),⟨by rw [vB,bP,LN,(h1.Ee i).dY,bV,hlen,wu aa,fz],.inr ⟨b,cap,Eg,by rw [hlen],by rw [hlen];omega,h6,hs,by rw [hlen,ht,vB],rfl⟩⟩,hwb⟩
  by_cases hn:l.length-j=0
  ·obtain⟨ao,c,vt,Rw,_,_,_⟩:=axX
   have hy2:∃ao c,fm (.slice (some ⟨b,0,none⟩) l.length cap) e.k j l.length=.slice ao 0 c:=by rw [Rw];exact⟨ao,c,by rw [cv,hn]⟩
   obtain⟨ao,c,hy2⟩:=hy2
   rw [hy2]at hy
   have tU:(Builtin.append_ #[t,t] ty #[.slice (some ⟨b,0,none⟩) i cap,.slice ao 0 c]).run E.P w=.ok (.slice (some ⟨b,0,none⟩) i cap) w:=by
    have:i≤cap:=aa
    cases ao<;>simp [Builtin.append_,run_underlying wi,sizeOf,typeInfo,tw,Builtin.lenOf,Builtin.firstCells,loadCells,loadCellsFrom,this,storeCells]
   have gU:(execOp (ev f) ⟨some d,.call { callee:=.builtin .append,args:= #[x,y],argTypes:= #[t,t] },ty,pos,aft,none⟩).run E.P w=.ok (.value (.slice (some ⟨b,0,none⟩) i cap)) w:=by
    simp [execOp,resolve,invoke,builtin,hx,hy,tU]
   refine wpList_plain rfl fun K' iG=> ?_
   unfold Oper.wp
   rw [Hi.eval,gU]
   have ho2:=afi cur h7 (by rw [hn,rK,kj (LN.trans (by rw [hn];simp)),cx,holds])
   rw [hn,rK]at ho2
   exact iG _ _ (k _ _ ho2 h5 ⟨b,by simp only [nY];rw [hlen,hn,rK]⟩ _ w Q (Hi.put hd _) hrp hK)
  ·rw [jE aa]at hy
   have tU:=run_append_room (P:=E.P) w t ty t' ez wi tw b i cap cur ow ⟨b,j*e.k,none⟩ (l.length-j) (cap-j) (css.drop j).flatten (by rw [LN,xY]) (fun q u hq=>by
    rw [Addr.add_lit]
    rw [BK j h1.lens,oA,j8,mF]at hq
    split at hq
    ·simp only [World.cell?,ow]
     simpa using hq
    ·cases hq) (h1.Ef j).one aa (by rw [xY,LN,h7];omega)
   rw [xY]at tU
   have gU:(execOp (ev f) ⟨some d,.call { callee:=.builtin .append,args:= #[x,y],argTypes:= #[t,t] },ty,pos,aft,none⟩).run E.P w=.ok (.value (.slice (some ⟨b,0,none⟩) (i+(l.length-j)) cap)) (w.setRow b (cur.toList.take (i*e.k)++(css.drop j).flatten++cur.toList.drop (i*e.k+(css.drop j).flatten.length)).toArray):=by
    simp [execOp,resolve,invoke,builtin,hx,hy,tU]
   refine wpList_plain rfl fun K' iG=> ?_
   unfold Oper.wp
   rw [Hi.eval,gU]
   refine iG _ _ (k _ _ (afi _ ?_ ?_) h5 ⟨b,by simp only [nY];rw [hlen]⟩ _ _ Q (Hi.put hd _) (nI hrp) hK)
   ·simp only [uA,bP,bV,cv,qz,LN];omega
   ·rw [qB,holds]
    have e1:(cur.toList.take (i*e.k)++(css.drop j).flatten).length=(i+(l.length-j))*e.k:=by simp only [bP,bV,qz,LN,fz];omega
    rw [←e1,HC]
theorem W.ajb{z:List Value}{lo hi:Nat}(ht:cW E.P t=some t')(hk:gO E.P t'=some (bb,e.k))(hz:eg E.P t'=some z)(sI:Nat.beq z.length e.k=true)(hz1:z.all Value.oneCell'=true)
  (ho:aE e T G v l Ms)(hM:(Ms++B).Perm M)(hx:ev f x=fm v e.k lo hi)(eG:lo≤hi)(ji:hi≤nY v)(hv:∃b,v=.slice (some ⟨b,0,none⟩) l.length (nY v))(hm:m≤lo)(AK:m≤l.length)
  (k:∀kQ,aE e T G (fm v e.k 0 m) (l.take m) kQ→W E ops.toArray false rest f G (kQ++B) K):
  W E ops.toArray false (⟨none,.call { callee:=.builtin .clear,args:= #[x],argTypes:= #[t] },ty,pos,aft,none⟩::rest) f G M K:=by
 intro a w Q Hi hr hK
 have hrp:=hr.perm hM
 have wi:=cR ht
 obtain⟨css,h1,⟨h2,h3⟩,h4⟩:=ho
 obtain⟨b0,hv⟩:=hv
 simp only [eg,qF,qK]at hz
 obtain⟨zv,⟨ez,e1,e2⟩,rfl⟩:=hz
 have hzs:zv.cells.size=e.k:=by simpa using tP sI
 rcases h3 with⟨rfl,_,_⟩|⟨b,cap,cur,rfl,h5,h6,h7,h8,rfl⟩
 ·cases hv
 ·simp only [nY]at ji
  have ow:w.heap[b]?=some (.cells cur T (0,0)):=E7 hM hr
  have qz:cur.toList.length=cap*e.k:=by simpa using h7
  have hmk:m*e.k≤lo*e.k:=ic _ hm
  have hlh:lo*e.k≤hi*e.k:=ic _ eG
  have hhc:hi*e.k≤cap*e.k:=ic _ ji
  have hmc:m*e.k≤l.length*e.k:=ic _ AK
  have hlc:l.length*e.k≤cap*e.k:=ic _ h5
  have pw:(hi-lo)*e.k=hi*e.k-lo*e.k:=Nat.sub_mul _ _ _
  have hv0:fm (.slice (some ⟨b,0,none⟩) l.length cap) e.k 0 m=.slice (some ⟨b,0,none⟩) m cap:=by rw [jE (.inr rfl)];simp
  have hwb:m*e.w≤140737488355328:=gg (ic _ AK) h4
  have htl:(l.take m).length=m:=by simp;omega
  have afi:∀Eg:Array Value,Eg.size=cap*e.k→Eg.toList.take (m*e.k)=cur.toList.take (m*e.k)→aE e T G (fm (.slice (some ⟨b,0,none⟩) l.length cap) e.k 0 m) (l.take m) [(b,.cells Eg T (0,0))]:=fun Eg hs htk=>by
   rw [hv0]
   refine⟨css.take m,h1.Ee m,⟨by rw [(h1.Ee m).dY],.inr ⟨b,cap,Eg,by rw [htl],by rw [htl];omega,h6,hs,?_,rfl⟩⟩,by rw [htl];exact hwb⟩
   rw [htl,htk,qW m h1.lens,←h8,AB];congr 1;omega
  by_cases h0:hi-lo=0
  ·have C3:∃ao c,ev f x=.slice ao 0 c:=by rw [hx];simp only [fm,h0];exact⟨_,_,rfl⟩
   obtain⟨ao,c,C3⟩:=C3
   have gU:(execOp (ev f) ⟨none,.call { callee:=.builtin .clear,args:= #[x],argTypes:= #[t] },ty,pos,aft,none⟩).run E.P w=.ok (.value (.tuple #[])) w:=by
    cases ao<;>simp [execOp,resolve,invoke,builtin,C3,Builtin.clear_,run_underlying wi]
   refine wpList_plain rfl fun K' iG=> ?_
   unfold Oper.wp
   rw [Hi.eval,gU]
   exact iG _ _ (k _ (afi cur h7 rfl) _ w Q (Hi.zJ _) hrp hK)
  ·rw [jE aa]at hx
   have hzc:(Builtin.zeroCells zv.cells (hi-lo)).toList.length=(hi-lo)*e.k:=by
    have:=size_zeroCells zv.cells (hi-lo)
    rw [←hzs,←this];simp
   have aNo:∀u∈(Builtin.zeroCells zv.cells (hi-lo)).toList,u.oneCell'=true:=fun u hu=>by
    rw [NE]at hu
    simp only [List.mem_flatten,List.mem_replicate]at hu
    obtain⟨l',⟨_,rfl⟩,hu⟩:=hu
    exact BF hz1 u hu
   have kq:=run_storeCells_at E.P b (lo*e.k) T (Builtin.zeroCells zv.cells (hi-lo)).toList 0 cur w ow (by simp only [rK];rw [hzc,h7];omega) aNo
   simp only [rK]at kq
   have gU:(execOp (ev f) ⟨none,.call { callee:=.builtin .clear,args:= #[x],argTypes:= #[t] },ty,pos,aft,none⟩).run E.P w=.ok (.value (.tuple #[])) (w.setRow b (cur.toList.take (lo*e.k)++(Builtin.zeroCells zv.cells (hi-lo)).toList++cur.toList.drop (lo*e.k+(Builtin.zeroCells zv.cells (hi-lo)).toList.length)).toArray):=by
    obtain⟨q,hq⟩:∃q,hi-lo=q+1:=⟨hi-lo-1,aa⟩
    rw [hq]at hx kq⊢
    simp [execOp,resolve,invoke,builtin,hx,Builtin.clear_,run_underlying wi,zeroValue,typeInfo,e1,e2,kq]
   refine wpList_plain rfl fun K' iG=> ?_
   unfold Oper.wp
   rw [Hi.eval,gU]
   refine iG _ _ (k _ (afi _ ?_ ?_) _ _ Q (Hi.zJ _) (nI hrp) hK)
   ·simp only [uA,bP,bV,cv,qz,hzc];omega
   ·rw [qB,ci,Ej (by rw [bV,qz];omega),AB];congr 1;omega
theorem iu.Ui(h:iu e T G v n P pV S Ms)(hg:pV=0):aE e T G v (P++S) Ms:=by subst hg;exact h.own
theorem Src.Er(ho:aE e T G v l Ms)(hM:(Ms++B).Perm M)(h0:0<l.length):Src e E G M v l:=by
 have h:=Src.Pj (E:=E) ho hM (kW _) h0
 rw [yk]at h
 obtain⟨css,h1,⟨h2,h3⟩,h4⟩:=ho
 rcases h3 with⟨_,hn,_⟩|⟨b,cap,cur,rfl,_⟩
 ·omega
 ·rw [jE (.inr rfl)]at h
  simpa using h
theorem aE.aCk(ho:aE e T G v l Ms)(h0:0<l.length):∃b c,v=.slice (some ⟨b,0,none⟩) l.length c:=by
 obtain⟨css,h1,⟨h2,h3⟩,h4⟩:=ho
 rcases h3 with⟨_,hn,_⟩|⟨b,cap,cur,rfl,_⟩
 ·omega
 ·exact⟨b,cap,rfl⟩
theorem aE.fS(ho:aE e T G v l Ms):l.length≤nY v:=by
 obtain⟨css,h1,⟨h2,h3⟩,h4⟩:=ho
 rcases h3 with⟨rfl,hn,_⟩|⟨b,cap,cur,rfl,h,_⟩
 ·omega
 ·exact h
theorem W.okx{op:Op}(h:∃u,Ok E f G M ⟨some d,op,ty,pos,aft,none⟩ u)(k:∀u,W E ops.toArray q rest (jP f d u) G M K)(hd:Nat.blt d E.n=true:=by rfl):W E ops.toArray q (⟨some d,op,ty,pos,aft,none⟩::rest) f G M K:=by
 obtain⟨u,hu⟩:=h
 exact W.ok hu (k u) hd
theorem W.Xj{z:List Value}{lo hi:Nat}(ht:cW E.P t=some t')(hk:gO E.P t'=some (bb,e.k))(hz:eg E.P t'=some z)(sI:Nat.beq z.length e.k=true)(hz1:z.all Value.oneCell'=true)
  (ho:aE e T G v l Ms)(hM:(Ms++B).Perm M)(hx:ev f x=fm v e.k lo hi)(eG:lo≤hi)(ji:hi≤nY v)(hv:∃b,v=.slice (some ⟨b,0,none⟩) l.length (nY v))(hm:l.length≤lo)
  (k:∀kQ,aE e T G v l kQ→W E ops.toArray false rest f G (kQ++B) K):
  W E ops.toArray false (⟨none,.call { callee:=.builtin .clear,args:= #[x],argTypes:= #[t] },ty,pos,aft,none⟩::rest) f G M K:=by
 refine W.ajb (m:=l.length) ht hk hz sI hz1 ho hM hx eG ji hv hm (bZ _) (fun kQ h=>k kQ ?_)
 obtain⟨b,hb⟩:=hv
 rw [hb]at h⊢
 rw [jE (.inr rfl),rT]at h
 simpa using h
theorem W.aCl{L:List Value}{T':TypeId}{lo:List Oper}(hM:((b,Obj.cells L.toArray T' (0,0))::B).Perm M)(k:∀G',Le G G'→jc G' b 0 L→W E ops.toArray false lo f G' B K):W E ops.toArray false lo f G M K:=by
 refine W.perm hM (W.Nh fun hl=>k _ hl ⟨_,_,_,E6 _ _ _,fun j hj=> ?_⟩)
 simp
variable {vs:List Value}
theorem eH(ht:gO E.P t=some (bb,j))(hc:jc G b o cs)(hx:ev f x=.pointer (some ⟨b,o,none⟩))(hv:cs.take j=vs)(hl:vs.length=j)(hb:bb=false→j=1):Ok E f G M ⟨some d,.load t x,ty,pos,aft,none⟩ (HO bb vs):=fun w hr=>by
 subst hv
 have:=jB ht hb (w:=w) (a:=⟨b,o,none⟩) hl (fun j' v' yd=>by
  rw [Addr.add_lit]
  rw [mF]at yd
  split at yd
  ·exact hc.cell hr yd
  ·cases yd)
 simp [execOp,hx,Instr.loadAt,Instr.sureAddr,this]
variable {g:FuncId}
theorem afw{fst caps:List Operand}{ws:List Value}(hf:fst.map (ev f)=vs)(hc:caps.map (ev f)=ws):Ok E f G M ⟨some d,.makeFunc (.func g) fst.toArray caps.toArray,ty,pos,aft,none⟩ (.func (.func g) vs.toArray ws.toArray):=fun w hr=>by
 subst hf;subst hc
 simp [execOp,Instr.makeFunc]
theorem AN{fn : Func}{tR : TypeId}{tV : Array TypeId}{ys : List α}{Mu : MH}{lo hi : Nat}(hf : E.P.funcs[g]? = some fn)(aFI : (fn.name == "runtime.NumGoroutine") = false)(hb : fn.body.isNone = true)(hn : Extern.findNext fn = none)(he : Extern.find fn = some (Extern.SlicesOverlaps.overlaps #[t, t] #[tR]))
  (ht:cW E.P t=some t')(hk:gO E.P t'=some (bb,e.k))(hu:aE e T G u ys Mu)(hp:iu e T G v n P pV S Ms)(hM:(Mu++(Ms++B)).Perm M)(hy0:0<ys.length)(eG:lo<nY v)(hx:ev f x=u)(hy:ev f y=fm v e.k lo hi)(hkp:Nat.blt 0 e.k=true):
  Ok E f G M ⟨some d,.call { callee:=.value (.func g),args:= #[x,y],argTypes:=tV },ty,pos,aft,none⟩ (.bool false):=fun w hr=>by
 have AQ:=hr.perm hM
 have hk0:0<e.k:=by have:=hkp;simp [Nat.blt]at this;omega
 obtain⟨b,cap,cur,cp,cs,rfl,rfl,h3,h4,h5,h6,h7,h8,h9⟩:=hp
 obtain⟨css,g1,⟨g2,g3⟩,g4⟩:=hu
 rcases g3 with⟨_,AO,_⟩|⟨b2,al7,axY,rfl,g5,g6,g7,g8,rfl⟩
 ·omega
 ·simp only [nY]at eG
  rw [jE (.inl eG)]at hy
  have q1:w.heap[b2]?=some (.cells axY T (0,0)):=AQ.r.mu (b2,.cells axY T (0,0)) (by simp)
  have q2:w.heap[b]?=some (.cells cur T (0,0)):=AQ.r.mu (b,.cells cur T (0,0)) (by simp)
  have iR:=AQ.r.nd
  have ig:b2≠b:=fun e1=>by subst e1;simp at iR
  have al6:0<cap*e.k:=Nat.mul_pos aa hk0
  have hov:=Lib.run_overlaps_apart (P:=E.P) w t tR t' (cR ht) e.k (fun w=>fZ hk w) ⟨b2,0,none⟩ ⟨b,lo*e.k,none⟩ ys.length al7 (hi-lo) (cap-lo) ig T T axY.size cur.size (by simp [World.shape?,q1]) (by simp [World.shape?,q2]) aa (by simp [World.frozen?,q1]) (by simp [World.frozen?,q1])
  have hcf:=run_callFunc_extern hf aFI hb hn he #[.slice (some ⟨b2,0,none⟩) ys.length al7,.slice (some ⟨b,lo*e.k,none⟩) (hi-lo) (cap-lo)] w
  rw [hov]at hcf
  have e0:((#[]:Array Value)++ #[.slice (some ⟨b2,0,none⟩) ys.length al7,.slice (some ⟨b,lo*e.k,none⟩) (hi-lo) (cap-lo)]++ #[])= #[.slice (some ⟨b2,0,none⟩) ys.length al7,.slice (some ⟨b,lo*e.k,none⟩) (hi-lo) (cap-lo)]:=by simp
  have he0:ev f (.func g)=.func (.func g) #[] #[]:=rfl
  simp only [execOp,resolve,he0,Deferred.ofValue,Sem.run_bind,Sem.run_pure,Result.andThen_ok,invoke,yq,cA,lG,hx,hy,e0,hcf]
theorem W.re{b:Bool}{sz len:Nat}{parts:List (Nat×Operand)}{css:List (List Value)}{z:List Value}(ht:cW E.P t=some t')(hk:gO E.P t'=some (b,sz))(hz:eg E.P t'=some z)
  (hp:(parts.map fun p=>(ev f p.2).cells.toList)=css)(hi:parts.map (·.1)=List.range' 0 len)(hs:css.all (fun c=>Nat.beq c.length sz)=true)(hl:Nat.ble (len*sz) 16777216=true)(zR:Nat.ble len 16777216=true)(sI:Nat.beq z.length sz=true)(hR:fG e G css l)
  (k:∀v Ms,aE e t' G v l Ms→W E ops.toArray false rest (jP f d v) G (Ms++M) K)(hd:Nat.blt d E.n=true:=by rfl):
  W E ops.toArray false (⟨some d,.buildSlice t len parts.toArray,ty,pos,aft,none⟩::rest) f G M K:=by
 refine W.bsl ht hk hz hp hi hs hl sI (fun bl=> ?_) hd
 have h1:parts.length=len:=by have:=ax List.length hi;simpa using this
 have h2:=hR.spec.1
 have h3:css.length=len:=by rw [←hp];simpa using h1
 have h4:len≤16777216:=by simpa using zR
 have h5:=hR.dY
 refine k _ [(bl,.cells css.flatten.toArray t' (0,0))] ⟨css,hR,⟨h5,.inr ⟨bl,len,_,by rw [←h2,h3],aa,by simp [maxLen];omega,?_,?_,rfl⟩⟩,gg (Nat.mul_le_mul (by omega:l.length≤16777216) e.wle) (by decide)⟩
 ·simp only [uA];rw [h5];congr 1;omega
 ·simp only [qB];rw [←h5,rT]
end
def aaf (P:Program) (t:TypeId) (name:String):Option (FuncId×Option TypeId):=
 match P.info? t with
 |some ez=>match ez.methods.find? (·.name==name)with
  |some m=>bif m.path.isEmpty then(match m.func with
   |some (g,ptr)=>match P.underlying t with
    |some (.pointer e)=>bif ptr then some (g,none)else some (g,some e)
    |some _=>bif ptr then none else some (g,none)
    |none=>none
   |none=>none)else none
  |none=>none
 |none=>none
variable {P:Program} {g:FuncId} {name:String} {t:TypeId} {y:Value}
theorem TD{oe:Option TypeId}(h:aaf P t name=some (g,oe)){r:Value}{w:World}
  (hr:match oe with|none=>r=y|some e=>∃ad,y=.pointer (some ad)∧(loadVar e ad).run P w=.ok r w)(m:Nat):(method (m+1) t y name).run P w=.ok (g,r) w:=by
 unfold aaf at h
 split at h
 ·rename_i ez hi
  split at h
  ·rename_i me hm
   cases hp:me.path.isEmpty
   ·simp [hp]at h
   simp only [hp,cond_true]at h
   have aiV:me.path.toList=[]:=by simpa using hp
   split at h
   ·rename_i g' ptr hfu
    split at h
    ·rename_i e hu
     cases ptr
     ·simp only [cond_false,tK,Hu]at h
      obtain⟨rfl,rfl⟩:=h
      obtain⟨ad,rfl,k6⟩:=hr
      have hwr:∀(ad:Addr) (p q:String),Builtin.ssaWrapNilChk_ #[t] t #[.pointer (some ad),strVal p,strVal q]=pure (.pointer (some ad)):=fun _ _ _=>rfl
      simp [method,typeInfo,hi,hm,aiV,hp,follow,hfu,receiverAt,run_underlying hu,Place.get,hwr,asAddr,k6]
      split<;>simp [k6]
     ·simp only [cond_true,tK,Hu]at h
      obtain⟨rfl,rfl⟩:=h
      subst hr
      simp [method,typeInfo,hi,hm,aiV,follow,hfu,receiverAt,run_underlying hu,Place.get]
    ·rename_i d hd hu
     cases ptr
     ·simp only [cond_false,tK,Hu]at h
      obtain⟨rfl,rfl⟩:=h
      subst hr
      simp only [method,typeInfo,Sem.run_bind,run_program,hi,Result.andThen_ok,Sem.run_pure,hm,aiV,follow,hfu,receiverAt,run_underlying hu]
      cases d<;>first|exact absurd rfl (hd _)|simp [Place.get]
     ·cases h
    ·cases h
   ·cases h
  ·cases h
 ·cases h
def Inv (P:Program) (x:Value) (name:String) (vs:List Value) (G:GH) (M:MH) (Q:Value→GH→MH→Prop):Prop:=
 ∃t y g r,x=.iface t y∧(∀(w0:World) (own:Nat→Prop) (w:World),Real w0 own G M w→∀m,(method (m+1) t y name).run P w=.ok (g,r) w)∧
  ∃Ma Mb:MH,(Ma++Mb).Perm M∧Fc P g (r::vs) G Ma (fun v G' M'=>∃M2:MH,M2.Perm (M'++Mb)∧Q v G' M2)
variable {A:MH} {X:MH} {Y:MH} {p:Nat×Obj}
theorem pmB(h:X.Perm (p::Y)):(A++X).Perm (p::(A++Y)):=(h.append_left A).trans tL
theorem nV{q:Nat×Obj}(h:X.Perm (p::Y)):(q::X).Perm (p::q::Y):=(h.cons q).trans (List.Perm.swap ..)
theorem gB{Z R:MH}(h:(Z++R).Perm Y):((A++Z)++R).Perm (A++Y):=by rw [ci];exact h.append_left A
variable {G:GH} {L:List Value} {M:MH} {T:TypeId} {b:Nat} {o:Nat} {v:Value}
theorem apR{w0 w:World}{own:Nat→Prop}(hr:Real w0 own G M w)(ht:gO P t=some (false,1))(hm:(b,Obj.cells L.toArray T (0,0))∈M)(hv:L[o]?=some v):
  (loadVar t ⟨b,o,none⟩).run P w=.ok v w:=by
 have h:=hr.mu _ hm
 refine jB (cs:=[v]) ht (fun _=>rfl) rfl (fun j v' hj=> ?_)
 cases j with
 |zero=>
  simp only [List.getElem?_cons_zero,tK]at hj
  subst hj
  rw [Addr.add_lit]
  simp only at h
  simp [World.cell?,h,hv]
 |succ j=>simp at hj
variable {Q:Value→GH→MH→Prop} {Q':Value→GH→MH→Prop} {vs:List Value}
theorem Inv.val{e:TypeId}{Ms:MH}(hm:aaf P t name=some (g,some e))(ht:gO P e=some (false,1))(hv:L[o]?=some v)
  (hc:Fc P g (v::vs) G Ms Q')(hQ:∀v' G' M',Le G G'→Q' v' G' M'→Q v' G' ((b,.cells L.toArray T (0,0))::M')):Inv P (.iface t (.pointer (some ⟨b,o,none⟩))) name vs G ((b,.cells L.toArray T (0,0))::Ms) Q:=
 ⟨t,_,g,v,rfl,fun w0 own w hr m=>TD hm ⟨_,rfl,apR hr ht (tO) hv⟩ m,Ms,[(b,.cells L.toArray T (0,0))],tN,hc.mono fun v' G' M' hl h=>⟨_,(tN (l₁:=M') (l₂:=[(b,Obj.cells L.toArray T (0,0))])).symm,hQ v' G' M' hl h⟩⟩
theorem Inv.ptr(hm:aaf P t name=some (g,none))(hc:Fc P g (y::vs) G M Q')(hQ:∀v' G' M',Le G G'→Q' v' G' M'→Q v' G' M'):Inv P (.iface t y) name vs G M Q:=
 ⟨t,y,g,y,rfl,fun w0 own w hr m=>TD hm rfl m,M,[],by simp,hc.mono fun v' G' M' hl h=>⟨_,by simp,hQ v' G' M' hl h⟩⟩
section
variable {E:Env} {f:Fr} {G:GH} {M:MH} {ops rest:List Oper} {q:Bool} {K:Kt} {Q:Exit→Kt} {d:Nat} {ty:TypeId} {pos:String} {aft:Array Edge} {t t':TypeId} {x y:Operand}
theorem W.inv{name:String}{args:List Operand}{tV:Array TypeId}{x0:Value}{vs:List Value}{Mp Mr:MH}{Q:Value→GH→MH→Prop}(hc:Inv E.P x0 name vs G Mp Q)(hx:ev f x=x0)(ha:args.map (ev f)=vs)(hM:(Mp++Mr).Perm M)
  (k:∀v G' M',Le G G'→Q v G' M'→W E ops.toArray false rest (jP f d v) G' (M'++Mr) K)(hd:Nat.blt d E.n=true:=by rfl):
  W E ops.toArray false (⟨some d,.call { callee:=.invoke x name,args:=args.toArray,argTypes:=tV },ty,pos,aft,none⟩::rest) f G M K:=by
 obtain⟨t,y,g,r,rfl,hm,Ma,Mb,hp,hc⟩:=hc
 intro a w Q' hi hr hK
 have hrM:=hr.r.perm hM
 have gU:(execOp (ev f) ⟨some d,.call { callee:=.invoke x name,args:=args.toArray,argTypes:=tV },ty,pos,aft,none⟩).run E.P w=.ok (.enter g (r::vs).toArray) w:=by
  have h4:=hc.1 (#[r]++vs.toArray) w
  have hs:=hrM.sub (M':=Mp) (aI _ _)
  have h5:=hm _ _ _ hs (E.P.types.size+Made.depth-1)
  have e:((#[.iface t y]++(args.map (ev f)).toArray:Array Value))=(.iface t y::vs).toArray:=by rw [ha];simp
  simp only [execOp,resolve,hx,Sem.run_bind,Sem.run_pure,Result.andThen_ok,invoke,yq]
  rw [e]
  simp only [List.getElem?_toArray,List.getElem?_cons_zero,uA,jo,callMethod,Sem.run_bind,run_program,Result.andThen_ok]
  rw [show E.P.types.size+Made.depth=(E.P.types.size+Made.depth-1)+1 from by simp [Made.depth]]
  rw [h5]
  simp only [Result.andThen_ok]
  have e2: #[r]++Array.extract (.iface t y::vs).toArray 1 (vs.length+1)= #[r]++vs.toArray:=by
   apply Ho.1;simp
  rw [e2,h4]
  simp
 refine wpList_plain rfl fun K' iG=> ?_
 unfold Oper.wp
 rw [hi.eval,gU]
 have AQ:Real E.w0 E.own G (Ma++(Mb++Mr)) w:=hrM.perm (by rw [←ci];exact hp.append_right _)
 have hw:Real w (fun b=>b∈(Ma.map (·.1))) G Ma w:=by
  have hs:=AQ.sub (M':=Ma) (aI _ _)
  exact⟨rfl,rfl,rfl,bZ _,fun _ _ _=>rfl,hr.r.ro,hs.mu,hs.wJ,hs.nd,fun p hp=>.inr (kn hp)⟩
 refine(hc.2 w hw).mono ?_
 rintro e w' ⟨v',G',M',rfl,h2,h3,h4,M2,Cs,h5⟩
 have h6:=Real.call AQ h2 h4
 refine iG _ _ (k v' G' M2 h3 h5 _ w' Q' (hi.put hd v') ⟨h6.perm (by rw [←ci];exact Cs.append_right _),hr.le.trans h3,?_⟩ hK)
 intro b hb ow
 cases hg:G b with
 |none=>
  rcases h4 b hg ow with h7|h7
  ·exact .inl (gg hr.r.size h7)
  ·obtain⟨p,hp,e⟩:=cB.1 h7
   rcases AQ.lo p (by simp [hp])with h8|h8
   ·exact .inl (e▸h8)
   ·exact .inr (e▸h8)
 |some o=>exact hr.nw b hb (by simp [hg])
theorem zG{a:Addr}(hx:ev f x=.pointer (some a)):Ok E f G M ⟨some d,.nilCheck x,ty,pos,aft,none⟩ (.pointer (some a)):=fun w _=>by simp [execOp,hx]
def yt (P:Program) (t:TypeId):Bool:=match P.underlying t with|some (.interface _)=>false|some _=>true|none=>false
variable {u:Value}
theorem mM(hp:yt E.P t=true)(hx:ev f x=u):Ok E f G M ⟨some d,.makeInterface t x,ty,pos,aft,none⟩ (.iface t u):=fun w _=>by
 subst hx
 unfold yt at hp
 split at hp
 ·cases hp
 ·rename_i dd hd hu
  have:(Instr.makeInterface t (ev f x)).run E.P w=.ok (.iface t (ev f x)) w:=by
   simp only [Instr.makeInterface,Sem.run_bind,run_underlying hu,Result.andThen_ok]
   cases dd<;>first|exact absurd rfl (hd _)|rfl
  simp [execOp,this]
 ·cases hp
theorem Ic{xt:TypeId}(hp:yt E.P t=true)(hx:ev f x=.iface t u):Ok E f G M ⟨some d,.typeAssert x xt t false,ty,pos,aft,none⟩ u:=fun w _=>by
 unfold yt at hp
 split at hp
 ·cases hp
 ·rename_i dd hd hu
  have:(Instr.typeAssert (.iface t u) xt t false).run E.P w=.ok u w:=by
   simp only [Instr.typeAssert,Sem.run_bind,run_underlying hu,Result.andThen_ok]
   cases dd<;>first|exact absurd rfl (hd _)|simp
  simp [execOp,hx,this]
 ·cases hp
def HG (P:Program) (t:TypeId):Bool:=match P.underlying t with|some (.pointer _)=>true|_=>false
variable {a:Option Addr} {t2:TypeId}
theorem fx(ht:HG E.P t=true)(hx:ev f x=.pointer a)(hy:ev f y=.pointer none):Ok E f G M ⟨some d,.binOp .eql t x y t2,ty,pos,aft,none⟩ (.bool a.isNone):=fun w _=>by
 unfold HG at ht
 split at ht
 ·rename_i e hu
  have h:∀m,(Op.equalIn (m+1) t (.pointer a) (.pointer none)).run E.P w=.ok a.isNone w:=fun m=>by
   cases a<;>simp [Op.equalIn,run_underlying hu]
  have h2:(binOp .eql t (.pointer a) (.pointer none)).run E.P w=.ok (.bool a.isNone) w:=by
   simp only [binOp]
   cases a<;>simp [Op.equal,Op.maxDepth,h 9999]
  simp [execOp,hx,hy,eqGuard,h2]
 ·cases ht
theorem EO(ht:HG E.P t=true)(hx:ev f x=.pointer a)(hy:ev f y=.pointer none):Ok E f G M ⟨some d,.binOp .neq t x y t2,ty,pos,aft,none⟩ (.bool a.isSome):=fun w _=>by
 unfold HG at ht
 split at ht
 ·rename_i e hu
  have h:∀m,(Op.equalIn (m+1) t (.pointer a) (.pointer none)).run E.P w=.ok a.isNone w:=fun m=>by
   cases a<;>simp [Op.equalIn,run_underlying hu]
  have h2:(binOp .neq t (.pointer a) (.pointer none)).run E.P w=.ok (.bool a.isSome) w:=by
   simp only [binOp]
   cases a<;>simp [Op.equal,Op.maxDepth,h 9999]
  simp [execOp,hx,hy,eqGuard,h2]
 ·cases ht
variable {Ms:MH} {T:TypeId} {v:Value} {α:Type}
theorem aE.short{e:fB α}{l:List α}(ho:aE e T G v l Ms){n:Nat}(hn:n≤l.length):aE e T G (fm v e.k 0 n) (l.take n) Ms:=by
 obtain⟨css,h1,⟨h2,h3⟩,h4⟩:=ho
 have hw:=e.Ni
 have h5:(l.take n).length=n:=by rw [bV];omega
 have hlen:css.length=l.length:=h1.spec.1
 have o9:=h1.lens
 have hb:(l.take n).length*e.w≤140737488355328:=by rw [h5];exact gg (ic _ hn) h4
 refine⟨css.take n,h1.Ee n,⟨?_,?_⟩,hb⟩
 ·rw [qW n o9,bV,h2,h5]
  have:n*e.k≤l.length*e.k:=ic _ hn
  omega
 ·rcases h3 with⟨rfl,AO,rfl⟩|⟨b,cap,cur,rfl,h6,h7,h8,h9,rfl⟩
  ·left
   have:n=0:=aa
   subst this
   exact⟨rfl,by simp,rfl⟩
  ·right
   refine⟨b,cap,cur,?_,by rw [h5];omega,h7,h8,?_,rfl⟩
   ·rw [h5];simp [fm];intro _;rfl
   ·rw [h5,qW n o9,←h9,AB]
    congr 1
    have:n*e.k≤l.length*e.k:=ic _ hn
    omega
variable {bb:Bool}
theorem W.ajp{e:fB α}{l:List α}{hi:Option Operand}(n:Nat)(ht:cW E.P t=some t')(hk:gO E.P t'=some (bb,e.k))(ho:aE e T G v l Ms)(hx:ev f x=v)(ji:vv f l.length n hi)(hn:n≤l.length)
  (k:∀u,aE e T G u (l.take n) Ms→W E ops.toArray q rest (jP f d u) G M K)(hd:Nat.blt d E.n=true:=by rfl):W E ops.toArray q (⟨some d,.slice t x none hi none,ty,pos,aft,none⟩::rest) f G M K:=
 W.ok (ew 0 n ht hk ho hx rfl ji ⟨kW _,.inl hn⟩) (k _ (ho.short hn)) hd
theorem W.slR{e:fB α}{l:List α}{lo hi:Option Operand}(a b:Nat)(ht:cW E.P t=some t')(hk:gO E.P t'=some (bb,e.k))(hs:az e G v l)(hx:ev f x=v)(eG:vv f 0 a lo)(ji:vv f l.length b hi)(h1:a≤b)(h2:b≤l.length)
  (k:∀u,az e G u ((l.take b).drop a)→W E ops.toArray q rest (jP f d u) G M K)(hd:Nat.blt d E.n=true:=by rfl):W E ops.toArray q (⟨some d,.slice t x lo hi none,ty,pos,aft,none⟩::rest) f G M K:=
 W.ok (ok_slice a b ht hk hs hx eG ji ⟨h1,h2⟩) (k _ (hs.slice h1 h2)) hd
theorem W.Ju{e:fB α}{z:List Value}{a0:α}{n:Nat}(ht:cW E.P t=some t')(hk:gO E.P t'=some (bb,e.k))(hz:eg E.P t'=some z)(sI:Nat.beq z.length e.k=true)(hb:jb E.P t'=some e.w)
  (hR:e.R G z a0)(hx:ev f x=.int .i64 (n:Int))(hy:ev f y=.int .i64 (n:Int))(hn:n*e.w≤140737488355328)(hc:n*e.k≤16777216)
  (k:∀v Ms,aE e t' G v (List.replicate n a0) Ms→W E ops.toArray false rest (jP f d v) G (Ms++M) K)(hd:Nat.blt d E.n=true:=by rfl):
  W E ops.toArray false (⟨some d,.makeSlice t x y,ty,pos,aft,none⟩::rest) f G M K:=by
 intro a w Q hi hr hK
 have wi:=cR ht
 have BH:∃ez zv,E.P.info? t'=some ez∧ez.zero=some zv∧ez.size=e.k∧ez.bytes=e.w∧zv.cells.toList=z:=by
  simp only [eg,qF,qK]at hz
  obtain⟨zv,⟨ez,h1,h2⟩,rfl⟩:=hz
  have h3:=fZ hk w
  simp [sizeOf,typeInfo,h1]at h3
  simp only [jb,h1,yr,tK]at hb
  exact⟨ez,zv,h1,h2,h3,hb,rfl⟩
 obtain⟨ez,zv,tw,jY,xY,hi4,hi5⟩:=BH
 have hw0:=e.Ni
 have hle:n≤140737488355328:=gg (AA _ hw0) hn
 have hzs:zv.cells.size=e.k:=by rw [←WN,hi5];exact tP sI
 have hmk:=run_makeSlice (P:=E.P) w t t' ez zv wi tw jY .i64 .i64 (n:Int) (n:Int) aa aa (by rw [xY];simpa using hc) (by
  rw [hi4]
  have:((e.w:Nat):Int)*(n:Int)=((n*e.w:Nat):Int):=by rw [Nat.mul_comm];simp
  rw [this];omega) aa
 have aFJ:madeCells zv.cells ((n:Int).toNat*ez.size)=(List.replicate n z).flatten.toArray:=by
  apply Ho.1
  rw [xY,←hzs,qG,TA,hi5]
 rw [aFJ]at hmk
 have gU:(execOp (ev f) ⟨some d,.makeSlice t x y,ty,pos,aft,none⟩).run E.P w=.ok (.value (.slice (some ⟨w.heap.size,0,none⟩) n n)) (w.alloc (.cells (List.replicate n z).flatten.toArray t' (0,0))):=by
  simp only [execOp,hx,hy,Sem.run_bind,hmk,Result.andThen_ok,Sem.run_pure,qG]
 refine wpList_plain rfl fun K' iG=> ?_
 unfold Oper.wp
 rw [hi.eval,gU]
 have aNp:∀m,fG e G (List.replicate m z) (List.replicate m a0):=by
  intro m
  induction m with
  |zero=>exact trivial
  |succ m ih=>exact⟨hR,ih⟩
 have hzk:z.length=e.k:=tP sI
 have j8:(List.replicate n z).flatten.length=n*e.k:=by simp [hzk]
 refine iG _ _ (k _ [(w.heap.size,.cells (List.replicate n z).flatten.toArray t' (0,0))] ⟨List.replicate n z,aNp n,⟨by rw [j8];simp,.inr ⟨_,n,_,by simp,by simp,by simp only [maxLen];omega,by simp [hzk],?_,rfl⟩⟩,by simpa using hn⟩ _ _ Q (hi.put hd _) ?_ hK)
 ·rw [wq]
  exact fI (by rw [qB,j8];exact bZ _)
 ·exact hr.alloc _
end
end Go.Fw
