/- Data, arguments, and more rules of the calculus. Nothing of the program is named here. No condition. -/
import Derived.ProofKit
import Derived.SizedLaws
import Derived.Carry
import Derived.Laws.CopyRow
import Derived.Lib.Overlaps
import Derived.Lib.AppendZerosOnto
import Derived.Laws.MakeOwn
import Derived.Test.YtfhnamngaofccaaGreatQiX1
set_option linter.unusedVariables false
set_option linter.unusedSimpArgs false
set_option linter.unnecessarySimpa false
set_option linter.unusedSectionVars false

namespace Go.Fw
open Go Go.RowKit
variable {E:Env} {Q:Exit→Kt} {f:Fr} {G:GH} {M:MH}
theorem WC.join{X:Type}{x y:Code}(live:X→List (Nat×Value))(I:X→GH→MH→Prop)
  (h1:WC E x (wS (fun f' G' M'=>Le G G'∧∃z,Has f' (live z)∧I z G' M') Q) f G M)
  (h2:∀z g G' M',Le G G'→I z G' M'→WC E y Q (dO g (live z)) G' M'):WC E (.seq x y) Q f G M:=by
 refine WC.seq ?_
 intro a w hi hr
 refine wp_mono (h1 a w hi hr) ?_
 rintro e a' w' ⟨f',G',M',k1,k2,k3⟩
 cases e with
 |normal=>
  obtain⟨k4,z,k5,k6⟩:=k3
  have:=h2 z f' G' M' k4 k6
  rw [vX k5]at this
  exact⟨f',G',M',k1,k2,this⟩
 |_=>exact⟨f',G',M',k1,k2,k3⟩
theorem WC.fr{c:Code}{f f':Fr}(h:f'=f)(k:WC E c Q f G M):WC E c Q f' G M:=h▸k
def aap (P:Program) (t:TypeId) (j:Nat):Option (Bool×Nat×Nat):=
 match P.underlying t with
 |some (.struct fs)=>(fs[j]?).bind fun fd=>(eC P fd.type).map fun k=>(k.1,fd.offset,k.2)
 |_=>none
theorem ahn{d j:Nat}{t ty:TypeId}{pos:String}{aft:Array Edge}{x:Operand}{bb:Bool}{off k:Nat}{L vs:List Value}(ht:aap E.P t j=some (bb,off,k))(hx:ev f x=.agg L.toArray)(hv:(L.drop off).take k=vs)
  (hl:(bb||Nat.beq vs.length 1)=true):Ok E f G M ⟨some d,.field t x j,ty,pos,aft,none⟩ (AN bb vs):=fun w _=>by
 unfold aap at ht
 split at ht
 ·rename_i fs hu
  obtain⟨fd,hfd,h3⟩:=Option.bind_eq_some_iff.1 ht
  obtain⟨⟨b2,k2⟩,hk,h4⟩:=Option.map_eq_some_iff.1 h3
  simp only [Prod.mk.injEq]at h4
  obtain⟨rfl,rfl,rfl⟩:=h4
  cases b2 with
  |true=>
   subst hv
   have e:L.toArray.extract fd.offset (fd.offset+k2)=((L.drop fd.offset).take k2).toArray:=by apply Array.toList_inj.1;simp [List.extract_eq_take_drop]
   simp [execOp,hx,Instr.field,run_underlying hu,hfd,part,Ds hk,fp hk,asAgg,AN]
  |false=>
   match vs,hl with
   |[v],_=>
    have h5:L[fd.offset]?=some v:=by
     have:=congrArg (fun l=>l[0]?) hv
     rw [List.getElem?_take,List.getElem?_drop]at this
     split at this<;>simp_all
    simp [execOp,hx,Instr.field,run_underlying hu,hfd,part,Ds hk,asAgg,h5,AN]
 ·cases ht
end Go.Fw
namespace Go.Fw
open Go
theorem iv{k:IntKind}{a b:Int}(h:a=b):Value.int k a=Value.int k b:=by rw [h]
theorem eqv{x y:Value}(h:x=y:=by first|rfl|exact iv (by dsimp only;omega)|exact iv aa):x=y:=h
variable {p:Prop}
theorem Fa [Decidable p](h:(!decide p)=true):¬p:=by simpa using h
theorem Fb [Decidable p](h:(!decide p)=false):p:=by simpa using h
theorem AM:∀(k:Nat) (l1 l2:List UInt8) (h:∀i,i<k→l1[i]?=l2[i]?) (h1:k<l1.length) (h2:k<l2.length),l1[k]≠l2[k]→Op.bytesLess l1 l2=decide (l1[k]<l2[k])
 |0,x::xs,y::ys,_,_,_,hn=>by
  simp only [List.getElem_cons_zero]at hn⊢
  simp [Op.bytesLess,hn]
 |k+1,x::xs,y::ys,h,h1,h2,hn=>by
  have h0:=h 0 aa
  simp at h0
  subst h0
  have ih:=AM k xs ys (fun i hi=>by simpa using h (i+1) aa) (by simpa using h1) (by simpa using h2) (by simpa using hn)
  simp only [Op.bytesLess,List.getElem_cons_succ,ih]
  simp
 |_,[],_,_,h1,_,_=>by simp at h1
 |_,_::_,[],_,_,h2,_=>by simp at h2
theorem zd:∀(k:Nat) (l1 l2:List UInt8) (h:∀i,i<k→l1[i]?=l2[i]?),(k=l1.length∨k=l2.length)→k≤l1.length→k≤l2.length→Op.bytesLess l1 l2=decide (l1.length<l2.length)
 |0,l1,l2,_,h,_,_=>by
  cases l1<;>cases l2<;>simp [Op.bytesLess]at h⊢
 |k+1,x::xs,y::ys,h,h0,h1,h2=>by
  have h3:=h 0 aa
  simp at h3
  subst h3
  have ih:=zd k xs ys (fun i hi=>by simpa using h (i+1) aa) (by simpa using h0) (by simpa using h1) (by simpa using h2)
  simp [Op.bytesLess,ih]
 |k+1,[],_,_,_,h1,_=>by simp at h1
 |k+1,_::_,[],_,_,_,h2=>by simp at h2
theorem getElem?_data(a:ByteArray)(i:Nat):a[i]?=a.toList[i]?:=by
 rw [ByteArray.toList_eq]
 by_cases h:i<a.size
 ·rw [getElem?_pos a i h,List.getElem?_eq_getElem (by simpa using h)]
  simp [ByteArray.getElem_eq_getElem_data]
 ·rw [getElem?_neg a i h,List.getElem?_eq_none (by simpa using h)]
theorem size_data(a:ByteArray):a.size=a.toList.length:=by rw [ByteArray.toList_eq];simp
variable {a:ByteArray} {b:ByteArray}
theorem Pr{k:Nat}(h:∀i,i<k→a[i]?=b[i]?)(h1:k<a.size)(h2:k<b.size)(hn:(a[k]'h1).toNat≠(b[k]'h2).toNat):decide (((a[k]'h1).toNat:Int)<(b[k]'h2).toNat)=blt a b:=by
 have e1:∀(c:ByteArray) (hc:k<c.size),c.toList[k]'(by rw [←size_data];exact hc)=c[k]'hc:=fun c hc=>by
  have:=getElem?_data c k
  rw [getElem?_pos c k hc,List.getElem?_eq_getElem (by rw [←size_data];exact hc)]at this
  exact(Option.some.inj this).symm
 unfold blt
 rw [AM k a.toList b.toList (fun i hi=>by rw [←getElem?_data,←getElem?_data];exact h i hi) (by rw [←size_data];exact h1) (by rw [←size_data];exact h2) (by
  rw [e1 a h1,e1 b h2];exact fun e=>hn (by rw [e]))]
 rw [e1 a h1,e1 b h2,Bool.eq_iff_iff]
 simp [UInt8.lt_iff_toNat_lt]
theorem ta{k:Nat}(h:∀i,i<k→a[i]?=b[i]?)(h0:k=a.size∨k=b.size)(h1:k≤a.size)(h2:k≤b.size):decide ((a.size:Int)<b.size)=blt a b:=by
 unfold blt
 rw [zd k a.toList b.toList (fun i hi=>by rw [←getElem?_data,←getElem?_data];exact h i hi) (by rw [←size_data,←size_data];exact h0) (by rw [←size_data];exact h1) (by rw [←size_data];exact h2)]
 rw [←size_data,←size_data,Bool.eq_iff_iff]
 simp
theorem HU{k:Nat}(h:∀i,i<k→a[i]?=b[i]?)(h1:k<a.size)(h2:k<b.size)(he:((a[k]'h1).toNat:Int)=(b[k]'h2).toNat):∀i,i<k+1→a[i]?=b[i]?:=fun i hi=>by
 by_cases e:i=k
 ·subst e
  rw [getElem?_pos a i h1,getElem?_pos b i h2]
  congr 1
  exact UInt8.toNat_inj.1 aa
 ·exact h i aa
structure ah where
 b:ByteArray
 le:b.size≤140737488355328
variable {a:ah} {b:ah}
theorem ah.ext'(h:a.b=b.b):a=b:=by cases a;cases b;simp_all
theorem ah.dv{a b:ah} :a.b=b.b↔a=b:=⟨ah.ext',fun h=>h▸rfl⟩
instance : DecidableEq ah := fun a b => decidable_of_iff (a.b = b.b) ah.dv
def ah.nil:ah:=⟨⟨#[]⟩,by decide⟩
instance : Inhabited ah := ⟨ah.nil⟩
def ah.lt (a b:ah):Bool:=blt a.b b.b
def i64 (n:Int):Prop:= -9223372036854775808≤n∧n≤9223372036854775807
structure Span where
 lo:ah
 hi:ah
 bT:Bool
 deriving DecidableEq
structure bp where
 key:ah
 val:ah
 deriving DecidableEq
structure aA where
 aO:Int
 kind:Int
 key:ah
 hi:ah
 bT:Bool
 val:ah
 deriving DecidableEq
structure Nd where
 slot:Int
 level:Int
 ab:List ah
 kids:List Int
 high:ah
 cW:Bool
 right:Int
 seen:Int
 af:List aA
 rows:List bp
 deriving DecidableEq
instance : Inhabited bp := ⟨⟨default, default⟩⟩
def aA.Ok (m:aA):Prop:=i64 m.aO∧i64 m.kind
def Nd.Ok (n:Nd):Prop:=i64 n.slot∧i64 n.level∧i64 n.right∧i64 n.seen
def Span.cells (s:Span):List Value:=[.string s.lo.b,.string s.hi.b,.bool s.bT]
def aA.cells (m:aA):List Value:=[.int .i64 m.aO,.int .i64 m.kind,.string m.key.b,.string m.hi.b,.bool m.bT,.string m.val.b]
def dg:dV ah where
 k:=1
 w:=16
 R:=fun _ cs s=>cs=[.string s.b]
 mono:=fun _ h=>h
 len:=fun h=>by rw [h];rfl
 one:=fun h u hu=>by rw [h]at hu;simp at hu;subst hu;rfl
def bY:dV Int where
 k:=1
 w:=8
 R:=fun _ cs n=>cs=[.int .i64 n]∧i64 n
 mono:=fun _ h=>h
 len:=fun h=>by rw [h.1];rfl
 one:=fun h u hu=>by rw [h.1]at hu;simp at hu;subst hu;rfl
def bA:dV bp where
 k:=2
 w:=32
 R:=fun _ cs p=>cs=[.string p.key.b,.string p.val.b]
 mono:=fun _ h=>h
 len:=fun h=>by rw [h];rfl
 one:=fun h u hu=>by rw [h]at hu;simp at hu;rcases hu with rfl|rfl<;>rfl
def bQ:dV aA where
 k:=6
 w:=72
 R:=fun _ cs m=>cs=[.int .i64 m.aO,.int .i64 m.kind,.string m.key.b,.string m.hi.b,.bool m.bT,.string m.val.b]∧m.Ok
 mono:=fun _ h=>h
 len:=fun h=>by rw [h.1];rfl
 one:=fun h u hu=>by rw [h.1]at hu;simp at hu;rcases hu with rfl|rfl|rfl|rfl|rfl|rfl<;>rfl
def ba (G:GH) (cs:List Value) (n:Nd):Prop:=
 ∃a1 c1 a2 c2 a3 c3 a4 c4,cs=[.int .i64 n.slot,.int .i64 n.level,.slice a1 n.ab.length c1,.slice a2 n.kids.length c2,.string n.high.b,.bool n.cW,.int .i64 n.right,.int .i64 n.seen,.slice a3 n.af.length c3,.slice a4 n.rows.length c4]∧
  ax dg G (.slice a1 n.ab.length c1) n.ab∧ax bY G (.slice a2 n.kids.length c2) n.kids∧ax bQ G (.slice a3 n.af.length c3) n.af∧ax bA G (.slice a4 n.rows.length c4) n.rows∧n.Ok
theorem ba.mono{G G':GH}{cs n}(hl:Le G G')(h:ba G cs n):ba G' cs n:=by
 obtain⟨a1,c1,a2,c2,a3,c3,a4,c4,h0,h1,h2,h3,h4,h5⟩:=h
 exact⟨a1,c1,a2,c2,a3,c3,a4,c4,h0,h1.mono hl,h2.mono hl,h3.mono hl,h4.mono hl,h5⟩
def bU:dV Nd where
 k:=10
 w:=152
 R:=ba
 mono:=fun hl h=>h.mono hl
 len:=fun h=>by obtain⟨a1,c1,a2,c2,a3,c3,a4,c4,h0,_⟩:=h;rw [h0];rfl
 one:=fun h u hu=>by
  obtain⟨a1,c1,a2,c2,a3,c3,a4,c4,h0,_⟩:=h
  rw [h0]at hu
  simp at hu
  rcases hu with rfl|rfl|rfl|rfl|rfl|rfl|rfl|rfl|rfl|rfl<;>rfl
theorem kl:∀l:List UInt8,Op.bytesLess l l=false
 |[]=>rfl
 |x::xs=>by simp [Op.bytesLess,kl xs]
theorem oV:∀ {a b c:List UInt8},Op.bytesLess a b=true→Op.bytesLess b c=true→Op.bytesLess a c=true
 |[],_::_,_::_,_,_=>rfl
 |[],[],_,h,_=>by simp [Op.bytesLess]at h
 |_::_,[],_,h,_=>by simp [Op.bytesLess]at h
 |_,_::_,[],_,h=>by simp [Op.bytesLess]at h
 |x::a,y::b,z::c,h1,h2=>by
  simp only [Op.bytesLess,Bool.or_eq_true,Bool.and_eq_true,decide_eq_true_eq,beq_iff_eq]at h1 h2⊢
  rcases h1 with h1|⟨rfl,h1⟩
  ·rcases h2 with h2|⟨rfl,h2⟩
   ·exact .inl (UInt8.lt_trans h1 h2)
   ·exact .inl h1
  ·rcases h2 with h2|⟨rfl,h2⟩
   ·exact .inl h2
   ·exact .inr ⟨rfl,oV h1 h2⟩
theorem oW:∀ {a b:List UInt8},Op.bytesLess a b=false→Op.bytesLess b a=false→a=b
 |[],[],_,_=>rfl
 |[],_::_,h,_=>by simp [Op.bytesLess]at h
 |_::_,[],_,h=>by simp [Op.bytesLess]at h
 |x::a,y::b,h1,h2=>by
  simp only [Op.bytesLess,Bool.or_eq_false_iff,Bool.and_eq_false_iff,decide_eq_false_iff_not,beq_eq_false_iff_ne]at h1 h2
  obtain⟨h3,h4⟩:=h1
  obtain⟨h5,h6⟩:=h2
  have e:x=y:=UInt8.le_antisymm (UInt8.not_lt.1 h5) (UInt8.not_lt.1 h3)
  subst e
  have h4:Op.bytesLess a b=false:=h4.resolve_left (by simp)
  have h6:Op.bytesLess b a=false:=h6.resolve_left (by simp)
  rw [oW h4 h6]
theorem ah.lt_irrefl(a:ah):a.lt a=false:=kl _
theorem ah.lt_trans{c:ah}(h:a.lt b=true)(k:b.lt c=true):a.lt c=true:=oV h k
theorem ah.gW(h:a.lt b=false)(k:b.lt a=false):a=b:=ah.ext' (toList_inj.1 (oW h k))
theorem ah.lt_asymm(h:a.lt b=true):b.lt a=false:=by
 cases hb:b.lt a
 ·rfl
 ·have:=ah.lt_trans h hb;rw [ah.lt_irrefl]at this;cases this
theorem ah.lt_of_le_of_lt{c:ah}(h:b.lt a=false)(k:b.lt c=true):a.lt c=true:=by
 cases mZ:a.lt b
 ·rw [ah.gW mZ h];exact k
 ·exact ah.lt_trans mZ k
theorem ah.lt_of_lt_of_le{c:ah}(h:a.lt b=true)(k:c.lt b=false):a.lt c=true:=by
 cases hbc:b.lt c
 ·rw [←ah.gW hbc k];exact h
 ·exact ah.lt_trans h hbc
theorem ah.le_trans{c:ah}(h:b.lt a=false)(k:c.lt b=false):c.lt a=false:=by
 cases hca:c.lt a
 ·rfl
 ·rw [ah.lt_of_lt_of_le hca h]at k;cases k
theorem ah.nil_le(a:ah):a.lt ah.nil=false:=by
 show Op.bytesLess a.b.toList (ByteArray.mk #[]).toList=false
 have:(ByteArray.mk #[]).toList=[]:=by rw [ByteArray.toList_eq]
 rw [this]
 cases a.b.toList<;>rfl
def Span.zero:Span:=⟨ah.nil,ah.nil,false⟩
def Span.has (s:Span) (k:ah):Bool:= !k.lt s.lo&&(s.bT||k.lt s.hi)
def Span.empty (s:Span):Bool:= !s.bT&& !s.lo.lt s.hi
def Span.norm (s:Span):Span:=if s.empty=true then Span.zero else if s.bT=true then { s with hi:=ah.nil } else s
def Span.all:Span:=⟨ah.nil,ah.nil,true⟩
theorem Span.empty_eq(s:Span):(!s.has s.lo)=s.empty:=by
 simp [Span.has,Span.empty,ah.lt_irrefl]
theorem Span.eqC(s t:Span):dy s.cells t.cells=decide (s=t):=by
 rw [Bool.eq_iff_iff]
 cases s;cases t
 simp [Span.cells,dy,ah.dv]
def rising:List ah→Bool
 |a::b::r=>a.lt b&&rising (b::r)
 |_=>true
theorem fO:∀ {l:List ah},rising l=true↔∀i (h:i+1<l.length),l[i].lt l[i+1]=true
 |[]=>by simp [rising]
 |[a]=>by simp [rising]
 |a::b::r=>by
  simp only [rising,Bool.and_eq_true]
  rw [fO]
  constructor
  ·rintro⟨h1,h2⟩ i h
   cases i with
   |zero=>exact h1
   |succ i=>exact h2 i (by simpa using h)
  ·intro h
   exact⟨h 0 (by simp),fun i hi=>h (i+1) (by simpa using hi)⟩
variable {i:Nat} {l:List ah}
theorem FE(h:i+1<l.length)(hn:l[i].lt l[i+1]=false):rising l=false:=by
 cases hr:rising l
 ·rfl
 ·rw [fO.1 hr i h]at hn;cases hn
theorem g0{l:List ah}(hr:rising l=true):∀(j i:Nat) (kn:i<j) (hj:j<l.length),l[i].lt l[j]=true
 |0,i,h,_=>by omega
 |j+1,i,h,hj=>by
  have h1:=fO.1 hr j hj
  by_cases e:i=j
  ·subst e;exact h1
  ·exact ah.lt_trans (g0 hr j i aa aa) h1
def ee (ab:List ah) (n:Nat):Bool:=rising ab&&decide (n=ab.length+1)
def aJ (l:List ah) (k:ah):Nat:=(l.filter fun p=> !k.lt p).length
def ar (l:List ah) (i:Int):Span:=
 if i<0∨(l.length:Int)<i then Span.zero
 else Span.norm ⟨if 0<i then l.getD (i-1).toNat ah.nil else ah.nil,l.getD i.toNat ah.nil,decide ((l.length:Int)≤i)⟩
def kq:List ah→Int→Int→Int
 |[],n,_=>n
 |s::l,n,most=>if n≤most then kq l (n+(s.b.size+1)) most else n
theorem Dv(hr:rising l=true){k:ah}(hi:i≤l.length)(h1:∀j (h:j<l.length),j<i→k.lt l[j]=false)(h2:∀j (h:j<l.length),i≤j→k.lt l[j]=true):aJ l k=i:=by
 unfold aJ
 have e:l=l.take i++l.drop i:=(List.take_append_drop i l).symm
 rw [e,List.filter_append,List.length_append]
 have f1:(l.take i).filter (fun p=> !k.lt p)=l.take i:=by
  rw [List.filter_eq_self]
  intro a ha
  obtain⟨j,hj,rfl⟩:=List.getElem_of_mem ha
  simp only [List.length_take]at hj
  rw [List.getElem_take,h1 j aa aa];rfl
 have f2:(l.drop i).filter (fun p=> !k.lt p)=[]:=by
  rw [List.filter_eq_nil_iff]
  intro a ha
  obtain⟨j,hj,rfl⟩:=List.getElem_of_mem ha
  simp only [List.length_drop]at hj
  rw [List.getElem_drop,h2 (i+j) aa aa];simp
 rw [f1,f2]
 simp [hi]
def eE (l:List ah) (k:ah):Nat:=(l.filter fun p=>p.lt k).length
theorem qo{k:ah}(hi:i≤l.length)(h1:∀j (h:j<l.length),j<i→l[j].lt k=true)(h2:∀j (h:j<l.length),i≤j→l[j].lt k=false):eE l k=i:=by
 unfold eE
 have e:l=l.take i++l.drop i:=(List.take_append_drop i l).symm
 rw [e,List.filter_append,List.length_append]
 have f1:(l.take i).filter (fun p=>p.lt k)=l.take i:=by
  rw [List.filter_eq_self]
  intro a ha
  obtain⟨j,hj,rfl⟩:=List.getElem_of_mem ha
  simp only [List.length_take]at hj
  rw [List.getElem_take,h1 j aa aa]
 have f2:(l.drop i).filter (fun p=>p.lt k)=[]:=by
  rw [List.filter_eq_nil_iff]
  intro a ha
  obtain⟨j,hj,rfl⟩:=List.getElem_of_mem ha
  simp only [List.length_drop]at hj
  rw [List.getElem_drop,h2 (i+j) aa aa];simp
 rw [f1,f2]
 simp [hi]
theorem Aq{a a':Int}{b b':Bool}(h:a=a')(k:b=b'):Value.tuple #[.int .i64 a,.bool b]=Value.tuple #[.int .i64 a',.bool b']:=by rw [h,k]
variable {j:Nat}
theorem KI(hr:rising l=true)(kn:i≤j)(hj:j<l.length):l[j].lt (l[i]'aa)=false:=by
 by_cases e:i=j
 ·subst e;exact ah.lt_irrefl _
 ·exact ah.lt_asymm (g0 hr j i aa hj)
variable {m:Nat}
theorem Ln(hr:rising l=true)(hm:m<l.length){k:ah}(h:l[m].lt k=true)(q:Nat)(hq:q<l.length)(hqm:q<m+1):l[q].lt k=true:=
 ah.lt_of_le_of_lt (KI hr aa hm) h
theorem Ax(hr:rising l=true)(hm:m<l.length){k:ah}(h:l[m].lt k=false)(q:Nat)(hq:q<l.length)(hqm:m≤q):l[q].lt k=false:=by
 cases h1:l[q].lt k
 ·rfl
 ·rw [ah.lt_of_le_of_lt (KI hr hqm hq) h1]at h;cases h
theorem H7(l:List ah)(k:ah):eE l k≤l.length:=List.length_filter_le _ _
theorem ze(hr:rising l=true)(k:ah):(∀j (h:j<l.length),j<eE l k→l[j].lt k=true)∧(∀j (h:j<l.length),eE l k≤j→l[j].lt k=false):=by
  suffices ∃i,i≤l.length∧(∀j (h:j<l.length),j<i→l[j].lt k=true)∧(∀j (h:j<l.length),i≤j→l[j].lt k=false)by
    obtain⟨i,h0,h1,h2⟩:=this
    rw [qo h0 h1 h2];exact⟨h1,h2⟩
  by_cases h:∃i,∃h:i<l.length,l[i].lt k=false
  · have key:∀n i,i≤n→∀(h:i<l.length),l[i].lt k=false→∃i,∃h:i<l.length,l[i].lt k=false∧∀j (hj:j<l.length),j<i→l[j].lt k=true:=by
      intro n
      induction n with
      | zero => intro i hi hl hk;obtain rfl:i=0:=aa
                exact⟨0,hl,hk,fun j _ hj=>by omega⟩
      | succ n ih=>
        intro i hi hl hk
        by_cases h2:∃j,∃hj:j<l.length,j<i∧l[j].lt k=false
        · obtain⟨j,hj,oh,hjk⟩:=h2
          exact ih j aa hj hjk
        · refine⟨i,hl,hk,fun j hj oh=> ?_⟩
          cases h3:l[j].lt k
          ·exact absurd ⟨j,hj,oh,h3⟩ h2
          ·rfl
    obtain⟨i,hi,hk⟩:=h
    obtain⟨i,hi,hk,h3⟩:=key i i (Nat.le_refl _) hi hk
    exact⟨i,aa,h3,fun j hj kn=>Ax hr hi hk j hj kn⟩
  · refine⟨l.length,Nat.le_refl _,fun j hj _=> ?_,fun j hj h=>by omega⟩
    cases h3:l[j].lt k
    ·exact absurd ⟨j,hj,h3⟩ h
    ·rfl
theorem tK{k:ah}(hr:rising l=true)(h:l[eE l k]?=some k):((eE l k:Nat):Int)+1=(aJ l k:Nat):=by
 obtain⟨iB,he⟩:=List.getElem?_eq_some_iff.1 h
 have:=ze hr k
 rw [Dv hr (i:=eE l k+1) aa (fun j hj oh=> ?_) (fun j hj oh=> ?_)]
 ·omega
 ·by_cases e:j=eE l k
  ·subst e;rw [he];exact ah.lt_irrefl _
  ·exact ah.lt_asymm (this.1 j hj aa)
 ·rw [←he];exact g0 hr j (eE l k) aa hj
theorem wy{k:ah}(hr:rising l=true)(h:¬l[eE l k]?=some k):((eE l k:Nat):Int)=(aJ l k:Nat):=by
 have:=ze hr k
 have hle:=H7 l k
 rw [Dv hr (i:=eE l k) hle (fun j hj oh=>ah.lt_asymm (this.1 j hj oh)) (fun j hj oh=> ?_)]
 cases h1:k.lt l[j]
 ·have h2:l[j]=k:=ah.gW (this.2 j hj oh) h1
  by_cases e:j=eE l k
  ·subst e;exact absurd (by rw [List.getElem?_eq_getElem hj,h2]) h
  ·have h3:=g0 hr j (eE l k) aa hj
   rw [h2]at h3
   rw [this.2 (eE l k) aa (Nat.le_refl _)]at h3
   cases h3
 ·rfl
theorem wz(l:List ah)(k:ah)(i:Nat):aJ (l.take i) k≤i:=by
 refine Nat.le_trans (List.length_filter_le _ _) ?_
 simp;omega
theorem Co{k:ah}(h:i<l.length):aJ (l.take (i+1)) k=aJ (l.take i) k+if k.lt l[i]=true then 0 else 1:=by
 unfold aJ
 rw [List.take_succ_eq_append_getElem h,List.filter_append,List.length_append]
 cases hk:k.lt l[i]<;>simp [List.filter_cons,hk]
variable {i:Int}
theorem pg(h:i<0∨(l.length:Int)<i):ar l i=Span.zero:=by unfold ar;rw [if_pos h]
theorem oH(h:0≤i)(h':i≤(l.length:Int)):
  ar l i=Span.norm ⟨if 0<i then l.getD (i-1).toNat ah.nil else ah.nil,l.getD i.toNat ah.nil,decide ((l.length:Int)≤i)⟩:=by
 unfold ar;rw [if_neg aa]
variable {m:Int}
theorem Ut{k:Nat}{n:Int}(hk:k<l.length)(h:n≤m):kq (l.drop k) n m=kq (l.drop (k+1)) (n+((l[k]).b.size+1)) m:=by
 rw [List.drop_eq_getElem_cons hk,kq,if_pos h]
theorem Uu{n:Int}(h:¬n≤m):kq l n m=n:=by
 cases l with
 |nil=>rfl
 |cons a l=>rw [kq,if_neg h]
theorem Ir:∀ {l:List ah} {n m:Int},kq l n m≤m→n+l.length≤kq l n m
 |[],n,m,_=>by simp [kq]
 |s::l,n,m,h=>by
  rw [kq]at h⊢
  split
  ·rename_i hc
   rw [if_pos hc]at h
   have:=Ir h
   simp only [List.length_cons]
   omega
  ·rename_i hc
   rw [if_neg hc]at h
   omega
variable {α:Type}
theorem jO{l:List α}{i:Nat}{d:α}(h:i<l.length):l.getD i d=l[i]:=by simp [List.getD,List.getElem?_eq_getElem h]
theorem D4{l:List α}{i:Nat}{d:α}(h:l.length≤i):l.getD i d=d:=by simp [List.getD,List.getElem?_eq_none h]
theorem H8(h:0<i)(h':i<(l.length:Int))(a:(i-1).toNat<l.length)(b:i.toNat<l.length):Span.norm ⟨l[(i-1).toNat],l[i.toNat],false⟩=ar l i:=by
 rw [oH aa aa,if_pos h,jO (d:=ah.nil) a,jO (d:=ah.nil) b,decide_eq_false aa]
theorem H9(h:0<i)(h':¬i<(l.length:Int))(h2:i≤l.length)(a:(i-1).toNat<l.length):Span.norm ⟨l[(i-1).toNat],ah.nil,true⟩=ar l i:=by
 rw [oH aa aa,if_pos h,jO a,D4 aa,decide_eq_true aa]
theorem Ia(h0:¬i<0)(h:¬0<i)(h':i<(l.length:Int))(b:i.toNat<l.length):Span.norm ⟨ah.nil,l[i.toNat],false⟩=ar l i:=by
 rw [oH aa aa,if_neg h,jO b,decide_eq_false aa]
theorem Ib(h0:¬i<0)(h:¬0<i)(h':¬i<(l.length:Int))(h2:i≤l.length):Span.norm ⟨ah.nil,ah.nil,true⟩=ar l i:=by
 rw [oH aa aa,if_neg h,D4 aa,decide_eq_true aa]
variable {p:List ah}
theorem cE{n:Nat}(h:ee p n=true):rising p=true∧n=p.length+1:=by
 simpa [ee]using h
theorem kP(s:Span)(k:ah):s.norm.has k=s.has k:=by
 unfold Span.norm
 by_cases h:s.empty=true
 ·rw [if_pos h]
  simp only [Span.empty,Bool.and_eq_true,Bool.not_eq_true']at h
  have e1:Span.zero.has k=false:=by simp [Span.has,Span.zero,ah.nil_le]
  rw [e1]
  cases hk:s.has k
  ·rfl
  ·simp only [Span.has,h.1,Bool.false_or,Bool.and_eq_true,Bool.not_eq_true']at hk
   have:=ah.lt_of_le_of_lt hk.1 hk.2
   rw [h.2]at this;cases this
 ·rw [if_neg h]
  split
  ·rename_i ho;simp [Span.has,ho]
  ·rfl
theorem eL(hr:rising p=true)(k:ah)(hj:j≤p.length):(ar p (j:Int)).has k=decide (j=aJ p k):=by
 rw [oH aa aa,kP]
 have hrt:aJ p k≤p.length:=List.length_filter_le _ _
 obtain⟨h1,h2⟩:(∀i (h:i<p.length),i<aJ p k→k.lt p[i]=false)∧(∀i (h:i<p.length),aJ p k≤i→k.lt p[i]=true):=by
  have hl:=ze hr k
  by_cases hy:p[eE p k]?=some k
  ·have e:=tK hr hy
   obtain⟨iB,he⟩:=List.getElem?_eq_some_iff.1 hy
   refine⟨fun i h hi=> ?_,fun i h hi=> ?_⟩
   ·by_cases e2:i=eE p k
    ·subst e2;rw [he];exact ah.lt_irrefl _
    ·exact ah.lt_asymm (hl.1 i h aa)
   ·have h3:=g0 hr i (eE p k) aa h
    rw [he]at h3;exact h3
  ·have e:=wy hr hy
   refine⟨fun i h hi=>ah.lt_asymm (hl.1 i h aa),fun i h hi=> ?_⟩
   cases h1:k.lt p[i]
   ·have h2:p[i]=k:=ah.gW (hl.2 i h aa) h1
    have h3:i=eE p k:=by
     by_cases e2:eE p k<i
     ·have h4:=g0 hr i (eE p k) e2 h
      have h5:=hl.2 (eE p k) aa (Nat.le_refl _)
      rw [h2]at h4;rw [h4]at h5;cases h5
     ·omega
    subst h3
    exact absurd (by rw [List.getElem?_eq_getElem h,h2]) hy
   ·rfl
 rw [Bool.eq_iff_iff]
 simp only [Span.has,Bool.and_eq_true,Bool.not_eq_true',Bool.or_eq_true,decide_eq_true_eq]
 constructor
 ·rintro⟨ha,hb⟩
  have gx:j≤aJ p k:=by
   rcases Nat.lt_or_ge (aJ p k) j with iB|hge
   ·rw [if_pos aa,jO (d:=ah.nil) (by omega:((j:Int)-1).toNat<p.length)]at ha
    rw [h2 _ aa aa]at ha;cases ha
   ·exact hge
  have gz:aJ p k≤j:=by
   rcases hb with hb|hb
   ·omega
   ·rcases Nat.lt_or_ge j (aJ p k)with iB|hge
    ·rw [jO (d:=ah.nil) (by omega:(j:Int).toNat<p.length)]at hb
     rw [h1 _ aa aa]at hb;cases hb
    ·exact hge
  omega
 ·rintro rfl
  refine⟨?_,?_⟩
  ·split
   ·rw [jO (d:=ah.nil) aa];exact h1 _ aa aa
   ·exact ah.nil_le k
  ·by_cases he:aJ p k=p.length
   ·left;omega
   ·right
    rw [jO (d:=ah.nil) aa];exact h2 _ aa aa
end Go.Fw
namespace Go.Fw
open Go Go.RowKit
def rI (w:World):GH:=fun b=>w.heap[b]?
def Sy {α:Type} (P:Program) (t:TypeId) (e:dV α):Prop:=
 ∀ {H:Type} (enc:TypeId×Value→H) (w:World) (cR:Nat) (cs:List Value) (x:DataW H×List MemPlace),
  DataW.trod enc P w 0 (fun _=>true) true cR t cs=some x→(∀n∈x.1.weights P t,n≤140737488351232)→∃a,e.R (rI w) cs a
variable {P:Program} {t:TypeId}
theorem Td(ht:P.underlying t=some .string):Sy P t dg:=by
 intro H enc w cR cs x h hw
 obtain⟨s,rfl,rfl,hs⟩:=DataW.trod_string ht h
 have:=hw s.data.toList.length (by simp [DataW.weights])
 exact⟨⟨s,by simp at this;have e:s.size=s.data.size:=rfl;omega⟩,rfl⟩
theorem acZ{n:Int}(h:(Lit.int .i64 n).wf=true):i64 n:=by
 simp [Lit.wf,IntKind.min,IntKind.max,IntKind.bits,IntKind.signed]at h
 exact⟨aa,aa⟩
theorem Tf(ht:P.underlying t=some (.int .i64)):Sy P t bY:=by
 intro H enc w cR cs x h hw
 obtain⟨n,rfl,rfl,hn⟩:=DataW.trod_int ht h
 exact⟨n,rfl,acZ hn⟩
theorem ac0{w:World}{b o n:Nat}{cs:List Value}(h:w.cells? 0 ⟨b,o,none⟩ n=some cs)(hn:0<n):cs.length=n∧iD (rI w) b o cs:=by
 obtain⟨_,hl,hc⟩:=World.cells?_some h
 refine⟨hl,?_⟩
 have h0:∀j,j<cs.length→∃v,cs[j]?=some v∧w.cell? ⟨b,o+j,none⟩=some v:=fun j hj=>by
  have:=hc j aa
  rw [Addr.add_lit]at this
  exact⟨cs[j],List.getElem?_eq_getElem hj,by rw [this,List.getElem?_eq_getElem hj]⟩
 obtain⟨v0,_,hv0⟩:=h0 0 aa
 cases hb:w.heap[b]? with
 |none=>simp [World.cell?,hb]at hv0
 |some ob=>
  cases ob<;>simp [World.cell?,hb]at hv0
  rename_i c T fr
  refine⟨c,T,fr,hb,fun j hj=> ?_⟩
  obtain⟨v,e1,e2⟩:=h0 j hj
  simp [World.cell?,hb]at e2
  rw [e1,e2]
theorem wN{H:Type}{e:TypeId} :∀ {l:List (DataW H)} {d:DataW H},d∈l→∀n∈d.weights P e,n∈DataW.weightsAll P e l
 |[],_,h,_,_=>by cases h
 |a::l,d,h,n,hn=>by
  simp only [DataW.weightsAll,List.mem_append]
  rcases List.mem_cons.1 h with rfl|h
  ·exact .inl hn
  ·exact .inr (wN h n hn)
def KJ {α:Type} (P:Program) (t:TypeId) (e:dV α):Prop:=
 ∀ {H:Type} (enc:TypeId×Value→H) (w:World) (cR:Nat) (cs:List Value) (x:DataW H×List MemPlace),
  DataW.trod enc P w 0 (fun _=>true) true cR t cs=some x→(∀n∈x.1.weights P t,n≤140737488351232)→∃v l,cs=[v]∧ax e (rI w) v l
theorem qG{α:Type}{t':TypeId}{e:dV α}(ht:cB P t=some t')(hd:Sy P t' e)(hk:P.cellsOf t'=e.k)(hp:0<e.k)(hb:ig P t'=some e.w):KJ P t e:=by
 intro H enc w cR cs x h hw
 have hu:=cL ht
 have hbo:P.bytesOf t'=e.w:=by
  simp only [ig,Option.map_eq_some_iff]at hb
  obtain⟨i,h1,h2⟩:=hb
  simp [Program.bytesOf,h1,h2]
 rcases DataW.trod_slice hu h with⟨rfl,rfl⟩|⟨a,len,cap,ys,zs,n,hf,rfl,rfl,h1,h2,h3,h4,h5,h6,h7⟩
 ·exact⟨_,[],rfl,ax.nil⟩
 ·have Z8:(ys.length+zs.length)*e.w≤140737488351232:=by
   have h9:=hw (((ys.map (·.1)).length+(zs.map (·.1)).length)*P.bytesOf t') (by simp [DataW.weights,hu])
   simpa [hbo]using h9
  have hlen:ys.length≤140737488351232:=by
   have h8:ys.length≤(ys.length+zs.length)*e.w:=Nat.le_trans (Nat.le_add_right _ zs.length) (Nat.le_mul_of_pos_right _ e.KE)
   omega
  obtain⟨b,o,spot⟩:=a
  rw [hk]at h5
  have aDL:0<len→spot=none:=fun h0=>by
   have h8:=h5 0 h0
   rw [List.getElem?_eq_getElem aa,Option.bind_eq_some_iff]at h8
   obtain⟨cs,h9,eM⟩:=h8
   rw [Nat.zero_mul,Addr.add_zero']at h9
   obtain⟨_,hl,hc⟩:=World.cells?_some h9
   have qH:=hc 0 hp
   rw [Addr.add_zero',List.getElem?_eq_getElem aa]at qH
   exact World.cell?_spot qH
  have hel:∀i,i<len→∃a',∃cs,gf (rI w) (.slice (some ⟨b,o,spot⟩) len cap) e.k i cs∧e.R (rI w) cs a':=fun i hi=>by
   have h8:=h5 i hi
   rw [List.getElem?_eq_getElem aa,Option.bind_eq_some_iff]at h8
   obtain⟨cs,h9,eM⟩:=h8
   obtain⟨a',ha'⟩:=hd enc w n cs _ eM (fun m hm=>hw m (by
    simp only [DataW.weights,hu,List.mem_cons,List.mem_append]
    exact .inr (.inl (wN (List.mem_map_of_mem (List.getElem_mem (by omega:i<ys.length))) m hm))))
   obtain rfl:=aDL aa
   rw [Addr.add_lit]at h9
   obtain⟨_,dL⟩:=ac0 h9 hp
   exact⟨a',cs,⟨b,o,len,cap,rfl,dL⟩,ha'⟩
  obtain⟨l,hl,hL⟩:∃l:List α,l.length=len∧∀i (h:i<l.length),∃cs,gf (rI w) (.slice (some ⟨b,o,spot⟩) len cap) e.k i cs∧e.R (rI w) cs l[i]:=by
   have key:∀m,m≤len→∃l:List α,l.length=m∧∀i (h:i<l.length),∃cs,gf (rI w) (.slice (some ⟨b,o,spot⟩) len cap) e.k i cs∧e.R (rI w) cs l[i]:=by
    intro m
    induction m with
    |zero=>exact fun _=>⟨[],rfl,fun i h=>absurd h (by simp)⟩
    |succ m ih=>
     intro hm
     obtain⟨l,h8,h9⟩:=ih aa
     obtain⟨a',cs,eM,qH⟩:=hel m aa
     refine⟨l++[a'],by simp [h8],fun i h=> ?_⟩
     by_cases hi:i<l.length
     ·obtain⟨cs',dL,jc⟩:=h9 i hi
      exact⟨cs',dL,by rw [List.getElem_append_left hi];exact jc⟩
     ·have:i=m:=by simp at h;omega
      subst this
      exact⟨cs,eM,by rw [List.getElem_append_right aa];simpa [h8]using qH⟩
   exact key len (Nat.le_refl _)
  have h1':ys.length=l.length:=aa
  subst hl
  exact⟨_,l,rfl,some ⟨b,o,spot⟩,cap,rfl,h2,⟨h3,by rw [Nat.add_mul,h1']at Z8;omega⟩,(fun h=>nomatch h),hL⟩
theorem Fc.law{g:FuncId}{vs:List Value}{w:World}(h:Fc P g vs (rI w) [] (fun v _ _=>v=.bool true)):
  Calls P g vs.toArray w fun e w'=>e=.returned (.bool true)∧Below w.heap.size w w':=by
 have hw:Real w (fun b=>b∈(([]:MH).map (·.1))) (rI w) [] w:=⟨rfl,rfl,rfl,Nat.le_refl _,fun _ _ _=>rfl,fun _ _ h=>h,(fun _ h=>nomatch h),(fun _ h=>nomatch h),List.nodup_nil,(fun _ h=>nomatch h)⟩
 refine(h.2 w hw).mono ?_
 rintro e w' ⟨v,G',M',rfl,h1,h2,h3,rfl⟩
 exact⟨rfl,h1.os,h1.tape,h1.output,h1.size,fun k hk=>h1.tt k hk (fun h=>nomatch h)⟩
section
open Go.ChangeShapes Go.WideShapes Go.ChangeAt
open Go.ChangeMaps (open_string)
variable {H:Type} {enc:TypeId×Value→H} {P:Program} {W:World} {base:Nat} {t t':TypeId} {v:Value} {d:DataW H} {p:List MemPlace}
theorem agz(ht:P.underlying t=some .bool)(hv:Value.okWide P W .any base t v)(h:DataW.Trod enc P W 0 (fun _=>true) true t v d p):∃b,v=.bool b:=by
 obtain⟨x,rfl,_⟩:=open_bool ht hv h
 exact⟨x,rfl⟩
theorem ajZ(ht:P.underlying t=some .string)(hv:Value.okWide P W .any base t v)(h:DataW.Trod enc P W 0 (fun _=>true) true t v d p)(hw:∀n∈d.weights P t,n≤140737488351232):∃s:ah,v=.string s.b:=by
 obtain⟨s,rfl,rfl,_⟩:=open_string ht hv h
 have:=hw s.data.toList.length (by simp [DataW.weights])
 exact⟨⟨s,by simp at this;have e:s.size=s.data.size:=rfl;omega⟩,rfl⟩
variable {α:Type}
theorem Z6{e:dV α}(ht:cB P t=some t')(hd:KJ P t e)(hv:Value.okWide P W .any base t v)(h:DataW.Trod enc P W 0 (fun _=>true) true t v d p)(hw:∀n∈d.weights P t,n≤140737488351232):
  ∃l,ax e (rI W) v l:=by
 obtain⟨a,len,cap,rfl⟩:=okWide_slice (cL ht) hv
 obtain⟨cR,hf⟩:=h
 obtain⟨v',l,h1,h2⟩:=hd enc W cR _ _ hf hw
 simp [Value.cells]at h1
 subst h1
 exact⟨l,h2⟩
theorem arj{e:dV α}{fs:Array Field}(ht:P.underlying t=some (.struct fs))(hd:Sy P t e)(hv:Value.okWide P W .any base t v)(h:DataW.Trod enc P W 0 (fun _=>true) true t v d p)(hw:∀n∈d.weights P t,n≤140737488351232):
  ∃cs a,v=.agg (List.toArray cs)∧e.R (rI W) cs a:=by
 obtain⟨cs,rfl,_⟩:=okWide_struct ht hv
 obtain⟨cR,hf⟩:=h
 obtain⟨a,h1⟩:=hd enc W cR _ _ hf hw
 exact⟨cs.toList,a,by simp,by simpa [Value.cells]using h1⟩
end
end Go.Fw
namespace Go.Fw
variable {α:Type}
theorem DG{l:List α}{i:Nat}{d:α}(h:i<l.length):l.getD i d=l[i]:=by simp [h]
def gg (p:List ah) (c:List Int):List ah×List Int×ah×List ah×List Int×Bool:=
 if c.length<4∨p.length≠c.length-1 then([],[],ah.nil,[],[],false)
 else(p.take ((c.length+1) / 2-1),c.take ((c.length+1) / 2),p.getD ((c.length+1) / 2-1) ah.nil,p.drop ((c.length+1) / 2),c.drop ((c.length+1) / 2),true)
variable {p:List ah}
theorem DH{c:List Int}(h:c.length<4∨p.length≠c.length-1):gg p c=([],[],ah.nil,[],[],false):=if_pos h
theorem LI{c:List Int}(h:¬(c.length<4∨p.length≠c.length-1)):
  gg p c=(p.take ((c.length+1) / 2-1),c.take ((c.length+1) / 2),p[(c.length+1) / 2-1]'aa,p.drop ((c.length+1) / 2),c.drop ((c.length+1) / 2),true):=by
 rw [gg,if_neg h,DG aa]
variable {G:GH} {v:Value}
theorem ax.cast{e:dV α}{l l':List α}(h:ax e G v l)(he:l=l'):ax e G v l':=he▸h
theorem qD{n:Nat}(h:rising p=true)(h2:n=p.length+1):ee p n=true:=by simp [ee,h,h2]
theorem BV(h:rising p=true)(n:Nat):rising (p.take n)=true:=fO.2 fun i hi=>by
 simp at hi;simpa using fO.1 h i aa
theorem BW(h:rising p=true)(n:Nat):rising (p.drop n)=true:=fO.2 fun i hi=>by
 simp at hi;simpa [Nat.add_assoc]using fO.1 h (n+i) aa
theorem gf.form{k n:Nat}{cs:List Value}(h:gf G v k n cs):∃a len cap,v=.slice (some a) len cap:=by
 obtain⟨b,o,len,cap,h1,_⟩:=h
 exact⟨_,len,cap,h1⟩
end Go.Fw
namespace Go.Fw
open Go Go.RowKit
theorem hJ{a b:Bool}(h:a=true)(k:b=true):(a&&b)=true:=by rw [h,k];rfl
def pM (P:Program) (t:TypeId):Option (List (TypeId×Nat×Nat)):=match P.underlying t with
 |some (.struct fs)=>some (fs.toList.map fun f=>(f.type,f.offset,P.cellsOf f.type))
 |_=>none
variable {H:Type} {P:Program} {cs:List Value} {t:TypeId}
theorem z9{L:List (TypeId×Nat×Nat)}(hs:pM P t=some L){enc:TypeId×Value→H}{w:World}{cR:Nat}{x:DataW H×List MemPlace}
  (h:DataW.trod enc P w 0 (fun _=>true) true cR t cs=some x)(hw:∀n∈x.1.weights P t,n≤140737488351232):
  cs.length=P.cellsOf t∧∀(i:Nat) (ty:TypeId) (o k:Nat),L[i]?=some (ty,o,k)→∃y n,DataW.trod enc P w 0 (fun _=>true) true n ty ((cs.drop o).take k)=some y∧∀n∈y.1.weights P ty,n≤140737488351232:=by
 unfold pM at hs
 split at hs
 ·rename_i fs hu
  cases hs
  obtain⟨xs,n,rfl,rfl,hl,hlen,hf⟩:=DataW.trod_struct hu h
  refine⟨hl,fun i ty o k hi=> ?_⟩
  rw [List.getElem?_map,Option.map_eq_some_iff]at hi
  obtain⟨f,hfi,he⟩:=hi
  cases he
  have hfa:fs[i]?=some f:=by rw [←Array.getElem?_toList];exact hfi
  have h1:=hf i f hfa
  have hil:i<xs.length:=by rw [hlen];exact(Array.getElem?_eq_some_iff.1 hfa).1
  rw [List.getElem?_eq_getElem hil]at h1
  refine⟨xs[i],n,h1,fun m hm=>hw m ?_⟩
  show m∈DataW.weights P t (.agg _)
  unfold DataW.weights
  rw [hu]
  exact DataW.weights_mem_each (j:=i) (by rw [List.getElem?_map,hfi];rfl) (by rw [List.getElem?_map,List.getElem?_eq_getElem hil];rfl) m hm
 ·cases hs
variable {o:Nat}
theorem Aa{v:Value}(h:(cs.drop o).take 1=[v]):cs[o]?=some v:=by
 have:=congrArg (·[0]?) h
 simpa using this
theorem uO(ht:P.underlying t=some .string){enc:TypeId×Value→H}{w:World}{n:Nat}{y:DataW H×List MemPlace}
  (h:DataW.trod enc P w 0 (fun _=>true) true n t ((cs.drop o).take 1)=some y)(hw:∀n∈y.1.weights P t,n≤140737488351232):∃s:ah,cs[o]?=some (.string s.b):=by
 obtain⟨a,ha⟩:=Td ht enc w n _ y h hw
 exact⟨a,Aa ha⟩
theorem kF(ht:P.underlying t=some (.int .i64)){enc:TypeId×Value→H}{w:World}{n:Nat}{y:DataW H×List MemPlace}
  (h:DataW.trod enc P w 0 (fun _=>true) true n t ((cs.drop o).take 1)=some y)(hw:∀n∈y.1.weights P t,n≤140737488351232):∃a:Int,cs[o]?=some (.int .i64 a)∧i64 a:=by
 obtain⟨a,ha⟩:=Tf ht enc w n _ y h hw
 exact⟨a,Aa ha.1,ha.2⟩
theorem O6(ht:P.underlying t=some .bool){enc:TypeId×Value→H}{w:World}{n:Nat}{y:DataW H×List MemPlace}
  (h:DataW.trod enc P w 0 (fun _=>true) true n t ((cs.drop o).take 1)=some y):∃a:Bool,cs[o]?=some (.bool a):=by
 obtain⟨a,ha,_⟩:=DataW.trod_bool ht h
 exact⟨a,Aa ha⟩
theorem Ha{α:Type}{e:dV α}(hd:KJ P t e){enc:TypeId×Value→H}{w:World}{n:Nat}{y:DataW H×List MemPlace}
  (h:DataW.trod enc P w 0 (fun _=>true) true n t ((cs.drop o).take 1)=some y)(hw:∀n∈y.1.weights P t,n≤140737488351232):∃v l,cs[o]?=some v∧ax e (rI w) v l:=by
 obtain⟨v,l,ha,hl⟩:=hd enc w n _ y h hw
 exact⟨v,l,Aa ha,hl⟩
theorem agy{s:TypeId}(ht:pM P t=some [(s,0,1),(s,1,1)])(hs:P.underlying s=some .string)(hc:P.cellsOf t=2):Sy P t bA:=by
 intro H enc w cR cs x h hw
 obtain⟨hl,hf⟩:=z9 ht h hw
 obtain⟨y0,n0,t0,w0⟩:=hf 0 _ _ _ rfl
 obtain⟨y1,n1,t1,w1⟩:=hf 1 _ _ _ rfl
 obtain⟨a0,e0⟩:=uO hs t0 w0
 obtain⟨a1,e1⟩:=uO hs t1 w1
 rw [hc]at hl
 match cs,hl with
 |[_,_],_=>
  simp at e0 e1
  subst e0 e1
  exact⟨⟨a0,a1⟩,rfl⟩
variable {b:TypeId} {i:TypeId}
theorem ajY{s:TypeId}(ht:pM P t=some [(i,0,1),(i,1,1),(s,2,1),(s,3,1),(b,4,1),(s,5,1)])(hi:P.underlying i=some (.int .i64))(hs:P.underlying s=some .string)(hb:P.underlying b=some .bool)(hc:P.cellsOf t=6):Sy P t bQ:=by
 intro H enc w cR cs x h hw
 obtain⟨hl,hf⟩:=z9 ht h hw
 obtain⟨y0,n0,t0,w0⟩:=hf 0 _ _ _ rfl
 obtain⟨y1,n1,t1,w1⟩:=hf 1 _ _ _ rfl
 obtain⟨y2,n2,t2,w2⟩:=hf 2 _ _ _ rfl
 obtain⟨y3,n3,t3,w3⟩:=hf 3 _ _ _ rfl
 obtain⟨y4,n4,t4,w4⟩:=hf 4 _ _ _ rfl
 obtain⟨y5,n5,t5,w5⟩:=hf 5 _ _ _ rfl
 obtain⟨a0,e0,q0⟩:=kF hi t0 w0
 obtain⟨a1,e1,q1⟩:=kF hi t1 w1
 obtain⟨a2,e2⟩:=uO hs t2 w2
 obtain⟨a3,e3⟩:=uO hs t3 w3
 obtain⟨a4,e4⟩:=O6 hb t4
 obtain⟨a5,e5⟩:=uO hs t5 w5
 rw [hc]at hl
 match cs,hl with
 |[_,_,_,_,_,_],_=>
  simp at e0 e1 e2 e3 e4 e5
  subst e0 e1 e2 e3 e4 e5
  exact⟨⟨a0,a1,a2,a3,a4,a5⟩,rfl,q0,q1⟩
theorem agx{s tp tk tm tr:TypeId}(ht:pM P t=some [(i,0,1),(i,1,1),(tp,2,1),(tk,3,1),(s,4,1),(b,5,1),(i,6,1),(i,7,1),(tm,8,1),(tr,9,1)])(hi:P.underlying i=some (.int .i64))(hs:P.underlying s=some .string)(hb:P.underlying b=some .bool)
  (dp:KJ P tp dg)(dk:KJ P tk bY)(dm:KJ P tm bQ)(dr:KJ P tr bA)(hc:P.cellsOf t=10):Sy P t bU:=by
 intro H enc w cR cs x h hw
 obtain⟨hl,hf⟩:=z9 ht h hw
 obtain⟨y0,n0,t0,w0⟩:=hf 0 _ _ _ rfl
 obtain⟨y1,n1,t1,w1⟩:=hf 1 _ _ _ rfl
 obtain⟨y2,n2,t2,w2⟩:=hf 2 _ _ _ rfl
 obtain⟨y3,n3,t3,w3⟩:=hf 3 _ _ _ rfl
 obtain⟨y4,n4,t4,w4⟩:=hf 4 _ _ _ rfl
 obtain⟨y5,n5,t5,w5⟩:=hf 5 _ _ _ rfl
 obtain⟨y6,n6,t6,w6⟩:=hf 6 _ _ _ rfl
 obtain⟨y7,n7,t7,w7⟩:=hf 7 _ _ _ rfl
 obtain⟨y8,n8,t8,w8⟩:=hf 8 _ _ _ rfl
 obtain⟨y9,n9,t9,w9⟩:=hf 9 _ _ _ rfl
 obtain⟨a0,e0,q0⟩:=kF hi t0 w0
 obtain⟨a1,e1,q1⟩:=kF hi t1 w1
 obtain⟨v2,a2,e2,q2⟩:=Ha dp t2 w2
 obtain⟨v3,a3,e3,q3⟩:=Ha dk t3 w3
 obtain⟨a4,e4⟩:=uO hs t4 w4
 obtain⟨a5,e5⟩:=O6 hb t5
 obtain⟨a6,e6,q6⟩:=kF hi t6 w6
 obtain⟨a7,e7,q7⟩:=kF hi t7 w7
 obtain⟨v8,a8,e8,q8⟩:=Ha dm t8 w8
 obtain⟨v9,a9,e9,q9⟩:=Ha dr t9 w9
 obtain⟨p2,c2,rfl⟩:=q2.form
 obtain⟨p3,c3,rfl⟩:=q3.form
 obtain⟨p8,c8,rfl⟩:=q8.form
 obtain⟨p9,c9,rfl⟩:=q9.form
 rw [hc]at hl
 match cs,hl with
 |[_,_,_,_,_,_,_,_,_,_],_=>
  simp at e0 e1 e2 e3 e4 e5 e6 e7 e8 e9
  subst e0 e1 e2 e3 e4 e5 e6 e7 e8 e9
  exact⟨⟨a0,a1,a2,a3,a4,a5,a6,a7,a8,a9⟩,p2,c2,p3,c3,p8,c8,p9,c9,rfl,q2,q3,q8,q9,q0,q1,q6,q7⟩
section
open Go.ChangeShapes Go.WideShapes Go.ChangeAt
theorem Tc{H:Type}{enc:TypeId×Value→H}{P:Program}{W:World}{base:Nat}{t:TypeId}{v:Value}{d:DataW H}{p:List MemPlace}{α:Type}{e:dV α}{L:List (TypeId×Nat×Nat)}(ht:pM P t=some L)(hd:Sy P t e)(hv:Value.okWide P W .any base t v)(h:DataW.Trod enc P W 0 (fun _=>true) true t v d p)(hw:∀n∈d.weights P t,n≤140737488351232):
  ∃cs a,v=.agg (List.toArray cs)∧e.R (rI W) cs a:=by
 unfold pM at ht
 split at ht
 ·rename_i fs hu;exact arj hu hd hv h hw
 ·cases ht
end
structure aQ where
 bu:Int
 leaf:Int
 bud:Int
 aL:Int
 rest:Int
def aMU:dV aQ where
 k:=5
 w:=40
 R:=fun _ cs c=>cs=[.int .i64 c.bu,.int .i64 c.leaf,.int .i64 c.bud,.int .i64 c.aL,.int .i64 c.rest]∧i64 c.bu∧i64 c.leaf∧i64 c.bud∧i64 c.aL∧i64 c.rest
 mono:=fun _ h=>h
 len:=fun h=>by rw [h.1];rfl
 one:=fun h u hu=>by rw [h.1]at hu;simp at hu;rcases hu with rfl|rfl|rfl|rfl|rfl<;>rfl
theorem ajX{P:Program}{t i:TypeId}(ht:pM P t=some [(i,0,1),(i,1,1),(i,2,1),(i,3,1),(i,4,1)])(hi:P.underlying i=some (.int .i64))(hc:P.cellsOf t=5):Sy P t aMU:=by
 intro H enc w cR cs x h hw
 obtain⟨hl,hf⟩:=z9 ht h hw
 obtain⟨y0,n0,t0,w0⟩:=hf 0 _ _ _ rfl
 obtain⟨y1,n1,t1,w1⟩:=hf 1 _ _ _ rfl
 obtain⟨y2,n2,t2,w2⟩:=hf 2 _ _ _ rfl
 obtain⟨y3,n3,t3,w3⟩:=hf 3 _ _ _ rfl
 obtain⟨y4,n4,t4,w4⟩:=hf 4 _ _ _ rfl
 obtain⟨a0,e0,q0⟩:=kF hi t0 w0
 obtain⟨a1,e1,q1⟩:=kF hi t1 w1
 obtain⟨a2,e2,q2⟩:=kF hi t2 w2
 obtain⟨a3,e3,q3⟩:=kF hi t3 w3
 obtain⟨a4,e4,q4⟩:=kF hi t4 w4
 rw [hc]at hl
 match cs,hl with
 |[_,_,_,_,_],_=>
  simp at e0 e1 e2 e3 e4
  subst e0 e1 e2 e3 e4
  exact⟨⟨a0,a1,a2,a3,a4⟩,rfl,q0,q1,q2,q3,q4⟩
def ah.max (a b:ah):ah:=if a.lt b=true then b else a
def ah.min (a b:ah):ah:=if(a.lt b||decide (a=b))=true then a else b
section
variable {E:Env} {f:Fr} {G:GH} {M:MH} {d:Nat} {ty:TypeId} {pos:String} {aft:Array Edge} {t t':TypeId} {x y:Operand} {a b:ByteArray}
theorem tu(hx:ev f x=.string a)(hy:ev f y=.string b)(h:a.size+b.size≤9223372036854775807):Ok E f G M ⟨some d,.binOp .add t x y t',ty,pos,aft,none⟩ (.string (a++b)):=fun w _=>by
 have h2:¬(((a.size+b.size:Nat):Int)>IntKind.i64.max):=by simp [IntKind.max,IntKind.bits,IntKind.signed];omega
 simp only [execOp,hx,hy,eqGuard,binOp,Op.stringOp]
 rw [if_neg h2]
 simp
variable {nL:Array TypeId}
theorem aj5{a b:ah}(hx:ev f x=.string a.b)(hy:ev f y=.string b.b):
  Ok E f G M ⟨some d,.call { callee:=.builtin .max,args:= #[x,y],argTypes:=nL },ty,pos,aft,none⟩ (.string (ah.max a b).b):=fun _ _=>by
 simp [execOp,resolve,invoke,builtin,hx,hy,Builtin.max_,Builtin.max2,ah.max,ah.lt,blt,Op.stringOp,asBool]
 split<;>simp_all
theorem aj6{a b:ah}(hx:ev f x=.string a.b)(hy:ev f y=.string b.b):
  Ok E f G M ⟨some d,.call { callee:=.builtin .min,args:= #[x,y],argTypes:=nL },ty,pos,aft,none⟩ (.string (ah.min a b).b):=fun _ _=>by
 simp only [execOp,resolve,invoke,builtin,Builtin.min_,Builtin.min2,ah.min,ah.lt,blt,Op.stringOp,asBool,beq_toList]
 simp [hx,hy,Builtin.min2,Op.stringOp,asBool,beq_toList,←ah.dv]
 split<;>simp_all
end
def KK (p:Nat→Prop):List Nat→Prop
 |[]=>True
 |i::l=>p i∧KK p l
theorem KK.mem{p:Nat→Prop} :∀ {l:List Nat},KK p l→∀i∈l,p i
 |_::_,h,i,hi=>by
  rcases List.mem_cons.1 hi with rfl|hi
  ·exact h.1
  ·exact h.2.mem i hi
theorem W.sub{E:Env}{f:Fr}{G:GH}{M M':MH}{ops lo:List Oper}{K:Kt}(hs:M'.Sublist M)(h:W E ops.toArray false lo f G M' K):W E ops.toArray false lo f G M K:=fun a w Q hi hr hK=>h a w Q hi (hr.sub hs) hK
section
variable {E:Env} {f:Fr} {G:GH} {M Mk:MH} {ops:Array Oper} {K:Kt} {cR:Nat} {bF:Array Bool}
theorem WD.any(rs:List Nat)(hr:Region.ready .any ops bF=rs)(lR:rs.isEmpty=false)
  (h:KK (fun i=>∃o,ops[i]?=some o∧o.guard=none∧W E [o].toArray false [o] f G M (fun f' G' M'=>Le G G'∧Mk.Sublist M'∧∃qz,qz.Sublist M'∧Mk.Sublist qz∧WD E ops cR (bF.setIfInBounds i true) f' G' M' qz K)) rs):WD E ops (cR+1) bF f G M Mk K:=by
 intro mY a w Q hi hw hp hK
 refine wpAnyH_all hr (by intro e;subst e;cases lR) ?_
 intro j hj
 obtain⟨o,ho,hg,h⟩:=h.mem j hj
 have h1:=h a w (fun e a' w'=>e=.normal∧E.real G Mk w'∧wpAnyH E.P .any ops Q (E.real G Mk) cR (bF.setIfInBounds j true) a' w') hi hw (by
  rintro f' G' M' a' w' h2 h3 ⟨h4,h5,qz,h6,h7,h8⟩
  have h9:E.real G' Mk w':=⟨h3.r.sub h5,h3.le,h3.nw⟩
  refine⟨rfl,h9.Fo h4 hw.le,?_⟩
  refine vZ (S:=E.real G' qz) (fun w s9=> ?_) _ _ _ _ (h8 h6 a' w' Q h2 h3 hp hK)
  have eM:E.real G' Mk w:=⟨s9.r.sub h7,s9.le,s9.nw⟩
  exact eM.Fo h4 hw.le)
 unfold wpList at h1
 rw [if_pos (by simp [Region.wanted,hg])]at h1
 unfold wpOp
 simp only [ho]
 rw [if_pos (by simp [Region.wanted,hg])]
 rcases h1 with h1|⟨_,a1,w1,h1,_⟩
 ·left
  unfold Oper.wp at h1⊢
  exact Gb h1 (fun a' w' h2=>h2.2) (fun e a' w' he h2=>absurd h2.1 he)
 ·cases h1
end
def ah.cut (a:ah) (lo hi:Nat):ah:=⟨a.b.extract lo hi,by have:=a.le;rw [ByteArray.size_extract];omega⟩
section
variable {E:Env} {f:Fr} {G:GH} {M:MH} {d:Nat} {ty:TypeId} {pos:String} {aft:Array Edge} {t:TypeId} {x:Operand}
theorem qJ{a:ah}{lo hi:Option Operand}(l h:Nat)(ht:E.P.underlying t=some .string)(hx:ev f x=.string a.b)(gx:pL f 0 l lo)(gz:pL f a.b.size h hi)(mZ:l≤h∧h≤a.b.size):
  Ok E f G M ⟨some d,.slice t x lo hi none,ty,pos,aft,none⟩ (.string (a.cut l h).b):=fun w _=>by
 obtain⟨h1,h2⟩:=mZ
 have hb:(Instr.sliceBounds false a.b.size a.b.size (lo.map (ev f)) (hi.map (ev f)) none).run E.P w=.ok (l,h,a.b.size) w:=by
  cases lo with
  |none=>
   simp only [pL]at gx
   subst gx
   cases hi with
   |none=>simp only [pL]at gz;subst gz;simp [Instr.sliceBounds]
   |some y=>
    have:=jX (P:=E.P) (f:=f) (x:=y) (n:=h) (y:=a.b.size) (code:=.sliceAlen) gz aa w
    simp [Instr.sliceBounds,this]
  |some z=>
   have hz:=jX (P:=E.P) (f:=f) (x:=z) (n:=l) (y:=h) (code:=.sliceB) gx h1 w
   cases hi with
   |none=>simp only [pL]at gz;subst gz;simp [Instr.sliceBounds,hz]
   |some y=>
    have:=jX (P:=E.P) (f:=f) (x:=y) (n:=h) (y:=a.b.size) (code:=.sliceAlen) gz aa w
    simp [Instr.sliceBounds,this,hz]
 simp only [execOp,Instr.sliceAt,Instr.slice,Sem.run_bind,run_underlying ht,Result.andThen_ok,Option.map_none,hx]
 simp [run_underlying ht,hb,ah.cut]
end
end Go.Fw
namespace Go.Fw
open Go
theorem Ok.int{E:Env}{f:Fr}{G:GH}{M:MH}{o:Oper}{k:IntKind}{m n:Int}(h:Ok E f G M o (.int k m))(e:m=n):Ok E f G M o (.int k n):=e▸h
end Go.Fw
namespace Go.Fw
open Go Go.RowKit
section
variable {E:Env} {f:Fr} {G:GH} {M:MH} {ops rest:List Oper} {q:Bool} {K:Kt} {Q:Exit→Kt} {d:Nat} {ty:TypeId} {pos:String} {aft:Array Edge} {t t':TypeId} {x y:Operand}
theorem awH(a b:List UInt8):(!Op.bytesLess a b&& !(a==b))=Op.bytesLess b a:=by
 cases h1:Op.bytesLess a b
 ·cases h2:Op.bytesLess b a
  ·have:=oW h1 h2;subst this;simp
  ·have h3:a≠b:=by rintro rfl;rw [kl]at h2;cases h2
   simp [h3]
 ·cases h2:Op.bytesLess b a
  ·simp
  ·have:=oV h1 h2;rw [kl]at this;cases this
variable {a:ByteArray} {b:ByteArray}
theorem Ok.str{f:Fr}{G:GH}{M:MH}{o:Oper}(h:Ok E f G M o (.string a))(e:a=b):Ok E f G M o (.string b):=e▸h
theorem akf{t2:TypeId}(hx:ev f x=.string a)(hy:ev f y=.string b):Ok E f G M ⟨some d,.binOp .gtr t x y t2,ty,pos,aft,none⟩ (.bool (blt b a)):=fun _ _=>by
 simp [execOp,hx,hy,eqGuard,binOp,Op.stringOp,blt,awH]
variable {args:List Operand} {nL:Array TypeId} {caps:List Value} {fst:List Value} {g:FuncId} {vs:List Value}
theorem Bb{w:World}{dst:Option Nat}(hc:iA E.P g)(hx:ev f x=.func (.func g) fst.toArray caps.toArray)(ha:fst++(args.map (ev f)++caps)=vs):
  (execOp (ev f) ⟨dst,.call { callee:=.value x,args:=args.toArray,argTypes:=nL },ty,pos,aft,none⟩).run E.P w=.ok (.enter g vs.toArray) w:=by
 have h4:=hc (fst.toArray++(args.map (ev f)).toArray++caps.toArray) w
 have e:fst.toArray++(args.map (ev f)).toArray++caps.toArray=vs.toArray:=by rw [←ha];simp
 simp only [execOp,resolve,hx,Deferred.ofValue,Sem.run_bind,Sem.run_pure,Result.andThen_ok,invoke,List.map_toArray]
 rw [←e];exact h4
variable {v:Value}
theorem af9(hc:Fc E.P g vs G [] (fun v' _ _=>v'=v)){w:World}(hr:E.real G M w):Calls E.P g vs.toArray w fun e w'=>e=.returned v∧E.real G M w':=by
 have hw:Real w (fun b=>b∈(([]:MH).map (·.1))) G [] w:=⟨rfl,rfl,rfl,Nat.le_refl _,fun _ _ _=>rfl,hr.r.ro,(fun _ h=>nomatch h),(fun _ h=>nomatch h),List.nodup_nil,(fun _ h=>nomatch h)⟩
 refine(hc.2 w hw).mono ?_
 rintro e w' ⟨v',G',M',rfl,h2,h3,h4,rfl⟩
 have h5:=Real.call (Mp:=[]) (Mr:=M) (by simpa using hr.r) h2 h4
 have h6:Real E.w0 E.own G' M w':=h5.sub (List.sublist_append_right _ _)
 refine⟨rfl,Env.real.Fo (G':=G') ⟨h6,hr.le.trans h3,?_⟩ h3 hr.le⟩
 intro b hb jr
 cases hg:G b with
 |none=>
  rcases h4 b hg jr with h7|h7
  ·exact .inl (Nat.le_trans hr.r.size h7)
  ·simp at h7
 |some o=>exact hr.nw b hb (by simp [hg])
theorem W.nc(hx:ev f x=.func (.func g) fst.toArray caps.toArray)(hc:Fc E.P g vs G [] (fun v' _ _=>v'=v))(ha:fst++(args.map (ev f)++caps)=vs)
  (k:W E ops.toArray q rest (gw f d v) G M K)(hd:Nat.blt d E.n=true:=by rfl):
  W E ops.toArray q (⟨some d,.call { callee:=.value x,args:=args.toArray,argTypes:=nL },ty,pos,aft,none⟩::rest) f G M K:=by
 cases q
 ·intro a w Q hi hr hK
  refine wpList_plain rfl fun K' eA=> ?_
  unfold Oper.wp
  rw [hi.eval,Bb hc.1 hx ha]
  refine(af9 hc hr).mono ?_
  rintro e w' ⟨rfl,h⟩
  exact eA _ _ (k _ w' Q (hi.put hd v) h hK)
 ·intro a hi
  refine wpQuiet_step fun K' eA=> ?_
  rw [if_pos (by rfl)]
  refine⟨v,fun w hr=> ?_,eA _ (k _ (hi.put hd v))⟩
  unfold Oper.quietAt
  rw [hi.eval,Bb hc.1 hx ha]
  exact⟨rfl,af9 hc hr⟩
def sH (Ms:MH) (v:Value) (k n:Nat) (cs:List Value):Prop:=∃b len cap T cur,v=.slice (some ⟨b,0,none⟩) len cap∧Ms=[(b,Obj.cells cur T (0,0))]∧∀j,j<cs.length→cur[n*k+j]?=cs[j]?
variable {Ms:MH} {cs:List Value}
theorem sH.form{k n:Nat}(h:sH Ms v k n cs):∃a n c,v=.slice (some a) n c:=by
 obtain⟨b,len,cap,T,cur,rfl,_⟩:=h;exact⟨_,_,_,rfl⟩
theorem aP.at{α:Type}{e:dV α}{T:TypeId}{v:Value}{l:List α}{Ms:MH}(ho:aP e T G v l Ms){i:Nat}(hi:i<l.length):∃cs,sH Ms v e.k i cs∧e.R G cs l[i]:=by
 obtain⟨css,h1,⟨h2,h3⟩,h4⟩:=ho
 obtain⟨h5,h6⟩:=h1.spec
 obtain⟨cs,h7,h8⟩:=h6 i hi
 refine⟨cs,?_,h8⟩
 rcases h3 with⟨rfl,hn,_⟩|⟨b,cap,cur,rfl,h9,eM,qH,dL,rfl⟩
 ·omega
 ·refine⟨b,_,cap,T,cur,rfl,rfl,fun j hj=> ?_⟩
  have jc:=nI (k:=e.k) h1.lens h7 j hj
  have hk:cs.length=e.k:=h1.lens cs (List.mem_of_getElem? h7)
  have iB:i*e.k+j<l.length*e.k:=by
   have:(i+1)*e.k≤l.length*e.k:=Nat.mul_le_mul_right _ hi
   rw [Nat.add_mul]at this;omega
  rw [←jc,←dL,List.getElem?_take,if_pos iB]
  simp
variable {T:TypeId} {b:Bool} {i:Nat} {α:Type}
theorem aE{e:dV α}{l:List α}{k:IntKind}{m:Int}(ht:cB E.P t=some t')(hk:eC E.P t'=some (b,e.k))(ho:aP e T G v l Ms)(hx:ev f x=v)(hy:ev f y=.int k m)(hi:m=i∧i<l.length):
  Ok E f G M ⟨some d,.indexAddr t x y,ty,pos,aft,none⟩ (.pointer (some (j1 v e.k i 0))):=fun _ _=>by
 obtain⟨rfl,hi⟩:=hi
 obtain⟨css,h1,⟨h2,h3⟩,h4⟩:=ho
 rcases h3 with⟨rfl,hn,_⟩|⟨b,cap,cur,rfl,h9,eM,qH,dL,rfl⟩
 ·omega
 ·simp [execOp,hx,hy,Instr.indexAt,asIntOf,run_underlying (cL ht),hi,fp hk,j1,Addr.add_lit]
variable {B:MH} {j:Nat} {o:Nat}
theorem bM{kk:Nat}(ht:eC E.P t=some (b,j))(he:sH Ms v kk i cs)(hM:(Ms++B).Perm M)(hx:ev f x=.pointer (some (j1 v kk i o)))
  (hv:(cs.drop o).take j=vs)(hl:vs.length=j)(hb:b=false→j=1):Ok E f G M ⟨some d,.load t x,ty,pos,aft,none⟩ (AN b vs):=fun w hr=>by
 obtain⟨bb,len,cap,T,cur,rfl,rfl,hc⟩:=he
 subst hv
 have jr:w.heap[bb]?=some (.cells cur T (0,0)):=hr.r.mu (bb,.cells cur T (0,0)) ((hM.mem_iff).1 (by simp))
 have:=fX ht hb (w:=w) (a:=⟨bb,0+i*kk+o,none⟩) hl (fun j' v' rH=>by
  rw [Addr.add_lit]
  rw [List.getElem?_take]at rH
  split at rH
  ·rw [List.getElem?_drop]at rH
   have h1:=hc (o+j') (List.getElem?_eq_some_iff.1 rH).1
   rw [rH]at h1
   simp only [World.cell?,jr]
   rw [show 0+i*kk+o+j'=i*kk+(o+j')from by omega]
   exact h1
  ·cases rH)
 simp only [Nat.zero_add]at this
 simp [execOp,hx,Instr.loadAt,Instr.sureAddr,j1,this]
theorem ez.set{e:dV α}{G:GH}{a:α}(h:e.R G cs a):∀ {css:List (List Value)} {l:List α} {i:Nat},ez e G css l→i<l.length→ez e G (css.set i cs) (l.set i a)
 |[],[],_,_,hi=>absurd hi (Nat.not_lt_zero _)
 |_::_,_::_,0,h2,_=>⟨h,h2.2⟩
 |_::css,_::l,i+1,h2,hi=>⟨h2.1,ez.set h h2.2 (by simpa using hi)⟩
theorem wa{k:Nat} :∀ {css:List (List Value)} {i:Nat} {cs:List Value},(∀c∈css,c.length=k)→cs.length=k→i<css.length→(css.set i cs).flatten=css.flatten.take (i*k)++cs++css.flatten.drop (i*k+k)
 |c::css,0,cs,h,hc,_=>by
  have:=h c (by simp)
  simp only [List.set_cons_zero,List.flatten_cons,Nat.zero_mul,List.take_zero,List.nil_append,Nat.zero_add]
  rw [←this,List.drop_left]
 |c::css,i+1,cs,h,hc,hi=>by
  have h1:=h c (by simp)
  have h2:=wa (k:=k) (css:=css) (i:=i) (cs:=cs) (fun c hc=>h c (by simp [hc])) hc (by simpa using hi)
  simp only [List.set_cons_succ,List.flatten_cons]
  rw [h2,Nat.add_mul,Nat.one_mul]
  have e1:List.take (k+i*k) (c++css.flatten)=c++css.flatten.take (i*k):=by rw [←h1,List.take_length_add_append]
  have e2:List.drop (k+(i*k+k)) (c++css.flatten)=css.flatten.drop (i*k+k):=by rw [←h1,List.drop_length_add_append]
  rw [show i*k+k=k+i*k from by omega]at e2⊢
  rw [e1,show k+i*k+k=k+(k+i*k)from by omega,e2]
  simp
theorem awI(X vs:List α)(ik o j k N:Nat)(h1:vs.length=j)(h2:o+j≤k)(h3:ik+k≤N)(h4:N≤X.length):
   List.take N (X.take (ik+o)++vs++X.drop (ik+o+vs.length))=(X.take N).take ik++(((X.drop ik).take k).take o++vs++((X.drop ik).take k).drop (o+vs.length))++(X.take N).drop (ik+k):=by
  subst h1
  apply List.ext_getElem?
  intro p
  rcases Nat.lt_or_ge p ik with h|h
  ·simp (disch:=(first|omega|(simp only [List.length_append,List.length_take,List.length_drop];omega))) only [List.getElem?_append_left,List.getElem?_take_of_lt]
  · rcases Nat.lt_or_ge p (ik+o)with h5|h5
    · simp (disch:=(first|omega|(simp only [List.length_append,List.length_take,List.length_drop];omega))) only [List.getElem?_append_left,List.getElem?_append_right,List.getElem?_take_of_lt,List.getElem?_drop]
      congr 1;simp only [List.length_append,List.length_take,List.length_drop];omega
    · rcases Nat.lt_or_ge p (ik+o+vs.length)with h6|h6
      · simp (disch:=(first|omega|(simp only [List.length_append,List.length_take,List.length_drop];omega))) only [List.getElem?_append_left,List.getElem?_append_right,List.getElem?_take_of_lt,List.getElem?_drop]
        congr 1;simp only [List.length_append,List.length_take,List.length_drop];omega
      · rcases Nat.lt_or_ge p (ik+k)with h7|h7
        · simp (disch:=(first|omega|(simp only [List.length_append,List.length_take,List.length_drop];omega))) only [List.getElem?_append_left,List.getElem?_append_right,List.getElem?_take_of_lt,List.getElem?_drop]
          congr 1;simp only [List.length_append,List.length_take,List.length_drop];omega
        · rcases Nat.lt_or_ge p N with h8|h8
          · simp (disch:=(first|omega|(simp only [List.length_append,List.length_take,List.length_drop];omega))) only [List.getElem?_append_left,List.getElem?_append_right,List.getElem?_take_of_lt,List.getElem?_drop]
            congr 1;simp only [List.length_append,List.length_take,List.length_drop];omega
          ·rw [List.getElem?_eq_none (by simp only [List.length_append,List.length_take,List.length_drop];omega),List.getElem?_eq_none (by simp only [List.length_append,List.length_take,List.length_drop];omega)]
theorem W.dF{e:dV α}{z:Value}{l:List α}{a':α}{bb:Bool}(ht:eC E.P t=some (bb,j))(hx:ev f x=.pointer (some (j1 v e.k i o)))(hy:ev f y=z)(hv:z.cells.toList=vs)(hl:vs.length=j)(h1:vs.all Value.oneCell'=true)
  (ho:aP e T G v l Ms)(hM:(Ms++B).Perm M)(hi:i<l.length)(hoj:o+j≤e.k)(hR:∀cs,e.R G cs l[i]→e.R G (setAt cs o vs) a')
  (k:∀iw,aP e T G v (l.set i a') iw→W E ops.toArray false rest f G (iw++B) K):
  W E ops.toArray false (⟨none,.store t x y,ty,pos,aft,none⟩::rest) f G M K:=by
 intro a w Q BF hr0 hK
 have hr:=hr0.perm hM
 obtain⟨css,h2,⟨h3,h4⟩,h5⟩:=ho
 obtain⟨h6,h7⟩:=h2.spec
 obtain⟨cs,h8,h9⟩:=h7 i hi
 have lZ:cs.length=e.k:=h2.lens cs (List.mem_of_getElem? h8)
 rcases h4 with⟨rfl,hn,_⟩|⟨b,cap,cur,rfl,eM,qH,dL,jc,rfl⟩
 ·omega
 ·have hik:i*e.k+e.k≤l.length*e.k:=by
   have:(i+1)*e.k≤l.length*e.k:=Nat.mul_le_mul_right _ hi
   rw [Nat.add_mul]at this;omega
  have hck:l.length*e.k≤cap*e.k:=Nat.mul_le_mul_right _ eM
  have gY:cur.toList.length=cap*e.k:=by simpa using dL
  have jr:w.heap[b]?=some (.cells cur.toList.toArray T (0,0)):=by simpa using hr.r.mu (b,.cells cur T (0,0)) (by simp)
  have fc:(execOp (ev f) ⟨none,.store t x y,ty,pos,aft,none⟩).run E.P w=.ok .skip (w.setRow b (setAt cur.toList (i*e.k+o) vs).toArray):=by
   have q3:=run_storeCells_at E.P b (i*e.k+o) T vs 0 cur w (by simpa using jr) aa (vY h1)
   simp only [Nat.add_zero]at q3
   rw [←jf cur.toList (i*e.k+o) vs aa]at q3
   have q4:z.cells.size=j:=by rw [←hl,←hv];simp
   simp [execOp,hx,hy,Instr.storeAt,Instr.sureAddr,storeVar,fp ht,q4,hv,q3,j1]
  have Ig:setAt cs o vs=cs.take o++vs++cs.drop (o+vs.length):=jf cs o vs aa
  have ark:(setAt cs o vs).length=e.k:=by rw [s8 cs o vs aa,lZ]
  refine wpList_plain rfl fun K' eA=> ?_
  unfold Oper.wp
  rw [BF.eval,fc]
  refine eA _ _ (k [(b,.cells (setAt cur.toList (i*e.k+o) vs).toArray T (0,0))] ⟨css.set i (setAt cs o vs),ez.set (hR cs h9) h2 hi,⟨?_,.inr ⟨b,cap,_,by simp,by simpa using eM,qH,?_,?_,rfl⟩⟩,by simpa using h5⟩ _ _ Q (BF.tL undef) (j0 hr) hK)
  ·rw [wa h2.lens ark aa]
   simp only [List.length_append,List.length_take,List.length_drop,ark,h3,List.length_set]
   omega
  ·simp only [List.size_toArray]
   rw [s8 _ _ _ aa,gY]
  ·rw [wa h2.lens ark aa,Ig]
   have rN:css.flatten=cur.toList.take (l.length*e.k):=jc.symm
   have PC:cs=(cur.toList.drop (i*e.k)).take e.k:=by
    apply List.ext_getElem?
    intro p
    rw [List.getElem?_take,List.getElem?_drop]
    by_cases hp:p<e.k
    ·have:=nI (k:=e.k) h2.lens h8 p aa
     rw [if_pos hp,←this,rN,List.getElem?_take,if_pos aa]
    ·rw [if_neg hp,List.getElem?_eq_none aa]
   simp only [List.toList_toArray,List.length_set]
   rw [jf _ _ _ aa,rN,PC]
   exact awI cur.toList vs (i*e.k) o j e.k (l.length*e.k) hl hoj hik aa
end
section
variable {E:Env} {f:Fr} {G:GH} {M Mk:MH} {ops:Array Oper} {K:Kt} {cR:Nat} {bF:Array Bool}
variable {a:Act} {b:Bool} {j:Nat} {o:Oper} {want:Bool}
theorem BG{dj:Nat}(hg:o.guard=some (j,want))(hj:(ops[j]?).bind (·.dst)=some dj)(hb:f dj=.bool b)(AP:Nat.blt dj E.n=true)(hi:Is E.n a f):Region.wanted o (yielded ops a.tmps)=(b==want):=by
 have hl:dj<a.tmps.size:=by rw [hi.size];have h1:=AP;simp [Nat.blt]at h1;omega
 have:=hi.get dj
 rw [Array.getD_eq_getD_getElem?,hb,Array.getElem?_eq_getElem hl]at this
 simp at this
 simp only [Region.wanted,hg,yielded,hj,Option.bind_some,Array.getElem?_eq_getElem hl,this]
 cases b<;>cases want<;>rfl
variable {d:Nat}
theorem WD.ayJ(i dj:Nat){v:Value}(ho:ops[i]?=some o)(O4:o.dst=some d)(hg:o.guard=some (j,want))(hj:(ops[j]?).bind (·.dst)=some dj)(hb:f dj=.bool b)(hw:b=want)(hs:Region.noSelect ops=true)(hf:Region.free .any ops bF i=true)
  (hr:(Region.ready .any ops bF).contains i=true)(nJ:Ok E f G Mk ⟨some d,o.op,o.type,o.pos,o.after,none⟩ v)(h:WD E ops cR (bF.setIfInBounds i true) (gw f d v) G M Mk K)(hd:Nat.blt d E.n=true:=by rfl)(AP:Nat.blt dj E.n=true:=by rfl):WD E ops (cR+1) bF f G M Mk K:=by
 intro mY a w Q hi s9 hp hK
 have hS:E.real G Mk w:=⟨s9.r.sub mY,s9.le,s9.nw⟩
 refine wpAnyH_take ho hs hf hr (fun c a w h=>absurd h (hp _ _ _)) (v:=v) ?_ hS ?_
 ·refine .inl ⟨by rw [BG hg hj hb AP hi,hw];cases want<;>rfl,fun w' s9=> ?_⟩
  rw [hi.eval]
  have:=nJ w' s9
  obtain⟨o1,o2,o3,o4,o5,o6⟩:=o
  cases O4
  exact this
 ·rw [O4]
  exact h mY _ w Q (hi.put hd v) s9 hp hK
theorem WD.takeN(i dj:Nat)(ho:ops[i]?=some o)(O4:o.dst=some d)(hg:o.guard=some (j,want))(hj:(ops[j]?).bind (·.dst)=some dj)(hb:f dj=.bool b)(hw:b= !want)(hs:Region.noSelect ops=true)(hf:Region.free .any ops bF i=true)
  (hr:(Region.ready .any ops bF).contains i=true)(h:WD E ops cR (bF.setIfInBounds i true) (gw f d undef) G M Mk K)(hd:Nat.blt d E.n=true:=by rfl)(AP:Nat.blt dj E.n=true:=by rfl):WD E ops (cR+1) bF f G M Mk K:=by
 intro mY a w Q hi s9 hp hK
 have hS:E.real G Mk w:=⟨s9.r.sub mY,s9.le,s9.nw⟩
 refine wpAnyH_take ho hs hf hr (fun c a w h=>absurd h (hp _ _ _)) (v:=undef) ?_ hS ?_
 ·exact .inr ⟨by rw [BG hg hj hb AP hi,hw];cases want<;>rfl,rfl⟩
 ·rw [O4]
  exact h mY _ w Q (hi.put hd undef) s9 hp hK
theorem WD.sp(dj:Nat)(hb:f dj=.bool b)(ht:b=true→WD E ops cR bF f G M Mk K)(hf:b=false→WD E ops cR bF f G M Mk K):WD E ops cR bF f G M Mk K:=by
 cases b
 ·exact hf rfl
 ·exact ht rfl
theorem YF{P:Program}{o1:Option Nat}{o2:Op}{o3:TypeId}{o4:String}{o5:Array Edge}{g g':Option (Nat×Bool)}{nx:Act→World→Prop}{Q:Exit→Act→World→Prop}{r:Result Next}(h:(⟨o1,o2,o3,o4,o5,g⟩:Oper).upon P a nx Q r):(⟨o1,o2,o3,o4,o5,g'⟩:Oper).upon P a nx Q r:=by
 cases r with
 |ok n w'=>cases n<;>exact h
 |halt x w'=>cases x<;>exact h
def GY (n:Nat) (f:Fr) (ops:Array Oper) (o:Oper):Prop:=o.guard=none∨∃j dj want b,o.guard=some (j,want)∧(ops[j]?).bind (·.dst)=some dj∧f dj=.bool b∧b=want∧Nat.blt dj n=true
theorem WD.jB(rs:List Nat)(hr:Region.ready .any ops bF=rs)(lR:rs.isEmpty=false)
  (h:KK (fun i=>∃o,ops[i]?=some o∧GY E.n f ops o∧W E [(⟨o.dst,o.op,o.type,o.pos,o.after,none⟩:Oper)].toArray false [(⟨o.dst,o.op,o.type,o.pos,o.after,none⟩:Oper)] f G M (fun f' G' M'=>Le G G'∧Mk.Sublist M'∧∃qz,qz.Sublist M'∧Mk.Sublist qz∧WD E ops cR (bF.setIfInBounds i true) f' G' M' qz K)) rs):WD E ops (cR+1) bF f G M Mk K:=by
 intro mY a w Q hi hw hp hK
 refine wpAnyH_all hr (by intro e;subst e;cases lR) ?_
 intro j hj
 obtain⟨o,ho,hg,h⟩:=h.mem j hj
 have aDM:Region.wanted o (yielded ops a.tmps)=true:=by
  rcases hg with hg|⟨j',dj,want,b,g1,g2,g3,g4,g5⟩
  ·simp [Region.wanted,hg]
  ·rw [BG g1 g2 g3 g5 hi,g4];cases want<;>rfl
 have h1:=h a w (fun e a' w'=>e=.normal∧E.real G Mk w'∧wpAnyH E.P .any ops Q (E.real G Mk) cR (bF.setIfInBounds j true) a' w') hi hw (by
  rintro f' G' M' a' w' h2 h3 ⟨h4,h5,qz,h6,h7,h8⟩
  have h9:E.real G' Mk w':=⟨h3.r.sub h5,h3.le,h3.nw⟩
  refine⟨rfl,h9.Fo h4 hw.le,?_⟩
  refine vZ (S:=E.real G' qz) (fun w s9=> ?_) _ _ _ _ (h8 h6 a' w' Q h2 h3 hp hK)
  have eM:E.real G' Mk w:=⟨s9.r.sub h7,s9.le,s9.nw⟩
  exact eM.Fo h4 hw.le)
 unfold wpList at h1
 rw [if_pos (by simp [Region.wanted])]at h1
 unfold wpOp
 simp only [ho]
 rw [if_pos aDM]
 rcases h1 with h1|⟨_,a1,w1,h1,_⟩
 ·left
  unfold Oper.wp at h1⊢
  obtain⟨o1,o2,o3,o4,o5,o6⟩:=o
  exact Gb (YF h1) (fun a' w' h2=>h2.2) (fun e a' w' he h2=>absurd h2.1 he)
 ·cases h1
end
def jL:Value→Nat
 | .slice _ _ c=>c
 |_=>0
def fm {α:Type} (e:dV α) (T:TypeId) (G:GH) (v:Value) (n:Nat) (P:List α) (ld:Nat) (S:List α) (Ms:MH):Prop:=
 ∃b cap cur cp cs,v=.slice (some ⟨b,0,none⟩) n cap∧Ms=[(b,Obj.cells cur T (0,0))]∧ez e G cp P∧ez e G cs S∧P.length+ld+S.length=n∧n≤cap∧cap≤maxLen∧cur.size=cap*e.k∧
  cur.toList.take (P.length*e.k)=cp.flatten∧(cur.toList.drop ((P.length+ld)*e.k)).take (S.length*e.k)=cs.flatten∧n*e.w≤140737488355328
def Src {α:Type} (e:dV α) (E:Env) (G:GH) (M:MH) (u:Value) (Q:List α):Prop:=
 ∃a c css,u=.slice a Q.length c∧ez e G css Q∧(a=none→Q=[])∧∀w,E.real G M w→∀ad,a=some ad→∀j v,css.flatten[j]?=some v→w.cell? (ad.add j)=some v
section
variable {E:Env} {f:Fr} {G G':GH} {M:MH} {ops rest:List Oper} {q:Bool} {K:Kt} {Q:Exit→Kt} {d:Nat} {ty:TypeId} {pos:String} {aft:Array Edge} {t t':TypeId} {x y:Operand}
variable {α:Type} {e:dV α} {T:TypeId} {v:Value} {l P S:List α} {Ms B:MH} {n ld:Nat}
theorem ez.zf:∀ {css:List (List Value)} {l:List α} (n:Nat),ez e G css l→ez e G (css.take n) (l.take n)
 |[],[],n,_=>by simp [ez]
 |_::_,_::_,0,_=>by simp [ez]
 |_::_,_::_,n+1,h=>⟨h.1,ez.zf n h.2⟩
theorem ez.zg:∀ {css:List (List Value)} {l:List α} (n:Nat),ez e G css l→ez e G (css.drop n) (l.drop n)
 |[],[],n,_=>by simp [ez]
 |_::_,_::_,0,h=>h
 |_::_,_::_,n+1,h=>ez.zg n h.2
theorem ml{k:Nat} :∀ {css:List (List Value)} (n:Nat),(∀c∈css,c.length=k)→(css.take n).flatten=css.flatten.take (n*k)
 |[],n,_=>by simp
 |c::css,0,h=>by simp
 |c::css,n+1,h=>by
  have h1:=h c (by simp)
  rw [List.take_succ_cons,List.flatten_cons,List.flatten_cons,ml n (fun c hc=>h c (by simp [hc])),Nat.add_mul,Nat.one_mul,←h1,Nat.add_comm,List.take_length_add_append]
theorem wb{k:Nat} :∀ {css:List (List Value)} (n:Nat),(∀c∈css,c.length=k)→(css.drop n).flatten=css.flatten.drop (n*k)
 |[],n,_=>by simp
 |c::css,0,h=>by simp
 |c::css,n+1,h=>by
  have h1:=h c (by simp)
  rw [List.drop_succ_cons,List.flatten_cons,wb n (fun c hc=>h c (by simp [hc])),Nat.add_mul,Nat.one_mul,←h1,Nat.add_comm,List.drop_length_add_append]
theorem aP.open(ho:aP e T G v l Ms)(h:0<l.length):fm e T G v l.length l 0 [] Ms:=by
 obtain⟨css,h1,⟨h2,h3⟩,h4⟩:=ho
 rcases h3 with⟨_,hn,_⟩|⟨b,cap,cur,rfl,h5,h6,h7,h8,rfl⟩
 ·omega
 ·exact⟨b,cap,cur,css,[],rfl,rfl,h1,trivial,by simp,h5,h6,h7,h8,by simp,h4⟩
theorem fm.own(h:fm e T G v n P 0 S Ms):aP e T G v (P++S) Ms:=by
 obtain⟨b,cap,cur,cp,cs,rfl,rfl,h3,h4,h5,h6,h7,h8,h9,eM,qH⟩:=h
 have hn:(P++S).length=n:=by simp;omega
 have hp:=h3.fq
 have hs:=h4.fq
 refine⟨cp++cs,h3.append h4,⟨?_,.inr ⟨b,cap,cur,by rw [hn],by rw [hn];exact h6,h7,h8,?_,rfl⟩⟩,by rw [hn];exact qH⟩
 ·simp only [List.flatten_append,List.length_append,hp,hs,Nat.add_mul]
 ·rw [List.flatten_append,←h9,←eM,List.length_append,Nat.add_mul,List.take_add]
  simp
theorem fm.eD(h:fm e T G v n P ld S Ms):n≤jL v:=by
 obtain⟨b,cap,cur,cp,cs,rfl,rfl,h3,h4,h5,h6,h7⟩:=h;exact h6
variable {m:Nat}
theorem fm.extend(h:fm e T G v n P 0 [] Ms)(hm:n+m≤jL v)(hw:(n+m)*e.w≤140737488355328)(h0:0<n):fm e T G (dU v e.k 0 (n+m)) (n+m) P m [] Ms:=by
 obtain⟨b,cap,cur,cp,cs,rfl,rfl,h3,h4,h5,h6,h7,h8,h9,eM,qH⟩:=h
 simp only [jL]at hm
 refine⟨b,cap,cur,cp,[],?_,rfl,h3,trivial,by simp at h5⊢;omega,hm,h7,h8,h9,by simp,hw⟩
 simp only [dU]
 rw [if_neg aa]
 simp [Addr.add_lit]
theorem KL(z:Array Value)(n:Nat):(madeCells z (n*z.size)).toList=(List.replicate n z.toList).flatten:=by
 apply List.ext_getElem?
 intro j
 simp only [madeCells,Array.toList_map,Array.toList_range,List.getElem?_map]
 by_cases hj:j<n*z.size
 ·have hz:0<z.size:=by
   rcases Nat.eq_zero_or_pos z.size with h|h
   ·simp [h]at hj
   ·exact h
  have hd:j / z.size<n:=(Nat.div_lt_iff_lt_mul hz).2 hj
  have hm:j % z.size<z.size:=Nat.mod_lt _ hz
  have h1:=nI (k:=z.size) (css:=List.replicate n z.toList) (i:=j / z.size) (cs:=z.toList) (fun c hc=>by rw [List.eq_of_mem_replicate hc];simp) (by simp [hd]) (j % z.size) (by simpa using hm)
  rw [show j / z.size*z.size+j % z.size=j from by rw [Nat.mul_comm];exact Nat.div_add_mod j z.size]at h1
  rw [h1]
  simp [hj,hm,getElem!_pos]
 ·have h2:(List.replicate n z.toList).flatten.length=n*z.size:=by simp
  rw [List.getElem?_eq_none (by simpa using hj),List.getElem?_eq_none (by rw [h2];omega)]
  rfl
theorem Gs(z:Array Value)(n:Nat):(Builtin.zeroCells z n).toList=(List.replicate n z.toList).flatten:=KL z n
variable {ad:Option Addr} {bb:Bool} {cap:Nat} {lo:Option Operand}
theorem qM{n:Nat}{k:Nat}{hi:Option Operand}(a b:Nat)(ht:cB E.P t=some t')(hk:eC E.P t'=some (bb,k))(hx:ev f x=.slice ad n cap)(gx:pL f 0 a lo)(gz:pL f n b hi)(mZ:a≤b∧b≤cap):
  Ok E f G M ⟨some d,.slice t x lo hi none,ty,pos,aft,none⟩ (dU (.slice ad n cap) k a b):=fun w _=>by
 obtain⟨h1,h2⟩:=mZ
 have hb:(Instr.sliceBounds true n cap (lo.map (ev f)) (hi.map (ev f)) none).run E.P w=.ok (a,b,cap) w:=by
  cases lo with
  |none=>
   simp only [pL]at gx
   subst gx
   cases hi with
   |none=>simp only [pL]at gz;subst gz;simp [Instr.sliceBounds]
   |some y=>
    have:=jX (P:=E.P) (f:=f) (x:=y) (n:=b) (y:=cap) (code:=.sliceAcap) gz aa w
    simp [Instr.sliceBounds,this]
  |some z=>
   have hz:=jX (P:=E.P) (f:=f) (x:=z) (n:=a) (y:=b) (code:=.sliceB) gx h1 w
   cases hi with
   |none=>simp only [pL]at gz;subst gz;simp [Instr.sliceBounds,hz]
   |some y=>
    have:=jX (P:=E.P) (f:=f) (x:=y) (n:=b) (y:=cap) (code:=.sliceAcap) gz aa w
    simp [Instr.sliceBounds,this,hz]
 simp only [execOp,Instr.sliceAt,Instr.slice,Sem.run_bind,run_underlying (cL ht),Result.andThen_ok,Option.map_none,hx]
 simp [run_underlying (cL ht),hb,fp hk,dU]
theorem er{hi:Option Operand}(a b:Nat)(ht:cB E.P t=some t')(hk:eC E.P t'=some (bb,e.k))(ho:fm e T G v n P ld S Ms)(hx:ev f x=v)(gx:pL f 0 a lo)(gz:pL f n b hi)(mZ:a≤b∧b≤jL v):
  Ok E f G M ⟨some d,.slice t x lo hi none,ty,pos,aft,none⟩ (dU v e.k a b):=by
 obtain⟨bl,cap,cur,cp,cs,rfl,rfl,_⟩:=ho
 exact qM a b ht hk hx gx gz mZ
theorem ei{hi:Option Operand}(a b:Nat)(ht:cB E.P t=some t')(hk:eC E.P t'=some (bb,e.k))(ho:aP e T G v l Ms)(hx:ev f x=v)(gx:pL f 0 a lo)(gz:pL f l.length b hi)(mZ:a≤b∧(b≤l.length∨b≤jL v)):
  Ok E f G M ⟨some d,.slice t x lo hi none,ty,pos,aft,none⟩ (dU v e.k a b):=by
 obtain⟨css,h1,⟨h2,h3⟩,h4⟩:=ho
 rcases h3 with⟨rfl,hn,_⟩|⟨bl,cap,cur,rfl,h5,h6,h7,h8,rfl⟩
 ·rw [hn]at gz
  refine qM a b ht hk hx gx gz ⟨mZ.1,?_⟩
  rcases mZ.2 with h|h
  ·omega
  ·exact h
 ·refine qM a b ht hk hx gx gz ⟨mZ.1,?_⟩
  rcases mZ.2 with h|h
  ·omega
  ·exact h
theorem aac{n:Nat}{k:Nat}{lo hi mx:Operand}(a b c:Nat)(ht:cB E.P t=some t')(hk:eC E.P t'=some (bb,k))(hx:ev f x=.slice ad n cap)(gx:pL f 0 a (some lo))(gz:pL f n b (some hi))(hmx:pL f cap c (some mx))(mZ:a≤b∧b≤c∧c≤cap):
  ∃u,Ok E f G M ⟨some d,.slice t x (some lo) (some hi) (some mx),ty,pos,aft,none⟩ u:=by
 refine⟨.slice (if c=a then ad else ad.map (·.add (a*k))) (b-a) (c-a),fun w _=> ?_⟩
 obtain⟨h1,h2,h3⟩:=mZ
 have e1:=jX (P:=E.P) (f:=f) (x:=lo) (n:=a) (y:=b) (code:=.slice3C) gx h1 w
 have e2:=jX (P:=E.P) (f:=f) (x:=hi) (n:=b) (y:=c) (code:=.slice3B) gz h2 w
 have e3:=jX (P:=E.P) (f:=f) (x:=mx) (n:=c) (y:=cap) (code:=.slice3Acap) hmx h3 w
 have hb:(Instr.sliceBounds true n cap (some (ev f lo)) (some (ev f hi)) (some (ev f mx))).run E.P w=.ok (a,b,c) w:=by
  simp [Instr.sliceBounds,e1,e2,e3]
 simp only [execOp,Instr.sliceAt,Instr.slice,Sem.run_bind,run_underlying (cL ht),Result.andThen_ok,Option.map_some,hx]
 simp [run_underlying (cL ht),hb,fp hk]
theorem HE{c:Nat}(ht:cB E.P t=some t')(hx:ev f x=.slice ad m c):Ok E f G M ⟨some d,.call { callee:=.builtin .cap,args:= #[x],argTypes:= #[t] },ty,pos,aft,none⟩ (.int .i64 c):=fun _ _=>by
 simp [execOp,resolve,invoke,builtin,hx,Builtin.cap_,run_underlying (cL ht),goInt]
theorem aP.B7(ho:aP e T G v l Ms):∃a,v=.slice a l.length (jL v):=by
 obtain⟨a,c,rfl⟩:=ho.form;exact⟨a,rfl⟩
variable {b:Nat}
theorem Ab{o:Obj}(hM:([(b,o)]++B).Perm M){w:World}(hw:E.real G M w):w.heap[b]?=some o:=hw.r.mu (b,o) (hM.mem_iff.1 (by simp))
variable {lo:Nat}
theorem Src.HF(ho:aP e T G v l Ms)(hM:(Ms++B).Perm M)(gx:lo≤l.length)(h0:0<l.length):Src e E G M (dU v e.k lo l.length) (l.drop lo):=by
 obtain⟨css,h1,⟨h2,h3⟩,h4⟩:=ho
 rcases h3 with⟨_,hn,_⟩|⟨b,cap,cur,rfl,h5,h6,h7,h8,rfl⟩
 ·omega
 ·refine⟨if cap=lo then some ⟨b,0,none⟩else some ⟨b,lo*e.k,none⟩,cap-lo,css.drop lo,?_,h1.zg lo,?_,?_⟩
  ·simp only [dU,List.length_drop,Option.map_some,Addr.add_lit,Nat.zero_add]
  ·intro h;split at h<;>cases h
  ·intro w hw ad KH j u hj
   rw [wb lo h1.lens,List.getElem?_drop]at hj
   have hb:=Ab hM hw
   have iB:=(List.getElem?_eq_some_iff.1 hj).1
   rw [h2]at iB
   have lR:¬cap=lo:=by
    intro e1;subst e1
    have:l.length=cap:=aa
    rw [this]at iB;omega
   rw [if_neg lR]at KH
   cases KH
   rw [Addr.add_lit]
   simp only [World.cell?,hb]
   rw [←h8,List.getElem?_take,if_pos iB]at hj
   simpa using hj
variable {cs:List Value} {o:Nat}
theorem KM{w:World}{dl dc:Nat}{a:Option Addr}{sl sc:Nat}{cur:Array Value}(ht:cB E.P t=some t')(hk:eC E.P t'=some (bb,e.k))(hg:w.heap[b]?=some (.cells cur T (0,0)))(hn:cs.length=Nat.min sl dl*e.k)
  (arl:∀ad,a=some ad→∀j v,cs[j]?=some v→w.cell? (ad.add j)=some v)(ha:a=none→cs=[])(U6:o+cs.length≤cur.size)(h1:∀v∈cs,v.oneCell'=true):
  ∃z,(Builtin.copy_ #[t,t] ty #[.slice (some ⟨b,o,none⟩) dl dc,.slice a sl sc]).run E.P w=.ok z (w.setRow b (cur.toList.take o++cs++cur.toList.drop (o+cs.length)).toArray):=by
 have ii:=run_storeCells_at E.P b o T cs 0 cur w hg (by simpa using U6) h1
 simp only [Nat.add_zero]at ii
 refine⟨goInt (Nat.min sl dl),?_⟩
 cases a with
 |none=>
  have PC:=ha rfl
  subst PC
  have h0:Nat.min sl dl*e.k=0:=by simpa using hn.symm
  simp only [List.length_nil,Nat.add_zero]at ii
  simp [Builtin.copy_,run_underlying (cL ht),fp hk,Builtin.lenOf,Builtin.firstCells,ii]
 |some ad=>
  have hl:=run_loadCells_list (P:=E.P) w ad cs (arl ad rfl)
  simp [Builtin.copy_,run_underlying (cL ht),fp hk,Builtin.lenOf,Builtin.firstCells,←hn,hl,ii]
theorem W.YG{w':World→World}{vx vy:Value}(hx:ev f x=vx)(hy:ev f y=vy){M':MH}(fc:∀w,E.real G M w→∃z,(Builtin.copy_ #[t,t] ty #[vx,vy]).run E.P w=.ok z (w' w)∧E.real G M' (w' w))
  (k:∀z,W E ops.toArray false rest (gw f d z) G M' K)(hd:Nat.blt d E.n=true:=by rfl):W E ops.toArray false (⟨some d,.call { callee:=.builtin .copy,args:= #[x,y],argTypes:= #[t,t] },ty,pos,aft,none⟩::rest) f G M K:=by
 intro a w Q hi hr hK
 obtain⟨z,h1,h2⟩:=fc w hr
 have fc:(execOp (ev f) ⟨some d,.call { callee:=.builtin .copy,args:= #[x,y],argTypes:= #[t,t] },ty,pos,aft,none⟩).run E.P w=.ok (.value z) (w' w):=by
  simp [execOp,resolve,invoke,builtin,hx,hy,h1]
 refine wpList_plain rfl fun K' eA=> ?_
 unfold Oper.wp
 rw [hi.eval,fc]
 exact eA _ _ (k z _ _ Q (hi.put hd z) h2 hK)
theorem gk{n k hi:Nat}(h:lo<cap∨lo=0):dU (.slice (some ⟨b,0,none⟩) n cap) k lo hi=.slice (some ⟨b,lo*k,none⟩) (hi-lo) (cap-lo):=by
 simp only [dU,Option.map_some,Addr.add_lit,Nat.zero_add]
 split
 ·rcases h with h|h
  ·omega
  ·subst h;simp
 ·rfl
variable {u:Value}
theorem W.u6{Q:List α}(p:Nat)(Ak:P.length=p)(ht:cB E.P t=some t')(hk:eC E.P t'=some (bb,e.k))(hp:fm e T G v n P ld S Ms)(hM:(Ms++B).Perm M)(hs:Src e E G M u Q)(hx:ev f x=dU v e.k p n)(hy:ev f y=u)(hq:Q.length≤ld)(h0:0<ld)
  (k:∀z iw,fm e T G v n (P++Q) (ld-Q.length) S iw→W E ops.toArray false rest (gw f d z) G (iw++B) K)(hd:Nat.blt d E.n=true:=by rfl):
  W E ops.toArray false (⟨some d,.call { callee:=.builtin .copy,args:= #[x,y],argTypes:= #[t,t] },ty,pos,aft,none⟩::rest) f G M K:=by
 subst Ak
 obtain⟨b,cap,cur,cp,cs,rfl,rfl,h3,h4,h5,h6,h7,h8,h9,eM,qH⟩:=hp
 obtain⟨a,c,css,rfl,g1,g2,g3⟩:=hs
 have lZ:=g1.fq
 have hPl:=h3.fq
 have sF:cur.toList.length=cap*e.k:=by simpa using h8
 have hle:(P.length+ld+S.length)*e.k≤cap*e.k:=Nat.mul_le_mul_right _ aa
 have hqk:Q.length*e.k≤ld*e.k:=Nat.mul_le_mul_right _ hq
 simp only [Nat.add_mul]at hle
 rw [gk aa]at hx
 refine W.YG (w':=fun w=>w.setRow b (cur.toList.take (P.length*e.k)++css.flatten++cur.toList.drop (P.length*e.k+css.flatten.length)).toArray) (M':=[(b,.cells (cur.toList.take (P.length*e.k)++css.flatten++cur.toList.drop (P.length*e.k+css.flatten.length)).toArray T (0,0))]++B) hx hy (fun w hw=> ?_) (fun z=>k z _ ?_) hd
 ·obtain⟨z,hz⟩:=KM (ty:=ty) (dl:=n-P.length) (dc:=cap-P.length) (sl:=Q.length) (sc:=c) (a:=a) (e:=e) (o:=P.length*e.k) ht hk (Ab hM hw) (by have hmn:Nat.min Q.length (n-P.length)=Q.length:=Nat.min_eq_left aa;rw [lZ,hmn]) (fun ad KH j v hj=>g3 w hw ad KH j v hj) (fun ha=>by have:=g2 ha;subst this;exact List.eq_nil_of_length_eq_zero (by simpa using lZ)) aa g1.one
  exact⟨z,hz,j0 (hw.perm hM)⟩
 ·refine⟨b,cap,_,cp++css,cs,rfl,rfl,h3.append g1,h4,by simp;omega,h6,h7,?_,?_,?_,qH⟩
  ·simp only [List.size_toArray,List.length_append,List.length_take,List.length_drop,sF,lZ];omega
  ·rw [List.toList_toArray,List.length_append,Nat.add_mul,List.flatten_append,←h9]
   have e1:(cur.toList.take (P.length*e.k)++css.flatten).length=P.length*e.k+Q.length*e.k:=by simp only [List.length_append,List.length_take,sF,lZ];omega
   rw [←e1,List.take_left]
  ·rw [List.toList_toArray,←eM,List.length_append]
   rw [show P.length+Q.length+(ld-Q.length)=P.length+ld from by omega]
   congr 1
   have e1:(cur.toList.take (P.length*e.k)++css.flatten).length=P.length*e.k+Q.length*e.k:=by simp only [List.length_append,List.length_take,sF,lZ];omega
   rw [List.drop_append,List.drop_eq_nil_of_le (by rw [e1,Nat.add_mul];omega),List.nil_append,List.drop_drop,e1,lZ]
   congr 1
   rw [Nat.add_mul];omega
variable {i:Nat}
theorem W.AZ(ht:cB E.P t=some t')(hk:eC E.P t'=some (bb,e.k))(hp:fm e T G v n P ld [] Ms)(hM:(Ms++B).Perm M)(hx:ev f x=dU v e.k (i+ld) n)(hy:ev f y=dU v e.k i n)(hi:i<P.length)
  (k:∀z iw,fm e T G v n (P.take i) ld (P.drop i) iw→W E ops.toArray false rest (gw f d z) G (iw++B) K)(hd:Nat.blt d E.n=true:=by rfl):
  W E ops.toArray false (⟨some d,.call { callee:=.builtin .copy,args:= #[x,y],argTypes:= #[t,t] },ty,pos,aft,none⟩::rest) f G M K:=by
 obtain⟨b,cap,cur,cp,cs,rfl,rfl,h3,h4,h5,h6,h7,h8,h9,eM,qH⟩:=hp
 simp only [List.length_nil,Nat.add_zero]at h5
 have hPl:=h3.fq
 have sF:cur.toList.length=cap*e.k:=by simpa using h8
 have hle:(P.length+ld)*e.k≤cap*e.k:=Nat.mul_le_mul_right _ aa
 have hik:i*e.k≤P.length*e.k:=Nat.mul_le_mul_right _ aa
 have Dg:(cp.drop i).flatten.length=(P.length-i)*e.k:=by rw [(h3.zg i).fq,List.length_drop]
 have mY:(P.length-i)*e.k=P.length*e.k-i*e.k:=Nat.sub_mul _ _ _
 simp only [Nat.add_mul]at hle
 rw [gk aa]at hx hy
 refine W.YG (w':=fun w=>w.setRow b (cur.toList.take ((i+ld)*e.k)++(cp.drop i).flatten++cur.toList.drop ((i+ld)*e.k+(cp.drop i).flatten.length)).toArray) (M':=[(b,.cells (cur.toList.take ((i+ld)*e.k)++(cp.drop i).flatten++cur.toList.drop ((i+ld)*e.k+(cp.drop i).flatten.length)).toArray T (0,0))]++B) hx hy (fun w hw=> ?_) (fun z=>k z _ ?_) hd
 ·have hb:=Ab hM hw
  obtain⟨z,hz⟩:=KM (ty:=ty) (dl:=n-(i+ld)) (dc:=cap-(i+ld)) (sl:=n-i) (sc:=cap-i) (a:=some ⟨b,i*e.k,none⟩) (e:=e) (o:=(i+ld)*e.k) ht hk hb (by have hmn:Nat.min (n-i) (n-(i+ld))=n-(i+ld):=Nat.min_eq_right aa;rw [Dg,hmn];congr 1;omega) (fun ad KH j v hj=>by
   cases KH
   rw [Addr.add_lit]
   simp only [World.cell?,hb]
   rw [wb i h3.lens,List.getElem?_drop,←h9,List.getElem?_take]at hj
   split at hj
   ·simpa using hj
   ·cases hj) (fun ha=>by cases ha) (by rw [Dg,Nat.add_mul,h8];omega) (h3.zg i).one
  exact⟨z,hz,j0 (hw.perm hM)⟩
 ·have e1:(cur.toList.take ((i+ld)*e.k)).length=(i+ld)*e.k:=by simp only [List.length_take,sF,Nat.add_mul];omega
  refine⟨b,cap,_,cp.take i,cp.drop i,rfl,rfl,h3.zf i,h3.zg i,by simp;omega,h6,h7,?_,?_,?_,qH⟩
  ·have e5:=Nat.add_mul i ld e.k
   simp only [List.size_toArray,List.length_append,List.length_drop,e1,sF,Dg];omega
  ·have e2:Min.min (i*e.k) ((i+ld)*e.k)=i*e.k:=Nat.min_eq_left (by rw [Nat.add_mul];omega)
   have e3:Min.min (i*e.k) (P.length*e.k)=i*e.k:=Nat.min_eq_left aa
   rw [List.toList_toArray,ml i h3.lens,←h9,List.length_take,Nat.min_eq_left aa,List.append_assoc,List.take_append_of_le_length (by rw [e1,Nat.add_mul];omega),List.take_take,List.take_take,e2,e3]
  ·rw [List.toList_toArray,List.length_take,Nat.min_eq_left aa,List.length_drop,List.append_assoc]
   rw [List.drop_append,List.drop_eq_nil_of_le (by rw [e1];omega),List.nil_append,e1,Nat.sub_self,List.drop_zero,List.take_append_of_le_length (by rw [Dg];omega),List.take_of_length_le (by rw [Dg];omega)]
theorem W.akl{z:List Value}{tn:TypeId}{c:Nat}(ht:cB E.P t=some t')(hk:eC E.P t'=some (bb,e.k))(hz:dE E.P t'=some z)(rS:Nat.beq z.length e.k=true)(hb:ig E.P t'=some e.w)(hn:E.P.underlying tn=some (.int .i64))
  (ho:aP e t' G v l Ms)(hM:(Ms++B).Perm M)(hx:ev f x=dU v e.k 0 i)(hy:ev f y=.int .i64 (c:Int))(hi:i≤l.length)(h0:0<c)(hl0:0<l.length)(aga:jL v<i+c)(gY:(i+c)*e.w≤140737488355328)(hkp:Nat.blt 0 e.k=true)
  (k:∀v2 Gj,fm e t' G v2 (i+c) (l.take i) c [] Gj→W E ops.toArray false rest (gw f d v2) G (Gj++(Ms++B)) K)(hd:Nat.blt d E.n=true:=by rfl):
  W E ops.toArray false (⟨some d,.call { callee:=.builtin .append,args:= #[x,y],argTypes:= #[t,tn] },ty,pos,aft,none⟩::rest) f G M K:=by
 intro a w Q BF hr hK
 have hrp:=hr.perm hM
 obtain⟨css,h1,⟨h2,h3⟩,h4⟩:=ho
 have sE:=cL ht
 have BE:∃dT zv,E.P.info? t'=some dT∧dT.zero=some zv∧dT.size=e.k∧dT.bytes=e.w∧zv.cells.size=e.k:=by
  simp only [dE,Option.map_eq_some_iff,Option.bind_eq_some_iff]at hz
  obtain⟨zv,⟨dT,h1,h2⟩,rfl⟩:=hz
  have h3:=fp hk w
  simp [sizeOf,typeInfo,h1]at h3
  simp only [ig,h1,Option.map_some,Option.some.injEq]at hb
  exact⟨dT,zv,h1,h2,h3,hb,by simpa using Nat.eq_of_beq_eq_true rS⟩
 obtain⟨dT,zv,pV,gS,Bt,hi4,hi5⟩:=BE
 have Pz:0<e.k:=by have:=hkp;simp [Nat.blt]at this;omega
 have hw0:=e.KE
 have hle:i+c≤140737488355328:=Nat.le_trans (Nat.le_mul_of_pos_right _ hw0) gY
 rcases h3 with⟨_,xo,_⟩|⟨b,cap,cur,rfl,h5,h6,h7,h8,rfl⟩
 ·omega
 ·simp only [jL]at aga
  have hvx:dU (.slice (some ⟨b,0,none⟩) l.length cap) e.k 0 i=.slice (some ⟨b,0,none⟩) i cap:=by rw [gk (.inr rfl)];simp
  rw [hvx]at hx
  have sF:cur.toList.length=cap*e.k:=by simpa using h7
  have jr:w.heap[b]?=some (.cells cur t' (0,0)):=Ab hM hr
  have rN:css.flatten=cur.toList.take (l.length*e.k):=h8.symm
  have hik:i*e.k≤l.length*e.k:=Nat.mul_le_mul_right _ hi
  have hlk:l.length*e.k≤cap*e.k:=Nat.mul_le_mul_right _ h5
  have holds:(css.take i).flatten=cur.toList.take (i*e.k):=by rw [ml i h1.lens,rN,List.take_take];congr 1;omega
  have hol:(css.take i).flatten.length=i*e.k:=by rw [holds,List.length_take,sF];omega
  have hold:(Builtin.firstCells dT.size i (.slice (some ⟨b,0,none⟩) i cap)).run E.P w.drew=.ok (css.take i).flatten.toArray w.drew:=by
   rw [Bt]
   have hc:∀j u,(css.take i).flatten[j]?=some u→w.drew.cell? ((⟨b,0,none⟩:Addr).add j)=some u:=fun j u hj=>by
    rw [Addr.add_lit,Nat.zero_add]
    have iB:=(List.getElem?_eq_some_iff.1 hj).1
    rw [holds,List.getElem?_take]at hj
    split at hj
    ·show World.cell? { w with drawn:=w.drawn+1 } _=_
     simp only [World.cell?,jr]
     simpa using hj
    ·cases hj
   have CK:=run_loadCells_list (P:=E.P) w.drew ⟨b,0,none⟩ (css.take i).flatten hc
   rw [hol]at CK
   simp [Builtin.firstCells,CK]
  have hge:=grownCap_ge w (i+c) cap t'
  have hcm:=grownCap_le_maxLen w (i+c) cap t' (by simp only [maxLen];omega)
  have tD:=Lib.run_append_grow_zeros (P:=E.P) (ty:=ty) w t tn t' dT zv .i64 .i64 sE hn pV gS (some ⟨b,0,none⟩) i cap (css.take i).flatten hold c h0 aa aga aa (by rw [hi4];have:c*e.w≤(i+c)*e.w:=Nat.mul_le_mul_right _ aa;omega) (by rw [hi4];have:=growslice_fits aga gY;omega)
  have fc:(execOp (ev f) ⟨some d,.call { callee:=.builtin .append,args:= #[x,y],argTypes:= #[t,tn] },ty,pos,aft,none⟩).run E.P w=.ok (.value (.slice (some ⟨w.heap.size,0,none⟩) (i+c) (grownCap w (i+c) cap t'))) (w.drew.alloc (.cells ((css.take i).flatten.toArray++Builtin.zeroCells zv.cells c++Builtin.zeroCells zv.cells (grownCap w (i+c) cap t'-(i+c))) t' (0,0))):=by
   simp only [execOp,resolve,invoke,builtin,Sem.run_bind,Sem.run_pure,Result.andThen_ok,List.map_toArray,List.map_cons,List.map_nil,hx,hy,tD]
  refine wpList_plain rfl fun K' eA=> ?_
  unfold Oper.wp
  rw [BF.eval,fc]
  refine eA _ _ (k _ [(w.heap.size,.cells ((css.take i).flatten.toArray++Builtin.zeroCells zv.cells c++Builtin.zeroCells zv.cells (grownCap w (i+c) cap t'-(i+c))) t' (0,0))] ⟨_,_,_,css.take i,[],rfl,rfl,h1.zf i,trivial,by simp;omega,hge,hcm,?_,?_,by simp,gY⟩ _ _ Q (BF.put hd _) ?_ hK)
  ·simp only [Array.size_append,List.size_toArray,size_zeroCells,hi5,hol]
   rw [←Nat.add_mul,←Nat.add_mul];congr 1;omega
  ·simp only [Array.toList_append,List.toList_toArray,List.length_take,Nat.min_eq_left hi]
   rw [List.append_assoc,List.take_append_of_le_length aa,List.take_of_length_le aa]
  ·exact(hrp.drew).alloc _
variable {j:Nat}
theorem W.atl{z:List Value}(ht:cB E.P t=some t')(hk:eC E.P t'=some (bb,e.k))(hz:dE E.P t'=some z)(rS:Nat.beq z.length e.k=true)
  (ho:aP e t' G v l Ms)(hM:(Ms++B).Perm M)(hx:ev f x=dU v e.k 0 i)(hy:ev f y=dU v e.k j l.length)(kn:i≤j)(hj:j≤l.length)(h0:0<l.length)
  (k:∀v' iw,aP e t' G v' (l.take i++l.drop j) iw→l.length≤jL v'→(∃b,v'=.slice (some ⟨b,0,none⟩) (l.take i++l.drop j).length (jL v'))→W E ops.toArray false rest (gw f d v') G (iw++B) K)(hd:Nat.blt d E.n=true:=by rfl):
  W E ops.toArray false (⟨some d,.call { callee:=.builtin .append,args:= #[x,y],argTypes:= #[t,t] },ty,pos,aft,none⟩::rest) f G M K:=by
 intro a w Q BF hr hK
 have hrp:=hr.perm hM
 have arl:=Src.HF (E:=E) (B:=B) ho hM hj h0
 obtain⟨css,h1,⟨h2,h3⟩,h4⟩:=ho
 have sE:=cL ht
 have BE:∃dT zv,E.P.info? t'=some dT∧dT.zero=some zv∧dT.size=e.k∧zv.cells.size=e.k:=by
  simp only [dE,Option.map_eq_some_iff,Option.bind_eq_some_iff]at hz
  obtain⟨zv,⟨dT,h1,h2⟩,rfl⟩:=hz
  have h3:=fp hk w
  simp [sizeOf,typeInfo,h1]at h3
  exact⟨dT,zv,h1,h2,h3,by simpa using Nat.eq_of_beq_eq_true rS⟩
 obtain⟨dT,zv,pV,gS,Bt,hi5⟩:=BE
 rcases h3 with⟨_,xo,_⟩|⟨b,cap,cur,rfl,h5,h6,h7,h8,rfl⟩
 ·omega
 ·have hvx:dU (.slice (some ⟨b,0,none⟩) l.length cap) e.k 0 i=.slice (some ⟨b,0,none⟩) i cap:=by rw [gk (.inr rfl)];simp
  rw [hvx]at hx
  have sF:cur.toList.length=cap*e.k:=by simpa using h7
  have jr:w.heap[b]?=some (.cells cur t' (0,0)):=Ab hM hr
  have hik:i*e.k≤l.length*e.k:=Nat.mul_le_mul_right _ aa
  have aXS:i*e.k≤j*e.k:=Nat.mul_le_mul_right _ kn
  have hlk:l.length*e.k≤cap*e.k:=Nat.mul_le_mul_right _ h5
  have hjk:j*e.k≤l.length*e.k:=Nat.mul_le_mul_right _ hj
  have Dg:(css.drop j).flatten.length=(l.length-j)*e.k:=by rw [(h1.zg j).fq,List.length_drop]
  have mY:(l.length-j)*e.k=l.length*e.k-j*e.k:=Nat.sub_mul _ _ _
  have rN:css.flatten=cur.toList.take (l.length*e.k):=h8.symm
  have holds:(css.take i).flatten=cur.toList.take (i*e.k):=by rw [ml i h1.lens,rN,List.take_take];congr 1;omega
  have hlen:(l.take i++l.drop j).length=i+(l.length-j):=by simp;omega
  have hwb:(l.take i++l.drop j).length*e.w≤140737488355328:=Nat.le_trans (Nat.mul_le_mul_right _ aa) h4
  have YH:∀zh:Array Value,zh.size=cap*e.k→zh.toList.take ((i+(l.length-j))*e.k)=(css.take i).flatten++(css.drop j).flatten→aP e t' G (.slice (some ⟨b,0,none⟩) (i+(l.length-j)) cap) (l.take i++l.drop j) [(b,.cells zh t' (0,0))]:=fun zh hs ht=>
   ⟨css.take i++css.drop j,(h1.zf i).append (h1.zg j),⟨by rw [List.flatten_append,List.length_append,Dg,(h1.zf i).fq,List.length_take,hlen,Nat.min_eq_left aa,Nat.add_mul],.inr ⟨b,cap,zh,by rw [hlen],by rw [hlen];omega,h6,hs,by rw [hlen,ht,List.flatten_append],rfl⟩⟩,hwb⟩
  by_cases hn:l.length-j=0
  ·obtain⟨ao,c,pK,RM,_,_,_⟩:=arl
   have hy2:∃ao c,dU (.slice (some ⟨b,0,none⟩) l.length cap) e.k j l.length=.slice ao 0 c:=by rw [RM];exact⟨ao,c,by rw [List.length_drop,hn]⟩
   obtain⟨ao,c,hy2⟩:=hy2
   rw [hy2]at hy
   have tD:(Builtin.append_ #[t,t] ty #[.slice (some ⟨b,0,none⟩) i cap,.slice ao 0 c]).run E.P w=.ok (.slice (some ⟨b,0,none⟩) i cap) w:=by
    have:i≤cap:=aa
    cases ao<;>simp [Builtin.append_,run_underlying sE,sizeOf,typeInfo,pV,Builtin.lenOf,Builtin.firstCells,loadCells,loadCellsFrom,this,storeCells]
   have fc:(execOp (ev f) ⟨some d,.call { callee:=.builtin .append,args:= #[x,y],argTypes:= #[t,t] },ty,pos,aft,none⟩).run E.P w=.ok (.value (.slice (some ⟨b,0,none⟩) i cap)) w:=by
    simp [execOp,resolve,invoke,builtin,hx,hy,tD]
   refine wpList_plain rfl fun K' eA=> ?_
   unfold Oper.wp
   rw [BF.eval,fc]
   have xf:=YH cur h7 (by rw [hn,Nat.add_zero,List.eq_nil_of_length_eq_zero (Dg.trans (by rw [hn];simp)),List.append_nil,holds])
   rw [hn,Nat.add_zero]at xf
   exact eA _ _ (k _ _ xf h5 ⟨b,by simp only [jL];rw [hlen,hn,Nat.add_zero]⟩ _ w Q (BF.put hd _) hrp hK)
  ·rw [gk aa]at hy
   have tD:=run_append_room (P:=E.P) w t ty t' dT sE pV b i cap cur jr ⟨b,j*e.k,none⟩ (l.length-j) (cap-j) (css.drop j).flatten (by rw [Dg,Bt]) (fun q u hq=>by
    rw [Addr.add_lit]
    rw [wb j h1.lens,List.getElem?_drop,rN,List.getElem?_take]at hq
    split at hq
    ·simp only [World.cell?,jr]
     simpa using hq
    ·cases hq) (h1.zg j).one aa (by rw [Bt,Dg,h7];omega)
   rw [Bt]at tD
   have fc:(execOp (ev f) ⟨some d,.call { callee:=.builtin .append,args:= #[x,y],argTypes:= #[t,t] },ty,pos,aft,none⟩).run E.P w=.ok (.value (.slice (some ⟨b,0,none⟩) (i+(l.length-j)) cap)) (w.setRow b (cur.toList.take (i*e.k)++(css.drop j).flatten++cur.toList.drop (i*e.k+(css.drop j).flatten.length)).toArray):=by
    simp [execOp,resolve,invoke,builtin,hx,hy,tD]
   refine wpList_plain rfl fun K' eA=> ?_
   unfold Oper.wp
   rw [BF.eval,fc]
   refine eA _ _ (k _ _ (YH _ ?_ ?_) h5 ⟨b,by simp only [jL];rw [hlen]⟩ _ _ Q (BF.put hd _) (j0 hrp) hK)
   ·simp only [List.size_toArray,List.length_append,List.length_take,List.length_drop,sF,Dg];omega
   ·rw [List.toList_toArray,holds]
    have e1:(cur.toList.take (i*e.k)++(css.drop j).flatten).length=(i+(l.length-j))*e.k:=by simp only [List.length_append,List.length_take,sF,Dg,Nat.add_mul];omega
    rw [←e1,List.take_left]
theorem W.PE{z:List Value}{hi:Nat}(ht:cB E.P t=some t')(hk:eC E.P t'=some (bb,e.k))(hz:dE E.P t'=some z)(rS:Nat.beq z.length e.k=true)(Sa:z.all Value.oneCell'=true)
  (ho:aP e T G v l Ms)(hM:(Ms++B).Perm M)(hx:ev f x=dU v e.k lo hi)(gx:lo≤hi)(gz:hi≤jL v)(hv:∃b,v=.slice (some ⟨b,0,none⟩) l.length (jL v))(hm:m≤lo)(qL:m≤l.length)
  (k:∀iw,aP e T G (dU v e.k 0 m) (l.take m) iw→W E ops.toArray false rest f G (iw++B) K):
  W E ops.toArray false (⟨none,.call { callee:=.builtin .clear,args:= #[x],argTypes:= #[t] },ty,pos,aft,none⟩::rest) f G M K:=by
 intro a w Q BF hr hK
 have hrp:=hr.perm hM
 have sE:=cL ht
 obtain⟨css,h1,⟨h2,h3⟩,h4⟩:=ho
 obtain⟨b0,hv⟩:=hv
 simp only [dE,Option.map_eq_some_iff,Option.bind_eq_some_iff]at hz
 obtain⟨zv,⟨dT,e1,e2⟩,rfl⟩:=hz
 have hzs:zv.cells.size=e.k:=by simpa using Nat.eq_of_beq_eq_true rS
 rcases h3 with⟨rfl,_,_⟩|⟨b,cap,cur,rfl,h5,h6,h7,h8,rfl⟩
 ·cases hv
 ·simp only [jL]at gz
  have jr:w.heap[b]?=some (.cells cur T (0,0)):=Ab hM hr
  have sF:cur.toList.length=cap*e.k:=by simpa using h7
  have hmk:m*e.k≤lo*e.k:=Nat.mul_le_mul_right _ hm
  have hlh:lo*e.k≤hi*e.k:=Nat.mul_le_mul_right _ gx
  have hhc:hi*e.k≤cap*e.k:=Nat.mul_le_mul_right _ gz
  have hmc:m*e.k≤l.length*e.k:=Nat.mul_le_mul_right _ qL
  have hlc:l.length*e.k≤cap*e.k:=Nat.mul_le_mul_right _ h5
  have mY:(hi-lo)*e.k=hi*e.k-lo*e.k:=Nat.sub_mul _ _ _
  have hv0:dU (.slice (some ⟨b,0,none⟩) l.length cap) e.k 0 m=.slice (some ⟨b,0,none⟩) m cap:=by rw [gk (.inr rfl)];simp
  have hwb:m*e.w≤140737488355328:=Nat.le_trans (Nat.mul_le_mul_right _ qL) h4
  have Qw:(l.take m).length=m:=by simp;omega
  have YH:∀zh:Array Value,zh.size=cap*e.k→zh.toList.take (m*e.k)=cur.toList.take (m*e.k)→aP e T G (dU (.slice (some ⟨b,0,none⟩) l.length cap) e.k 0 m) (l.take m) [(b,.cells zh T (0,0))]:=fun zh hs htk=>by
   rw [hv0]
   refine⟨css.take m,h1.zf m,⟨by rw [(h1.zf m).fq],.inr ⟨b,cap,zh,by rw [Qw],by rw [Qw];omega,h6,hs,?_,rfl⟩⟩,by rw [Qw];exact hwb⟩
   rw [Qw,htk,ml m h1.lens,←h8,List.take_take];congr 1;omega
  by_cases h0:hi-lo=0
  ·have vB:∃ao c,ev f x=.slice ao 0 c:=by rw [hx];simp only [dU,h0];exact⟨_,_,rfl⟩
   obtain⟨ao,c,vB⟩:=vB
   have fc:(execOp (ev f) ⟨none,.call { callee:=.builtin .clear,args:= #[x],argTypes:= #[t] },ty,pos,aft,none⟩).run E.P w=.ok (.value (.tuple #[])) w:=by
    cases ao<;>simp [execOp,resolve,invoke,builtin,vB,Builtin.clear_,run_underlying sE]
   refine wpList_plain rfl fun K' eA=> ?_
   unfold Oper.wp
   rw [BF.eval,fc]
   exact eA _ _ (k _ (YH cur h7 rfl) _ w Q (BF.tL _) hrp hK)
  ·rw [gk aa]at hx
   have hzc:(Builtin.zeroCells zv.cells (hi-lo)).toList.length=(hi-lo)*e.k:=by
    have:=size_zeroCells zv.cells (hi-lo)
    rw [←hzs,←this];simp
   have aMV:∀u∈(Builtin.zeroCells zv.cells (hi-lo)).toList,u.oneCell'=true:=fun u hu=>by
    rw [Gs]at hu
    simp only [List.mem_flatten,List.mem_replicate]at hu
    obtain⟨l',⟨_,rfl⟩,hu⟩:=hu
    exact vY Sa u hu
   have ii:=run_storeCells_at E.P b (lo*e.k) T (Builtin.zeroCells zv.cells (hi-lo)).toList 0 cur w jr (by simp only [Nat.add_zero];rw [hzc,h7];omega) aMV
   simp only [Nat.add_zero]at ii
   have fc:(execOp (ev f) ⟨none,.call { callee:=.builtin .clear,args:= #[x],argTypes:= #[t] },ty,pos,aft,none⟩).run E.P w=.ok (.value (.tuple #[])) (w.setRow b (cur.toList.take (lo*e.k)++(Builtin.zeroCells zv.cells (hi-lo)).toList++cur.toList.drop (lo*e.k+(Builtin.zeroCells zv.cells (hi-lo)).toList.length)).toArray):=by
    obtain⟨q,hq⟩:∃q,hi-lo=q+1:=⟨hi-lo-1,aa⟩
    rw [hq]at hx ii⊢
    simp [execOp,resolve,invoke,builtin,hx,Builtin.clear_,run_underlying sE,zeroValue,typeInfo,e1,e2,ii]
   refine wpList_plain rfl fun K' eA=> ?_
   unfold Oper.wp
   rw [BF.eval,fc]
   refine eA _ _ (k _ (YH _ ?_ ?_) _ _ Q (BF.tL _) (j0 hrp) hK)
   ·simp only [List.size_toArray,List.length_append,List.length_take,List.length_drop,sF,hzc];omega
   ·rw [List.toList_toArray,List.append_assoc,List.take_append_of_le_length (by rw [List.length_take,sF];omega),List.take_take];congr 1;omega
theorem fm.LV(h:fm e T G v n P ld S Ms)(hg:ld=0):aP e T G v (P++S) Ms:=by subst hg;exact h.own
theorem Src.zu(ho:aP e T G v l Ms)(hM:(Ms++B).Perm M)(h0:0<l.length):Src e E G M v l:=by
 have h:=Src.HF (E:=E) ho hM (Nat.zero_le _) h0
 rw [List.drop_zero]at h
 obtain⟨css,h1,⟨h2,h3⟩,h4⟩:=ho
 rcases h3 with⟨_,hn,_⟩|⟨b,cap,cur,rfl,_⟩
 ·omega
 ·rw [gk (.inr rfl)]at h
  simpa using h
theorem aP.akq(ho:aP e T G v l Ms)(h0:0<l.length):∃b c,v=.slice (some ⟨b,0,none⟩) l.length c:=by
 obtain⟨css,h1,⟨h2,h3⟩,h4⟩:=ho
 rcases h3 with⟨_,hn,_⟩|⟨b,cap,cur,rfl,_⟩
 ·omega
 ·exact⟨b,cap,rfl⟩
theorem aP.eD(ho:aP e T G v l Ms):l.length≤jL v:=by
 obtain⟨css,h1,⟨h2,h3⟩,h4⟩:=ho
 rcases h3 with⟨rfl,hn,_⟩|⟨b,cap,cur,rfl,h,_⟩
 ·omega
 ·exact h
theorem W.okx{op:Op}(h:∃u,Ok E f G M ⟨some d,op,ty,pos,aft,none⟩ u)(k:∀u,W E ops.toArray q rest (gw f d u) G M K)(hd:Nat.blt d E.n=true:=by rfl):W E ops.toArray q (⟨some d,op,ty,pos,aft,none⟩::rest) f G M K:=by
 obtain⟨u,hu⟩:=h
 exact W.ok hu (k u) hd
theorem W.atm{z:List Value}{hi:Nat}(ht:cB E.P t=some t')(hk:eC E.P t'=some (bb,e.k))(hz:dE E.P t'=some z)(rS:Nat.beq z.length e.k=true)(Sa:z.all Value.oneCell'=true)
  (ho:aP e T G v l Ms)(hM:(Ms++B).Perm M)(hx:ev f x=dU v e.k lo hi)(gx:lo≤hi)(gz:hi≤jL v)(hv:∃b,v=.slice (some ⟨b,0,none⟩) l.length (jL v))(hm:l.length≤lo)
  (k:∀iw,aP e T G v l iw→W E ops.toArray false rest f G (iw++B) K):
  W E ops.toArray false (⟨none,.call { callee:=.builtin .clear,args:= #[x],argTypes:= #[t] },ty,pos,aft,none⟩::rest) f G M K:=by
 refine W.PE (m:=l.length) ht hk hz rS Sa ho hM hx gx gz hv hm (Nat.le_refl _) (fun iw h=>k iw ?_)
 obtain⟨b,hb⟩:=hv
 rw [hb]at h⊢
 rw [gk (.inr rfl),List.take_length]at h
 simpa using h
theorem W.aag{L:List Value}{T':TypeId}{lo:List Oper}(hM:((b,Obj.cells L.toArray T' (0,0))::B).Perm M)(k:∀G',Le G G'→iD G' b 0 L→W E ops.toArray false lo f G' B K):W E ops.toArray false lo f G M K:=by
 refine W.perm hM (W.F8 fun hl=>k _ hl ⟨_,_,_,z8 _ _ _,fun j hj=> ?_⟩)
 simp
variable {vs:List Value}
theorem DT(ht:eC E.P t=some (bb,j))(hc:iD G b o cs)(hx:ev f x=.pointer (some ⟨b,o,none⟩))(hv:cs.take j=vs)(hl:vs.length=j)(hb:bb=false→j=1):Ok E f G M ⟨some d,.load t x,ty,pos,aft,none⟩ (AN bb vs):=fun w hr=>by
 subst hv
 have:=fX ht hb (w:=w) (a:=⟨b,o,none⟩) hl (fun j' v' rH=>by
  rw [Addr.add_lit]
  rw [List.getElem?_take]at rH
  split at rH
  ·exact hc.cell hr rH
  ·cases rH)
 simp [execOp,hx,Instr.loadAt,Instr.sureAddr,this]
variable {g:FuncId}
theorem lY{fst caps:List Operand}{ws:List Value}(hf:fst.map (ev f)=vs)(hc:caps.map (ev f)=ws):Ok E f G M ⟨some d,.makeFunc (.func g) fst.toArray caps.toArray,ty,pos,aft,none⟩ (.func (.func g) vs.toArray ws.toArray):=fun w hr=>by
 subst hf;subst hc
 simp [execOp,Instr.makeFunc]
theorem u9{fn : Func}{tR : TypeId}{nL : Array TypeId}{ys : List α}{Mu : MH}{hi : Nat}(hf : E.P.funcs[g]? = some fn)(aDN : (fn.name == "runtime.NumGoroutine") = false)(hb : fn.body.isNone = true)(hn : Extern.findNext fn = none)(he : Extern.find fn = some (Extern.SlicesOverlaps.overlaps #[t, t] #[tR]))
  (ht:cB E.P t=some t')(hk:eC E.P t'=some (bb,e.k))(hu:aP e T G u ys Mu)(hp:fm e T G v n P ld S Ms)(hM:(Mu++(Ms++B)).Perm M)(hy0:0<ys.length)(gx:lo<jL v)(hx:ev f x=u)(hy:ev f y=dU v e.k lo hi)(hkp:Nat.blt 0 e.k=true):
  Ok E f G M ⟨some d,.call { callee:=.value (.func g),args:= #[x,y],argTypes:=nL },ty,pos,aft,none⟩ (.bool false):=fun w hr=>by
 have oi:=hr.perm hM
 have Pz:0<e.k:=by have:=hkp;simp [Nat.blt]at this;omega
 obtain⟨b,cap,cur,cp,cs,rfl,rfl,h3,h4,h5,h6,h7,h8,h9⟩:=hp
 obtain⟨css,g1,⟨g2,g3⟩,g4⟩:=hu
 rcases g3 with⟨_,xo,_⟩|⟨b2,agb,arm,rfl,g5,g6,g7,g8,rfl⟩
 ·omega
 ·simp only [jL]at gx
  rw [gk (.inl gx)]at hy
  have q1:w.heap[b2]?=some (.cells arm T (0,0)):=oi.r.mu (b2,.cells arm T (0,0)) (by simp)
  have q2:w.heap[b]?=some (.cells cur T (0,0)):=oi.r.mu (b,.cells cur T (0,0)) (by simp)
  have m3:=oi.r.nd
  have lR:b2≠b:=fun e1=>by subst e1;simp at m3
  have aga:0<cap*e.k:=Nat.mul_pos aa Pz
  have hov:=Lib.run_overlaps_apart (P:=E.P) w t tR t' (cL ht) e.k (fun w=>fp hk w) ⟨b2,0,none⟩ ⟨b,lo*e.k,none⟩ ys.length agb (hi-lo) (cap-lo) lR T T arm.size cur.size (by simp [World.shape?,q1]) (by simp [World.shape?,q2]) aa (by simp [World.frozen?,q1]) (by simp [World.frozen?,q1])
  have hcf:=run_callFunc_extern hf aDN hb hn he #[.slice (some ⟨b2,0,none⟩) ys.length agb,.slice (some ⟨b,lo*e.k,none⟩) (hi-lo) (cap-lo)] w
  rw [hov]at hcf
  have e0:((#[]:Array Value)++ #[.slice (some ⟨b2,0,none⟩) ys.length agb,.slice (some ⟨b,lo*e.k,none⟩) (hi-lo) (cap-lo)]++ #[])= #[.slice (some ⟨b2,0,none⟩) ys.length agb,.slice (some ⟨b,lo*e.k,none⟩) (hi-lo) (cap-lo)]:=by simp
  have he0:ev f (.func g)=.func (.func g) #[] #[]:=rfl
  simp only [execOp,resolve,he0,Deferred.ofValue,Sem.run_bind,Sem.run_pure,Result.andThen_ok,invoke,List.map_toArray,List.map_cons,List.map_nil,hx,hy,e0,hcf]
theorem W.Av{b:Bool}{sz len:Nat}{parts:List (Nat×Operand)}{css:List (List Value)}{z:List Value}(ht:cB E.P t=some t')(hk:eC E.P t'=some (b,sz))(hz:dE E.P t'=some z)
  (hp:(parts.map fun p=>(ev f p.2).cells.toList)=css)(hi:parts.map (·.1)=List.range' 0 len)(hs:css.all (fun c=>Nat.beq c.length sz)=true)(hl:Nat.ble (len*sz) 16777216=true)(CK:Nat.ble len 16777216=true)(rS:Nat.beq z.length sz=true)(hR:ez e G css l)
  (k:∀v Ms,aP e t' G v l Ms→W E ops.toArray false rest (gw f d v) G (Ms++M) K)(hd:Nat.blt d E.n=true:=by rfl):
  W E ops.toArray false (⟨some d,.buildSlice t len parts.toArray,ty,pos,aft,none⟩::rest) f G M K:=by
 refine W.bsl ht hk hz hp hi hs hl rS (fun bl=> ?_) hd
 have h1:parts.length=len:=by have:=congrArg List.length hi;simpa using this
 have h2:=hR.spec.1
 have h3:css.length=len:=by rw [←hp];simpa using h1
 have h4:len≤16777216:=by simpa using CK
 have h5:=hR.fq
 refine k _ [(bl,.cells css.flatten.toArray t' (0,0))] ⟨css,hR,⟨h5,.inr ⟨bl,len,_,by rw [←h2,h3],aa,by simp [maxLen];omega,?_,?_,rfl⟩⟩,Nat.le_trans (Nat.mul_le_mul (by omega:l.length≤16777216) e.wle) (by decide)⟩
 ·simp only [List.size_toArray];rw [h5];congr 1;omega
 ·simp only [List.toList_toArray];rw [←h5,List.take_length]
end
def Sz (P:Program) (t:TypeId) (name:String):Option (FuncId×Option TypeId):=
 match P.info? t with
 |some dT=>match dT.methods.find? (·.name==name)with
  |some m=>bif m.path.isEmpty then(match m.func with
   |some (g,ptr)=>match P.underlying t with
    |some (.pointer e)=>bif ptr then some (g,none)else some (g,some e)
    |some _=>bif ptr then none else some (g,none)
    |none=>none
   |none=>none)else none
  |none=>none
 |none=>none
variable {P:Program} {g:FuncId} {name:String} {t:TypeId} {y:Value}
theorem KN{oe:Option TypeId}(h:Sz P t name=some (g,oe)){r:Value}{w:World}
  (hr:match oe with|none=>r=y|some e=>∃ad,y=.pointer (some ad)∧(loadVar e ad).run P w=.ok r w)(m:Nat):(method (m+1) t y name).run P w=.ok (g,r) w:=by
 unfold Sz at h
 split at h
 ·rename_i dT hi
  split at h
  ·rename_i me hm
   cases hp:me.path.isEmpty
   ·simp [hp]at h
   simp only [hp,cond_true]at h
   have ac1:me.path.toList=[]:=by simpa using hp
   split at h
   ·rename_i g' ptr hfu
    split at h
    ·rename_i e hu
     cases ptr
     ·simp only [cond_false,Option.some.injEq,Prod.mk.injEq]at h
      obtain⟨rfl,rfl⟩:=h
      obtain⟨ad,rfl,k6⟩:=hr
      have hwr:∀(ad:Addr) (p q:String),Builtin.ssaWrapNilChk_ #[t] t #[.pointer (some ad),strVal p,strVal q]=pure (.pointer (some ad)):=fun _ _ _=>rfl
      simp [method,typeInfo,hi,hm,ac1,hp,follow,hfu,receiverAt,run_underlying hu,Place.get,hwr,asAddr,k6]
      split<;>simp [k6]
     ·simp only [cond_true,Option.some.injEq,Prod.mk.injEq]at h
      obtain⟨rfl,rfl⟩:=h
      subst hr
      simp [method,typeInfo,hi,hm,ac1,follow,hfu,receiverAt,run_underlying hu,Place.get]
    ·rename_i d hd hu
     cases ptr
     ·simp only [cond_false,Option.some.injEq,Prod.mk.injEq]at h
      obtain⟨rfl,rfl⟩:=h
      subst hr
      simp only [method,typeInfo,Sem.run_bind,run_program,hi,Result.andThen_ok,Sem.run_pure,hm,ac1,follow,hfu,receiverAt,run_underlying hu]
      cases d<;>first|exact absurd rfl (hd _)|simp [Place.get]
     ·cases h
    ·cases h
   ·cases h
  ·cases h
 ·cases h
def Inv (P:Program) (x:Value) (name:String) (vs:List Value) (G:GH) (M:MH) (Q:Value→GH→MH→Prop):Prop:=
 ∃t y g r,x=.iface t y∧(∀(w0:World) (own:Nat→Prop) (w:World),Real w0 own G M w→∀m,(method (m+1) t y name).run P w=.ok (g,r) w)∧
  ∃Ma Mb:MH,(Ma++Mb).Perm M∧Fc P g (r::vs) G Ma (fun v G' M'=>∃M2:MH,M2.Perm (M'++Mb)∧Q v G' M2)
variable {Y:MH}
theorem eX{X:MH}{p q:Nat×Obj}(h:X.Perm (p::Y)):(q::X).Perm (p::q::Y):=(h.cons q).trans (List.Perm.swap ..)
theorem oU{A Z R:MH}(h:(Z++R).Perm Y):((A++Z)++R).Perm (A++Y):=by rw [List.append_assoc];exact h.append_left A
variable {G:GH} {L:List Value} {M:MH} {T:TypeId} {b:Nat} {o:Nat} {v:Value}
theorem aiZ{w0 w:World}{own:Nat→Prop}(hr:Real w0 own G M w)(ht:eC P t=some (false,1))(hm:(b,Obj.cells L.toArray T (0,0))∈M)(hv:L[o]?=some v):
  (loadVar t ⟨b,o,none⟩).run P w=.ok v w:=by
 have h:=hr.mu _ hm
 refine fX (cs:=[v]) ht (fun _=>rfl) rfl (fun j v' hj=> ?_)
 cases j with
 |zero=>
  simp only [List.getElem?_cons_zero,Option.some.injEq]at hj
  subst hj
  rw [Addr.add_lit]
  simp only at h
  simp [World.cell?,h,hv]
 |succ j=>simp at hj
variable {Q:Value→GH→MH→Prop} {Q':Value→GH→MH→Prop} {vs:List Value}
theorem Inv.val{e:TypeId}{Ms:MH}(hm:Sz P t name=some (g,some e))(ht:eC P e=some (false,1))(hv:L[o]?=some v)
  (hc:Fc P g (v::vs) G Ms Q')(hQ:∀v' G' M',Le G G'→Q' v' G' M'→Q v' G' ((b,.cells L.toArray T (0,0))::M')):Inv P (.iface t (.pointer (some ⟨b,o,none⟩))) name vs G ((b,.cells L.toArray T (0,0))::Ms) Q:=
 ⟨t,_,g,v,rfl,fun w0 own w hr m=>KN hm ⟨_,rfl,aiZ hr ht (List.mem_cons_self) hv⟩ m,Ms,[(b,.cells L.toArray T (0,0))],List.perm_append_comm,hc.mono fun v' G' M' hl h=>⟨_,(List.perm_append_comm (l₁:=M') (l₂:=[(b,Obj.cells L.toArray T (0,0))])).symm,hQ v' G' M' hl h⟩⟩
theorem Inv.ptr(hm:Sz P t name=some (g,none))(hc:Fc P g (y::vs) G M Q')(hQ:∀v' G' M',Le G G'→Q' v' G' M'→Q v' G' M'):Inv P (.iface t y) name vs G M Q:=
 ⟨t,y,g,y,rfl,fun w0 own w hr m=>KN hm rfl m,M,[],by simp,hc.mono fun v' G' M' hl h=>⟨_,by simp,hQ v' G' M' hl h⟩⟩
section
variable {E:Env} {f:Fr} {G:GH} {M:MH} {ops rest:List Oper} {q:Bool} {K:Kt} {Q:Exit→Kt} {d:Nat} {ty:TypeId} {pos:String} {aft:Array Edge} {t t':TypeId} {x y:Operand}
theorem W.inv{name:String}{args:List Operand}{nL:Array TypeId}{x0:Value}{vs:List Value}{Mp Mr:MH}{Q:Value→GH→MH→Prop}(hc:Inv E.P x0 name vs G Mp Q)(hx:ev f x=x0)(ha:args.map (ev f)=vs)(hM:(Mp++Mr).Perm M)
  (k:∀v G' M',Le G G'→Q v G' M'→W E ops.toArray false rest (gw f d v) G' (M'++Mr) K)(hd:Nat.blt d E.n=true:=by rfl):
  W E ops.toArray false (⟨some d,.call { callee:=.invoke x name,args:=args.toArray,argTypes:=nL },ty,pos,aft,none⟩::rest) f G M K:=by
 obtain⟨t,y,g,r,rfl,hm,Ma,Mb,hp,hc⟩:=hc
 intro a w Q' hi hr hK
 have hrM:=hr.r.perm hM
 have fc:(execOp (ev f) ⟨some d,.call { callee:=.invoke x name,args:=args.toArray,argTypes:=nL },ty,pos,aft,none⟩).run E.P w=.ok (.enter g (r::vs).toArray) w:=by
  have h4:=hc.1 (#[r]++vs.toArray) w
  have hs:=hrM.sub (M':=Mp) (List.sublist_append_left _ _)
  have h5:=hm _ _ _ hs (E.P.types.size+Made.depth-1)
  have e:((#[.iface t y]++(args.map (ev f)).toArray:Array Value))=(.iface t y::vs).toArray:=by rw [ha];simp
  simp only [execOp,resolve,hx,Sem.run_bind,Sem.run_pure,Result.andThen_ok,invoke,List.map_toArray]
  rw [e]
  simp only [List.getElem?_toArray,List.getElem?_cons_zero,List.size_toArray,List.length_cons,callMethod,Sem.run_bind,run_program,Result.andThen_ok]
  rw [show E.P.types.size+Made.depth=(E.P.types.size+Made.depth-1)+1 from by simp [Made.depth]]
  rw [h5]
  simp only [Result.andThen_ok]
  have e2: #[r]++Array.extract (.iface t y::vs).toArray 1 (vs.length+1)= #[r]++vs.toArray:=by
   apply Array.toList_inj.1;simp
  rw [e2,h4]
  simp
 refine wpList_plain rfl fun K' eA=> ?_
 unfold Oper.wp
 rw [hi.eval,fc]
 have oi:Real E.w0 E.own G (Ma++(Mb++Mr)) w:=hrM.perm (by rw [←List.append_assoc];exact hp.append_right _)
 have hw:Real w (fun b=>b∈(Ma.map (·.1))) G Ma w:=by
  have hs:=oi.sub (M':=Ma) (List.sublist_append_left _ _)
  exact⟨rfl,rfl,rfl,Nat.le_refl _,fun _ _ _=>rfl,hr.r.ro,hs.mu,hs.o9,hs.nd,fun p hp=>.inr (List.mem_map_of_mem hp)⟩
 refine(hc.2 w hw).mono ?_
 rintro e w' ⟨v',G',M',rfl,h2,h3,h4,M2,hp2,h5⟩
 have h6:=Real.call oi h2 h4
 refine eA _ _ (k v' G' M2 h3 h5 _ w' Q' (hi.put hd v') ⟨h6.perm (by rw [←List.append_assoc];exact hp2.append_right _),hr.le.trans h3,?_⟩ hK)
 intro b hb jr
 cases hg:G b with
 |none=>
  rcases h4 b hg jr with h7|h7
  ·exact .inl (Nat.le_trans hr.r.size h7)
  ·obtain⟨p,hp,e⟩:=List.mem_map.1 h7
   rcases oi.lo p (by simp [hp])with h8|h8
   ·exact .inl (e▸h8)
   ·exact .inr (e▸h8)
 |some o=>exact hr.nw b hb (by simp [hg])
theorem ajN{a:Addr}(hx:ev f x=.pointer (some a)):Ok E f G M ⟨some d,.nilCheck x,ty,pos,aft,none⟩ (.pointer (some a)):=fun w _=>by simp [execOp,hx]
def zz (P:Program) (t:TypeId):Bool:=match P.underlying t with|some (.interface _)=>false|some _=>true|none=>false
variable {u:Value}
theorem GU(hp:zz E.P t=true)(hx:ev f x=u):Ok E f G M ⟨some d,.makeInterface t x,ty,pos,aft,none⟩ (.iface t u):=fun w _=>by
 subst hx
 unfold zz at hp
 split at hp
 ·cases hp
 ·rename_i dd hd hu
  have:(Instr.makeInterface t (ev f x)).run E.P w=.ok (.iface t (ev f x)) w:=by
   simp only [Instr.makeInterface,Sem.run_bind,run_underlying hu,Result.andThen_ok]
   cases dd<;>first|exact absurd rfl (hd _)|rfl
  simp [execOp,this]
 ·cases hp
theorem awn{xt:TypeId}(hp:zz E.P t=true)(hx:ev f x=.iface t u):Ok E f G M ⟨some d,.typeAssert x xt t false,ty,pos,aft,none⟩ u:=fun w _=>by
 unfold zz at hp
 split at hp
 ·cases hp
 ·rename_i dd hd hu
  have:(Instr.typeAssert (.iface t u) xt t false).run E.P w=.ok u w:=by
   simp only [Instr.typeAssert,Sem.run_bind,run_underlying hu,Result.andThen_ok]
   cases dd<;>first|exact absurd rfl (hd _)|simp
  simp [execOp,hx,this]
 ·cases hp
def xP (P:Program) (t:TypeId):Bool:=match P.underlying t with|some (.pointer _)=>true|_=>false
variable {a:Option Addr} {t2:TypeId}
theorem bV(ht:xP E.P t=true)(hx:ev f x=.pointer a)(hy:ev f y=.pointer none):Ok E f G M ⟨some d,.binOp .eql t x y t2,ty,pos,aft,none⟩ (.bool a.isNone):=fun w _=>by
 unfold xP at ht
 split at ht
 ·rename_i e hu
  have h:∀m,(Op.equalIn (m+1) t (.pointer a) (.pointer none)).run E.P w=.ok a.isNone w:=fun m=>by
   cases a<;>simp [Op.equalIn,run_underlying hu]
  have h2:(binOp .eql t (.pointer a) (.pointer none)).run E.P w=.ok (.bool a.isNone) w:=by
   simp only [binOp]
   cases a<;>simp [Op.equal,Op.maxDepth,h 9999]
  simp [execOp,hx,hy,eqGuard,h2]
 ·cases ht
theorem gB(ht:xP E.P t=true)(hx:ev f x=.pointer a)(hy:ev f y=.pointer none):Ok E f G M ⟨some d,.binOp .neq t x y t2,ty,pos,aft,none⟩ (.bool a.isSome):=fun w _=>by
 unfold xP at ht
 split at ht
 ·rename_i e hu
  have h:∀m,(Op.equalIn (m+1) t (.pointer a) (.pointer none)).run E.P w=.ok a.isNone w:=fun m=>by
   cases a<;>simp [Op.equalIn,run_underlying hu]
  have h2:(binOp .neq t (.pointer a) (.pointer none)).run E.P w=.ok (.bool a.isSome) w:=by
   simp only [binOp]
   cases a<;>simp [Op.equal,Op.maxDepth,h 9999]
  simp [execOp,hx,hy,eqGuard,h2]
 ·cases ht
variable {Ms:MH} {T:TypeId} {v:Value} {α:Type}
theorem aP.short{e:dV α}{l:List α}(ho:aP e T G v l Ms){n:Nat}(hn:n≤l.length):aP e T G (dU v e.k 0 n) (l.take n) Ms:=by
 obtain⟨css,h1,⟨h2,h3⟩,h4⟩:=ho
 have hw:=e.KE
 have h5:(l.take n).length=n:=by rw [List.length_take];omega
 have hlen:css.length=l.length:=h1.spec.1
 have jj:=h1.lens
 have hb:(l.take n).length*e.w≤140737488355328:=by rw [h5];exact Nat.le_trans (Nat.mul_le_mul_right _ hn) h4
 refine⟨css.take n,h1.zf n,⟨?_,?_⟩,hb⟩
 ·rw [ml n jj,List.length_take,h2,h5]
  have:n*e.k≤l.length*e.k:=Nat.mul_le_mul_right _ hn
  omega
 ·rcases h3 with⟨rfl,xo,rfl⟩|⟨b,cap,cur,rfl,h6,h7,h8,h9,rfl⟩
  ·left
   have:n=0:=aa
   subst this
   exact⟨rfl,by simp,rfl⟩
  ·right
   refine⟨b,cap,cur,?_,by rw [h5];omega,h7,h8,?_,rfl⟩
   ·rw [h5];simp [dU];intro _;rfl
   ·rw [h5,ml n jj,←h9,List.take_take]
    congr 1
    have:n*e.k≤l.length*e.k:=Nat.mul_le_mul_right _ hn
    omega
variable {bb:Bool}
theorem W.awl{e:dV α}{l:List α}{hi:Option Operand}(n:Nat)(ht:cB E.P t=some t')(hk:eC E.P t'=some (bb,e.k))(ho:aP e T G v l Ms)(hx:ev f x=v)(gz:pL f l.length n hi)(hn:n≤l.length)
  (k:∀u,aP e T G u (l.take n) Ms→W E ops.toArray q rest (gw f d u) G M K)(hd:Nat.blt d E.n=true:=by rfl):W E ops.toArray q (⟨some d,.slice t x none hi none,ty,pos,aft,none⟩::rest) f G M K:=
 W.ok (ei 0 n ht hk ho hx rfl gz ⟨Nat.zero_le _,.inl hn⟩) (k _ (ho.short hn)) hd
theorem W.slR{e:dV α}{l:List α}{lo hi:Option Operand}(a b:Nat)(ht:cB E.P t=some t')(hk:eC E.P t'=some (bb,e.k))(hs:ax e G v l)(hx:ev f x=v)(gx:pL f 0 a lo)(gz:pL f l.length b hi)(h1:a≤b)(h2:b≤l.length)
  (k:∀u,ax e G u ((l.take b).drop a)→W E ops.toArray q rest (gw f d u) G M K)(hd:Nat.blt d E.n=true:=by rfl):W E ops.toArray q (⟨some d,.slice t x lo hi none,ty,pos,aft,none⟩::rest) f G M K:=
 W.ok (ok_slice a b ht hk hs hx gx gz ⟨h1,h2⟩) (k _ (hs.slice h1 h2)) hd
theorem W.Jc{e:dV α}{z:List Value}{a0:α}{n:Nat}(ht:cB E.P t=some t')(hk:eC E.P t'=some (bb,e.k))(hz:dE E.P t'=some z)(rS:Nat.beq z.length e.k=true)(hb:ig E.P t'=some e.w)
  (hR:e.R G z a0)(hx:ev f x=.int .i64 (n:Int))(hy:ev f y=.int .i64 (n:Int))(hn:n*e.w≤140737488355328)(hc:n*e.k≤16777216)
  (k:∀v Ms,aP e t' G v (List.replicate n a0) Ms→W E ops.toArray false rest (gw f d v) G (Ms++M) K)(hd:Nat.blt d E.n=true:=by rfl):
  W E ops.toArray false (⟨some d,.makeSlice t x y,ty,pos,aft,none⟩::rest) f G M K:=by
 intro a w Q hi hr hK
 have sE:=cL ht
 have BE:∃dT zv,E.P.info? t'=some dT∧dT.zero=some zv∧dT.size=e.k∧dT.bytes=e.w∧zv.cells.toList=z:=by
  simp only [dE,Option.map_eq_some_iff,Option.bind_eq_some_iff]at hz
  obtain⟨zv,⟨dT,h1,h2⟩,rfl⟩:=hz
  have h3:=fp hk w
  simp [sizeOf,typeInfo,h1]at h3
  simp only [ig,h1,Option.map_some,Option.some.injEq]at hb
  exact⟨dT,zv,h1,h2,h3,hb,rfl⟩
 obtain⟨dT,zv,pV,gS,Bt,hi4,hi5⟩:=BE
 have hw0:=e.KE
 have hle:n≤140737488355328:=Nat.le_trans (Nat.le_mul_of_pos_right _ hw0) hn
 have hzs:zv.cells.size=e.k:=by rw [←Array.length_toList,hi5];exact Nat.eq_of_beq_eq_true rS
 have hmk:=run_makeSlice (P:=E.P) w t t' dT zv sE pV gS .i64 .i64 (n:Int) (n:Int) aa aa (by rw [Bt];simpa using hc) (by
  rw [hi4]
  have:((e.w:Nat):Int)*(n:Int)=((n*e.w:Nat):Int):=by rw [Nat.mul_comm];simp
  rw [this];omega) aa
 have aDO:madeCells zv.cells ((n:Int).toNat*dT.size)=(List.replicate n z).flatten.toArray:=by
  apply Array.toList_inj.1
  rw [Bt,←hzs,Int.toNat_natCast,KL,hi5]
 rw [aDO]at hmk
 have fc:(execOp (ev f) ⟨some d,.makeSlice t x y,ty,pos,aft,none⟩).run E.P w=.ok (.value (.slice (some ⟨w.heap.size,0,none⟩) n n)) (w.alloc (.cells (List.replicate n z).flatten.toArray t' (0,0))):=by
  simp only [execOp,hx,hy,Sem.run_bind,hmk,Result.andThen_ok,Sem.run_pure,Int.toNat_natCast]
 refine wpList_plain rfl fun K' eA=> ?_
 unfold Oper.wp
 rw [hi.eval,fc]
 have aMW:∀m,ez e G (List.replicate m z) (List.replicate m a0):=by
  intro m
  induction m with
  |zero=>exact trivial
  |succ m ih=>exact⟨hR,ih⟩
 have hzk:z.length=e.k:=Nat.eq_of_beq_eq_true rS
 have rN:(List.replicate n z).flatten.length=n*e.k:=by simp [hzk]
 refine eA _ _ (k _ [(w.heap.size,.cells (List.replicate n z).flatten.toArray t' (0,0))] ⟨List.replicate n z,aMW n,⟨by rw [rN];simp,.inr ⟨_,n,_,by simp,by simp,by simp only [maxLen];omega,by simp [hzk],?_,rfl⟩⟩,by simpa using hn⟩ _ _ Q (hi.put hd _) ?_ hK)
 ·rw [List.length_replicate]
  exact List.take_of_length_le (by rw [List.toList_toArray,rN];exact Nat.le_refl _)
 ·exact hr.alloc _
end
end Go.Fw
