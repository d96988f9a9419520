/- Facts on types and functions of this seat, by program (seat.py). No condition. -/
import Derived.Test.YthhpfadbojfdnaaGreatProg
import Derived.Test.YthhpfadbojfdnaaGreatQiNc
set_option maxRecDepth 100000
set_option linter.unusedVariables false
set_option maxHeartbeats 1600000
set_option linter.unusedSimpArgs false
set_option linter.unnecessarySimpa false
namespace Go.Proofs.YthhpfadbojfdnaaGreat
open Go.Fw
theorem azY:gO Tryz.prog 23=some (true,5):=by kernel_rfl
theorem aiZ:eg Tryz.prog 23=some [.int .i64 0,.int .i64 0,.int .i64 0,.int .i64 0,.int .i64 0]:=by kernel_rfl
theorem apS:cW Tryz.prog 24=some 37:=by kernel_rfl
theorem aGt:eg Tryz.prog 37=some [.int .i64 0,.string ⟨#[]⟩,.string ⟨#[]⟩,.bool false,.string ⟨#[]⟩,.int .i64 0,.int .i64 0]:=by kernel_rfl
theorem aGu:jb Tryz.prog 37=some 80:=by kernel_rfl
theorem cV:gO Tryz.prog 3=some (false,1):=by kernel_rfl
theorem ng:eg Tryz.prog 3=some [.int .i64 0]:=by kernel_rfl
theorem apT:jF Tryz.prog 23=some [(0,1),(1,1),(2,1),(3,1),(4,1)]:=by kernel_rfl
theorem aag:eg Tryz.prog 35=some [.int .i64 0,.string ⟨#[]⟩,.string ⟨#[]⟩,.bool false,.string ⟨#[]⟩,.int .i64 0]:=by kernel_rfl
theorem Ct:gO Tryz.prog 40=some (true,4):=by kernel_rfl
theorem T0:eg Tryz.prog 40=some [.int .i64 0,.bool false,.string ⟨#[]⟩,.slice none 0 0]:=by kernel_rfl
theorem dR:cW Tryz.prog 38=some 50:=by kernel_rfl
theorem ei:gO Tryz.prog 50=some (true,2):=by kernel_rfl
theorem nX:eg Tryz.prog 50=some [.string ⟨#[]⟩,.string ⟨#[]⟩]:=by kernel_rfl
theorem HF:jb Tryz.prog 50=some 32:=by kernel_rfl
theorem aah:jF Tryz.prog 35=some [(0,1),(1,1),(2,1),(3,1),(4,1),(5,1)]:=by kernel_rfl
theorem zk:gO Tryz.prog 4=some (false,1):=by kernel_rfl
theorem zr4:eg Tryz.prog 4=some [.bool false]:=by kernel_rfl
theorem gi:gO Tryz.prog 9=some (false,1):=by kernel_rfl
theorem wy:eg Tryz.prog 9=some [.string ⟨#[]⟩]:=by kernel_rfl
theorem st9:Tryz.prog.underlying 9=some .string:=by kernel_rfl
theorem azZ:jF Tryz.prog 50=some [(0,1),(1,1)]:=by kernel_rfl
theorem aGv:eg Tryz.prog 56=some [.pointer none,.string ⟨#[]⟩]:=by kernel_rfl
theorem aGw:jF Tryz.prog 56=some [(0,1),(1,1)]:=by kernel_rfl
theorem aGx:eg Tryz.prog 62=some [.pointer none,.int .i64 0,.int .i64 0,.int .i64 0]:=by kernel_rfl
theorem aGy:jF Tryz.prog 62=some [(0,1),(1,1),(2,1),(3,1)]:=by kernel_rfl
theorem vW:eg Tryz.prog 67=some [.int .i64 0,.slice none 0 0,.slice none 0 0,.slice none 0 0]:=by kernel_rfl
theorem vX:jF Tryz.prog 67=some [(0,1),(1,1),(2,1),(3,1)]:=by kernel_rfl
theorem aai:HG Tryz.prog 27=true:=by kernel_rfl
theorem az0:jF Tryz.prog 40=some [(0,1),(1,1),(2,1),(3,1)]:=by kernel_rfl
theorem OR:gO Tryz.prog 38=some (false,1):=by kernel_rfl
theorem aGz:eg Tryz.prog 38=some [.slice none 0 0]:=by kernel_rfl
theorem bo4:Tryz.prog.underlying 4=some .bool:=by kernel_rfl
theorem az1:HG Tryz.prog 31=true:=by kernel_rfl
theorem zl:cW Tryz.prog 75=some 60:=by kernel_rfl
theorem tA:gO Tryz.prog 60=some (false,1):=by kernel_rfl
theorem aaj:eg Tryz.prog 60=some [.pointer none]:=by kernel_rfl
theorem apU:jb Tryz.prog 60=some 8:=by kernel_rfl
theorem ai0:o0 Tryz.prog 67 3=some 3:=by kernel_rfl
theorem im:gO Tryz.prog 81=some (true,6):=by kernel_rfl
theorem gL:eg Tryz.prog 81=some [.int .i64 0,.int .i64 0,.string ⟨#[]⟩,.string ⟨#[]⟩,.bool false,.string ⟨#[]⟩]:=by kernel_rfl
theorem aGA:HH Tryz.prog 50=some [.string,.string]:=by kernel_rfl
theorem aCd:eg Tryz.prog 100=some [.int .i64 0,.int .i64 0,.int .i64 0,.int .i64 0,.int .i64 0,.pointer none]:=by kernel_rfl
theorem aCe:jF Tryz.prog 100=some [(0,5),(5,1)]:=by kernel_rfl
theorem vC:cW Tryz.prog 103=some 4:=by kernel_rfl
theorem by4:jb Tryz.prog 4=some 1:=by kernel_rfl
theorem apV:eg Tryz.prog 106=some [.slice none 0 0,.slice none 0 0,.slice none 0 0]:=by kernel_rfl
theorem apW:jF Tryz.prog 106=some [(0,1),(1,1),(2,1)]:=by kernel_rfl
theorem apX:gO Tryz.prog 104=some (false,1):=by kernel_rfl
theorem kF:cW Tryz.prog 104=some 3:=by kernel_rfl
theorem HI:jb Tryz.prog 3=some 8:=by kernel_rfl
theorem FR:yt Tryz.prog 108=true:=by kernel_rfl
theorem aak:HG Tryz.prog 57=true:=by kernel_rfl
theorem pi3:yt Tryz.prog 3=true:=by kernel_rfl
theorem az2:gO Tryz.prog 75=some (false,1):=by kernel_rfl
theorem afj:gO Tryz.prog 103=some (false,1):=by kernel_rfl
theorem jQ:gO Tryz.prog 98=some (true,10):=by kernel_rfl
theorem cK:eg Tryz.prog 98=some [.int .i64 0,.int .i64 0,.slice none 0 0,.slice none 0 0,.string ⟨#[]⟩,.bool false,.int .i64 0,.int .i64 0,.slice none 0 0,.slice none 0 0]:=by kernel_rfl
theorem jG:gO Tryz.prog 73=some (true,3):=by kernel_rfl
theorem fR:eg Tryz.prog 73=some [.string ⟨#[]⟩,.string ⟨#[]⟩,.bool false]:=by kernel_rfl
theorem gQ:cW Tryz.prog 96=some 81:=by kernel_rfl
theorem BL:jb Tryz.prog 81=some 72:=by kernel_rfl
theorem ai1:o0 Tryz.prog 73 0=some 0:=by kernel_rfl
theorem zm:jF Tryz.prog 73=some [(0,1),(1,1),(2,1)]:=by kernel_rfl
theorem W5:o0 Tryz.prog 67 0=some 0:=by kernel_rfl
theorem ai2:o0 Tryz.prog 67 2=some 2:=by kernel_rfl
theorem HJ:gO Tryz.prog 65=some (false,1):=by kernel_rfl
theorem aGB:eg Tryz.prog 65=some [.slice none 0 0]:=by kernel_rfl
theorem ai3:o0 Tryz.prog 67 1=some 1:=by kernel_rfl
theorem aal:gO Tryz.prog 64=some (false,1):=by kernel_rfl
theorem aGC:eg Tryz.prog 64=some [.slice none 0 0]:=by kernel_rfl
theorem dL:cW Tryz.prog 64=some 9:=by kernel_rfl
theorem by9:jb Tryz.prog 9=some 16:=by kernel_rfl
theorem dG:cW Tryz.prog 65=some 3:=by kernel_rfl
theorem az3:gO Tryz.prog 57=some (false,1):=by kernel_rfl
theorem apY:jF Tryz.prog 81=some [(0,1),(1,1),(2,1),(3,1),(4,1),(5,1)]:=by kernel_rfl
theorem BM:eg Tryz.prog 86=some [.int .i64 0,.string ⟨#[]⟩]:=by kernel_rfl
theorem HK:jF Tryz.prog 86=some [(0,1),(1,1)]:=by kernel_rfl
theorem W6:o0 Tryz.prog 73 2=some 2:=by kernel_rfl
theorem W7:o0 Tryz.prog 73 1=some 1:=by kernel_rfl
theorem mI:cW Tryz.prog 144=some 98:=by kernel_rfl
theorem HL:jb Tryz.prog 98=some 152:=by kernel_rfl
theorem apZ:eg Tryz.prog 149=some [.slice none 0 0,.slice none 0 0,.slice none 0 0]:=by kernel_rfl
theorem ap0:jF Tryz.prog 149=some [(0,1),(1,1),(2,1)]:=by kernel_rfl
theorem HM:HG Tryz.prog 52=true:=by kernel_rfl
theorem HN:jF Tryz.prog 98=some [(0,1),(1,1),(2,1),(3,1),(4,1),(5,1),(6,1),(7,1),(8,1),(9,1)]:=by kernel_rfl
theorem qL:cW Tryz.prog 156=some 73:=by kernel_rfl
theorem T6:jb Tryz.prog 73=some 40:=by kernel_rfl
theorem T7:gO Tryz.prog 96=some (false,1):=by kernel_rfl
theorem ai4:eg Tryz.prog 96=some [.slice none 0 0]:=by kernel_rfl
theorem J6:cW Tryz.prog 160=some 96:=by kernel_rfl
theorem az4:jb Tryz.prog 96=some 24:=by kernel_rfl
theorem aam:HG Tryz.prog 93=true:=by kernel_rfl
theorem ai5:W8 Tryz.prog 23 1=some (false,1,1):=by kernel_rfl
theorem ai6:W8 Tryz.prog 23 2=some (false,2,1):=by kernel_rfl
theorem un3:Tryz.prog.underlying 3=some (.int .i64):=by kernel_rfl
theorem J7:Tryz.prog.underlying 209=some (.int .u64):=by kernel_rfl
theorem pF:cW Tryz.prog 235=some 237:=by kernel_rfl
theorem jq:gO Tryz.prog 237=some (true,2):=by kernel_rfl
theorem vD:eg Tryz.prog 237=some [.slice none 0 0,.int .i64 0]:=by kernel_rfl
theorem ap1:jb Tryz.prog 237=some 32:=by kernel_rfl
theorem afk:yt Tryz.prog 233=true:=by kernel_rfl
theorem aCf:jF Tryz.prog 237=some [(0,1),(1,1)]:=by kernel_rfl
theorem OS:yt Tryz.prog 237=true:=by kernel_rfl
theorem ap2:cW Tryz.prog 262=some 38:=by kernel_rfl
theorem ap3:cW Tryz.prog 266=some 64:=by kernel_rfl
theorem ap4:cW Tryz.prog 268=some 65:=by kernel_rfl
theorem az5:jR Tryz.prog 25:=lh Tryz.func25 rfl (by decide)
theorem aGD:jR Tryz.prog 27:=lh Tryz.func27 rfl (by decide)
theorem qX:jR Tryz.prog 58:=lh Tryz.func58 rfl (by decide)
theorem az6:jR Tryz.prog 59:=lh Tryz.func59 rfl (by decide)
theorem aGE:jR Tryz.prog 68:=lh Tryz.func68 rfl (by decide)
theorem aGF:jR Tryz.prog 69:=lh Tryz.func69 rfl (by decide)
theorem ap5:jR Tryz.prog 96:=lh Tryz.func96 rfl (by decide)
theorem mix:Tryz.prog.follows .mixedOrders=true:=by kernel_rfl
end Go.Proofs.YthhpfadbojfdnaaGreat
theorem List.Sublist.k9{α:Type}{a:α}{l l':List α}(h:l.Sublist l'):(a::l).Sublist (a::l'):=h.cons_cons a
namespace Go.Fw
open Go Go.RowKit
variable {α:Type}
theorem iD{l:List α} :List.Sublist [] l:=NF l
theorem bB{l:List α} :List.Sublist l l:=WJ l
theorem ah{l:List α} :List.Perm l l:=tJ l
abbrev nd9 {a b:Int} {c:Option Addr} {d e:Nat} {f:Option Addr} {g h:Nat} {i:ByteArray} {j:Bool} {k l:Int} {m:Option Addr} {n o:Nat} {p:Option Addr} {q r:Nat} :List Value:=[.int .i64 a,.int .i64 b,.slice c d e,.slice f g h,.string i,.bool j,.int .i64 k,.int .i64 l,.slice m n o,.slice p q r]
abbrev j7 (x:Nd) (a1:Option Addr) (c1:Nat) (a2:Option Addr) (c2:Nat) (a3:Option Addr) (c3:Nat) (a4:Option Addr) (c4:Nat):List Value:=[.int .i64 x.slot,.int .i64 x.level,.slice a1 x.ab.length c1,.slice a2 x.kids.length c2,.string x.high.b,.bool x.fp,.int .i64 x.right,.int .i64 x.seen,.slice a3 x.aj.length c3,.slice a4 x.rows.length c4]
abbrev ms9 {a b:Int} {c d:ByteArray} {e:Bool} {f:ByteArray} :List Value:=[.int .i64 a,.int .i64 b,.string c,.string d,.bool e,.string f]
abbrev vE {a b:ByteArray} {c:Bool} :List Value:=[.string a,.string b,.bool c]
abbrev cf9 {a b c d e:Int} :List Value:=[.int .i64 a,.int .i64 b,.int .i64 c,.int .i64 d,.int .i64 e]
abbrev kB {a:Int} :List Value:=[.int .i64 a]
abbrev TE {a:ByteArray} :List Value:=[.string a]
abbrev bc9 {a:Bool} :List Value:=[.bool a]
abbrev AD {a:Option Addr} {b c:Nat} :List Value:=[.slice a b c]
abbrev ef9 {a:Int} {b:ByteArray} :List Value:=[.int .i64 a,.string b]
abbrev OT {a b:ByteArray} :List Value:=[.string a,.string b]
variable {E:Env} {G:GH} {L:List Value} {M:MH} {T:TypeId} {aft:Array Edge} {b:Nat} {bb:Bool} {d:Nat} {f:Fr} {j:Nat} {o:Nat} {t:TypeId} {ty:TypeId} {x:Operand}
theorem AE{pos:String}(i:Nat)(vs:List Value)(ht:gO E.P t=some (bb,j))
    (hq:(ev f x,uI M i,(L.drop o).take j,vs.length)=(.pointer (some ⟨b,o,none⟩),some (b,.cells L.toArray T (0,0)),vs,j))(hb:bb=false→j=1:=by simp):Ok E f G M ⟨some d,.load t x,ty,pos,aft,none⟩ (HO bb vs):=by
  obtain⟨h1,h⟩:=rD hq
  obtain⟨h2,h⟩:=rD h
  obtain⟨h3,h4⟩:=rD h
  exact zn ht h1 h2 h3 h4 hb
variable {ops:List Oper}
theorem W.fb{rest:List Oper}{q:Bool}{K:Kt}{pos:String}{off:Nat}(ht:o0 E.P t j=some off)(hx:ev f x=.pointer (some ⟨b,o,none⟩))
    (k:W E ops.toArray q rest (jP f d (.pointer (some ⟨b,o+off,none⟩))) G M K)(hd:Nat.blt d E.n=true:=by rfl):W E ops.toArray q (⟨some d,.fieldAddr t x j,ty,pos,aft,none⟩::rest) f G M K:=W.ok (FT ht hx) k hd
theorem W.st{rest:List Oper}{K:Kt}{pos:String}{y:Operand}(i:Nat)(vs L':List Value){v:Value}(ht:gO E.P t=some (bb,j))
    (hq:(ev f x,uI M i,ev f y,v.cells.toList,vs.length,vs.all Value.oneCell',Nat.ble (o+j) L.length,setAt L o vs)=(.pointer (some ⟨b,o,none⟩),some (b,.cells L.toArray T (0,0)),v,vs,j,true,true,L'))
    (k:W E ops.toArray false rest f G (qY M i (.cells L'.toArray T (0,0))) K):W E ops.toArray false (⟨none,.store t x y,ty,pos,aft,none⟩::rest) f G M K:=by
  obtain⟨h1,h⟩:=rD hq
  obtain⟨h2,h⟩:=rD h
  obtain⟨h3,h⟩:=rD h
  obtain⟨h4,h⟩:=rD h
  obtain⟨h5,h⟩:=rD h
  obtain⟨h6,h⟩:=rD h
  obtain⟨h7,h8⟩:=rD h
  exact W.store ht h1 h2 h3 h4 h5 h6 h7 h8 k
variable {b:Bool} {dj:Nat} {op:Op} {want:Bool}
theorem W.y9{rest:List Oper}{q:Bool}{K:Kt}{pos:String}{dst:Option Nat}(hn:b=want)(hq:((ops.toArray[j]?).bind (·.dst),f dj)=(some dj,.bool b))
    (k:W E ops.toArray q (⟨dst,op,ty,pos,aft,none⟩::rest) f G M K)(J8:Nat.blt dj E.n=true:=by rfl):W E ops.toArray q (⟨dst,op,ty,pos,aft,some (j,want)⟩::rest) f G M K:=W.yes (rD hq).1 (rD hq).2 hn k J8
theorem W.n8{rest:List Oper}{q:Bool}{K:Kt}{pos:String}(hn:b= !want)(hq:((ops.toArray[j]?).bind (·.dst),f dj)=(some dj,.bool b))
    (k:W E ops.toArray q rest (jP f d undef) G M K)(hd:Nat.blt d E.n=true:=by rfl):W E ops.toArray q (⟨some d,op,ty,pos,aft,some (j,want)⟩::rest) f G M K:=W.no (rD hq).1 (rD hq).2 hn k hd
variable {Q:Exit→Kt}
theorem W.nt{q:Bool}{K:Kt}(h:K f G M):W E ops.toArray q [] f G M (Ck K Q .normal):=W.nil (jH h)
variable {id:Nat} {l:List Oper} {y:Code}
theorem WC.sr(h:W E l.toArray false l f G M (Ck (WC E y Q) Q .normal)):WC E (.seq (.region id l.toArray false) y) Q f G M:=WC.seq (WC.region h)
theorem W.ns{q:Bool}{Q':Exit→Kt}(h:W E l.toArray false l f G M (Ck (WC E y Q) Q .normal)):W E ops.toArray q [] f G M (Ck (WC E (.seq (.region id l.toArray false) y) Q) Q' .normal):=W.nt (WC.sr h)
theorem W.an{q:Bool}{K:Kt}{pos:String}(k:K (jP f d (ev f x)) G M)(hd:Nat.blt d E.n=true:=by rfl):W E ops.toArray q [⟨some d,.assign x,ty,pos,aft,none⟩] f G M (Ck K Q .normal):=W.as (W.nt k) hd
theorem WC.sk{K:Kt}(h:K f G M):WC E .skip (Ck K Q) f G M:=WC.skip (jH h)
theorem WC.rt{K:Kt}(h:Q .ret f G M):WC E .ret (Ck K Q) f G M:=WC.ret (ap6 h)
theorem WD.dn{Mk:MH}{ops:Array Oper}{K:Kt}{dS:Nat}{bS:Array Bool}(h:K f G M)(hr:Region.ready .any ops bS=[]:=by kernel_rfl):WD E ops dS bS f G M Mk (Ck K Q .normal):=WD.done hr (jH h)
variable {p:Prop}
theorem Cu [Decidable p](h:decide p=true):p:=jW h
theorem OU [Decidable p](h:decide p=false):¬p:=Au h
variable {a3:Option Addr} {a4:Option Addr}
theorem gp{n:Nd}{a1 a2:Option Addr}{c1 c2 c3 c4:Nat}(h1:az cy G (.slice a1 n.ab.length c1) n.ab)(h2:az bE G (.slice a2 n.kids.length c2) n.kids)(h3:az dy G (.slice a3 n.aj.length c3) n.aj)(h4:az aU G (.slice a4 n.rows.length c4) n.rows)(h:n.Ok):
    cc G [.int .i64 n.slot,.int .i64 n.level,.slice a1 n.ab.length c1,.slice a2 n.kids.length c2,.string n.high.b,.bool n.fp,.int .i64 n.right,.int .i64 n.seen,.slice a3 n.aj.length c3,.slice a4 n.rows.length c4] n:=⟨_,_,_,_,_,_,_,_,rfl,h1,h2,h3,h4,h⟩
theorem gE{G':GH}{n:Nd}{a1 a2:Option Addr}{c1 c2 c3 c4:Nat}(hl:Le G G')(h1:az cy G (.slice a1 n.ab.length c1) n.ab)(h2:az bE G (.slice a2 n.kids.length c2) n.kids)(h3:az dy G (.slice a3 n.aj.length c3) n.aj)(h4:az aU G (.slice a4 n.rows.length c4) n.rows)(h:n.Ok):
    cc G' [.int .i64 n.slot,.int .i64 n.level,.slice a1 n.ab.length c1,.slice a2 n.kids.length c2,.string n.high.b,.bool n.fp,.int .i64 n.right,.int .i64 n.seen,.slice a3 n.aj.length c3,.slice a4 n.rows.length c4] n:=(gp h1 h2 h3 h4 h).mono hl
end Go.Fw
namespace Go.Proofs.YthhpfadbojfdnaaGreat
open Go Go.Fw
instance : nO Tryz.prog 23 true 5 := ⟨azY⟩
instance : Cl Tryz.prog 24 37 := ⟨apS⟩
instance : nO Tryz.prog 37 true 7 := ⟨by kernel_rfl⟩
instance : io Tryz.prog 23 0 0 := ⟨by kernel_rfl⟩
instance : nO Tryz.prog 3 false 1 := ⟨cV⟩
instance : io Tryz.prog 23 1 1 := ⟨by kernel_rfl⟩
instance : io Tryz.prog 37 0 0 := ⟨by kernel_rfl⟩
instance : nO Tryz.prog 35 true 6 := ⟨by kernel_rfl⟩
instance : nO Tryz.prog 40 true 4 := ⟨Ct⟩
instance : io Tryz.prog 40 0 0 := ⟨by kernel_rfl⟩
instance : nO Tryz.prog 28 false 1 := ⟨by kernel_rfl⟩
instance : io Tryz.prog 37 1 6 := ⟨by kernel_rfl⟩
instance : Cl Tryz.prog 38 50 := ⟨dR⟩
instance : nO Tryz.prog 50 true 2 := ⟨ei⟩
instance : io Tryz.prog 40 1 1 := ⟨by kernel_rfl⟩
instance : nO Tryz.prog 4 false 1 := ⟨zk⟩
instance : io Tryz.prog 40 2 2 := ⟨by kernel_rfl⟩
instance : nO Tryz.prog 9 false 1 := ⟨gi⟩
instance : StK Tryz.prog 9 := ⟨st9⟩
instance : io Tryz.prog 23 3 3 := ⟨by kernel_rfl⟩
instance : io Tryz.prog 62 1 1 := ⟨by kernel_rfl⟩
instance : io Tryz.prog 35 0 0 := ⟨by kernel_rfl⟩
instance : io Tryz.prog 56 0 0 := ⟨by kernel_rfl⟩
instance : nO Tryz.prog 52 false 1 := ⟨by kernel_rfl⟩
instance : io Tryz.prog 35 1 1 := ⟨by kernel_rfl⟩
instance : io Tryz.prog 35 5 5 := ⟨by kernel_rfl⟩
instance : io Tryz.prog 40 3 3 := ⟨by kernel_rfl⟩
instance : nO Tryz.prog 38 false 1 := ⟨OR⟩
instance : BoK Tryz.prog 4 := ⟨bo4⟩
instance : Cl Tryz.prog 75 60 := ⟨zl⟩
instance : nO Tryz.prog 60 false 1 := ⟨tA⟩
instance : io Tryz.prog 67 3 3 := ⟨ai0⟩
instance : io Tryz.prog 50 0 0 := ⟨by kernel_rfl⟩
instance : nO Tryz.prog 81 true 6 := ⟨im⟩
instance : io Tryz.prog 56 1 1 := ⟨by kernel_rfl⟩
instance : io Tryz.prog 35 2 2 := ⟨by kernel_rfl⟩
instance : io Tryz.prog 35 4 4 := ⟨by kernel_rfl⟩
instance : Cl Tryz.prog 103 4 := ⟨vC⟩
instance : io Tryz.prog 106 2 2 := ⟨by kernel_rfl⟩
instance : nO Tryz.prog 104 false 1 := ⟨apX⟩
instance : Cl Tryz.prog 104 3 := ⟨kF⟩
instance : io Tryz.prog 106 0 0 := ⟨by kernel_rfl⟩
instance : nO Tryz.prog 75 false 1 := ⟨az2⟩
instance : io Tryz.prog 106 1 1 := ⟨by kernel_rfl⟩
instance : nO Tryz.prog 103 false 1 := ⟨afj⟩
instance : io Tryz.prog 35 3 3 := ⟨by kernel_rfl⟩
instance : nO Tryz.prog 98 true 10 := ⟨jQ⟩
instance : nO Tryz.prog 73 true 3 := ⟨jG⟩
instance : io Tryz.prog 98 9 9 := ⟨by kernel_rfl⟩
instance : Cl Tryz.prog 96 81 := ⟨gQ⟩
instance : io Tryz.prog 73 0 0 := ⟨ai1⟩
instance : io Tryz.prog 67 0 0 := ⟨W5⟩
instance : io Tryz.prog 67 2 2 := ⟨ai2⟩
instance : nO Tryz.prog 65 false 1 := ⟨HJ⟩
instance : io Tryz.prog 67 1 1 := ⟨ai3⟩
instance : nO Tryz.prog 64 false 1 := ⟨aal⟩
instance : Cl Tryz.prog 64 9 := ⟨dL⟩
instance : Cl Tryz.prog 65 3 := ⟨dG⟩
instance : io Tryz.prog 50 1 1 := ⟨by kernel_rfl⟩
instance : io Tryz.prog 62 0 0 := ⟨by kernel_rfl⟩
instance : nO Tryz.prog 57 false 1 := ⟨az3⟩
instance : nO Tryz.prog 86 true 2 := ⟨by kernel_rfl⟩
instance : io Tryz.prog 62 3 3 := ⟨by kernel_rfl⟩
instance : io Tryz.prog 81 1 1 := ⟨by kernel_rfl⟩
instance : io Tryz.prog 81 5 5 := ⟨by kernel_rfl⟩
instance : io Tryz.prog 73 2 2 := ⟨W6⟩
instance : io Tryz.prog 73 1 1 := ⟨W7⟩
instance : Cl Tryz.prog 144 98 := ⟨mI⟩
instance : io Tryz.prog 23 2 2 := ⟨by kernel_rfl⟩
instance : io Tryz.prog 23 4 4 := ⟨by kernel_rfl⟩
instance : io Tryz.prog 149 2 2 := ⟨by kernel_rfl⟩
instance : io Tryz.prog 100 1 5 := ⟨by kernel_rfl⟩
instance : nO Tryz.prog 93 false 1 := ⟨by kernel_rfl⟩
instance : io Tryz.prog 98 0 0 := ⟨by kernel_rfl⟩
instance : Cl Tryz.prog 156 73 := ⟨qL⟩
instance : io Tryz.prog 98 8 8 := ⟨by kernel_rfl⟩
instance : nO Tryz.prog 96 false 1 := ⟨T7⟩
instance : Cl Tryz.prog 160 96 := ⟨J6⟩
instance : io Tryz.prog 98 7 7 := ⟨by kernel_rfl⟩
instance : io Tryz.prog 98 1 1 := ⟨by kernel_rfl⟩
instance : io Tryz.prog 62 2 2 := ⟨by kernel_rfl⟩
instance : io Tryz.prog 81 2 2 := ⟨by kernel_rfl⟩
instance : io Tryz.prog 81 3 3 := ⟨by kernel_rfl⟩
instance : io Tryz.prog 81 4 4 := ⟨by kernel_rfl⟩
instance : io Tryz.prog 149 0 0 := ⟨by kernel_rfl⟩
instance : nO Tryz.prog 144 false 1 := ⟨by kernel_rfl⟩
instance : io Tryz.prog 149 1 1 := ⟨by kernel_rfl⟩
instance : io Tryz.prog 98 2 2 := ⟨by kernel_rfl⟩
instance : io Tryz.prog 98 3 3 := ⟨by kernel_rfl⟩
instance : io Tryz.prog 81 0 0 := ⟨by kernel_rfl⟩
instance : io Tryz.prog 86 0 0 := ⟨by kernel_rfl⟩
instance : io Tryz.prog 100 0 0 := ⟨by kernel_rfl⟩
instance : io Tryz.prog 86 1 1 := ⟨by kernel_rfl⟩
instance : Cl Tryz.prog 235 237 := ⟨pF⟩
instance : nO Tryz.prog 237 true 2 := ⟨jq⟩
instance : nO Tryz.prog 235 false 1 := ⟨by kernel_rfl⟩
instance : io Tryz.prog 237 0 0 := ⟨by kernel_rfl⟩
instance : Cl Tryz.prog 262 38 := ⟨ap2⟩
instance : Cl Tryz.prog 266 64 := ⟨ap3⟩
instance : Cl Tryz.prog 268 65 := ⟨ap4⟩
instance : io Tryz.prog 98 4 4 := ⟨by kernel_rfl⟩
instance : io Tryz.prog 98 5 5 := ⟨by kernel_rfl⟩
instance : io Tryz.prog 98 6 6 := ⟨by kernel_rfl⟩
instance : io Tryz.prog 237 1 1 := ⟨by kernel_rfl⟩
instance : ap7 Tryz.prog := ⟨mix⟩
end Go.Proofs.YthhpfadbojfdnaaGreat
namespace Go.Proofs.YthhpfadbojfdnaaGreat
open Go Go.Fw Go.RowKit
attribute [local irreducible] Ok W WC
variable {G:GH}
theorem yu  :
    Fc Tryz.prog 35 [] G [] (fun v _ _=>v=.agg (List.toArray ((Span.all:Span).cells))):=by
 refine Fc.go [.cell 0 73] Tryz.func35 Tryz.ntmps35 rfl (fun w0=>(g9 2 ?_))
 refine W.alloc fR (fun b1=>(g9 4 ?_))
 refine W.ok (aY (L:=[sV _,sV _,.bool _]) zm fR rfl rfl rfl) (g9 5 ?_)
 rfl

theorem pW(df:af)(dh:af)(so:Bool):
    Fc Tryz.prog 47 [.agg #[sV df.b,sV dh.b,.bool so]] G [] (fun v _ _=>v=.bool (Span.empty ⟨df,dh,so⟩)):=by
 refine Fc.go [.tmp 2] Tryz.func47 Tryz.ntmps47 rfl (fun w0=>(g9 2 ?_))
 refine W.box (L:=[sV _,sV _,.bool _]) rfl rfl (fun b2=>(g9 9 ?_))
 refine W.sp 6 rfl (fun h5=> ?_) (fun h5=> ?_)
 ·refine g9 9 ?_
  refine W.ok (HP rfl rfl) (g9 6 ?_)
  refine ax Value.bool ?_
  simp_all [Span.empty,af.lt]
 refine g9 11 ?_
 refine ax Value.bool ?_
 simp_all [Span.empty,af.lt]

theorem lj(df:af)(dh:af)(so:Bool):
    Fc Tryz.prog 51 [.agg #[sV df.b,sV dh.b,.bool so]] G [] (fun v _ _=>v=.agg (List.toArray ((Span.norm ⟨df,dh,so⟩:Span).cells))):=by
 refine Fc.go [.cell 2 73] Tryz.func51 Tryz.ntmps51 rfl (fun w0=>(g9 2 ?_))
 refine W.box (L:=[sV _,sV _,.bool _]) rfl rfl (fun b3=>(W.alloc fR (fun b4=>(g9 7 ?_))))
 refine W.aH (pW _ _ _) rfl (g9 3 ?_)
 refine WC.cond rfl (fun h5=> ?_) (fun h5=> ?_)
 ·refine g9 2 ?_
  refine W.ok (aY (L:=[sV _,sV _,.bool _]) zm fR rfl rfl rfl) (g9 7 ?_)
  refine ax (fun l=>Value.agg (List.toArray l)) ?_
  show [Value.string _,Value.string _,Value.bool _]=_
  simp_all [Span.norm,Span.cells,Span.zero,af.nil,setAt]
 refine g9 7 ?_
 refine WC.cond rfl (fun w7=> ?_) (fun w7=> ?_)
 ·refine g9 14 ?_
  refine ax (fun l=>Value.agg (List.toArray l)) ?_
  show [Value.string _,Value.string _,Value.bool _]=_
  simp_all [Span.norm,Span.cells,Span.zero,af.nil,setAt]
 refine g9 11 ?_
 refine ax (fun l=>Value.agg (List.toArray l)) ?_
 show [Value.string _,Value.string _,Value.bool _]=_
 simp_all [Span.norm,Span.cells,Span.zero,af.nil,setAt]

theorem uJ(df:af)(dh:af)(so:Bool)(k:af):
    Fc Tryz.prog 71 [.agg #[sV df.b,sV dh.b,.bool so],sV k.b] G [] (fun v _ _=>v=.bool (Span.has ⟨df,dh,so⟩ k)):=by
 refine Fc.go [.tmp 4] Tryz.func71 Tryz.ntmps71 rfl (fun w0=>(g9 2 ?_))
 refine W.box (L:=[sV _,sV _,.bool _]) rfl rfl (fun b5=>(g9 8 ?_))
 refine W.ok (HP rfl rfl) (W.mv ?_)
 refine W.sp 9 rfl (fun h8=> ?_) (fun h8=> ?_)
 ·refine g9 6 ?_
  refine W.sp 12 rfl (fun w7=> ?_) (fun w7=> ?_)
  ·refine g9 12 ?_
   refine ax Value.bool ?_
   simp_all [Span.has,af.lt]
  refine g9 16 ?_
  refine ax Value.bool ?_
  simp_all [Span.has,af.lt]
 refine g9 14 ?_
 refine ax Value.bool ?_
 simp_all [Span.has,af.lt]

theorem FU{Cv:Value}{p:List af}(jr:az cy G Cv p){mJ:Value}{c:List Int}(gd:az bE G mJ c):
    Fc Tryz.prog 113 [Cv,mJ] G [] (fun v _ _=>v=.bool (fA p c.length)):=by
 obtain⟨LQ,LR,rfl⟩:=jr.form
 obtain⟨gR,gS,rfl⟩:=gd.form
 have hc:=gd.bq
 have hp:=jr.bq
 refine Fc.go [.tmp 4] Tryz.func113 Tryz.ntmps113 rfl (fun w0=>(g9 12 ?_))
 refine WC.loop (X:=Nat) (fun k=>[(5,aK (k+1)),(0,lV LQ p.length LR),(1,lV gR c.length gS)]) (fun k _ Ml=>Ml=[]∧∀i (h:i+1<p.length),i<k→p[i].lt p[i+1]=true) (fun k=>p.length-k) 0 ct ?_ ?_
 ·exact⟨rfl,fun i _ h=>by omega⟩
 rintro k gG6 G6 _ vF ⟨rfl,hk⟩
 refine g9 9 ?_
 refine WC.cd (fun h9 p9=> ?_) (fun h9 p9=> ?_)
 ·refine g9 9 ?_
  refine(jr.mono vF).a1 (i:=k) aa (fun he7=>(W.ok (bd (i:=k) dL gi (jr.mono vF) rfl rfl ⟨aa,aa⟩) (g9 3 ?_)))
  refine(jr.mono vF).a1 (i:=k+1) aa (fun ap8=>(W.ok (bd (i:=k+1) dL gi (jr.mono vF) rfl rfl ⟨aa,aa⟩) (g9 1 ?_)))
  refine W.ok (HP rfl rfl) (g9 2 ?_)
  refine WC.cond rfl (fun Cw=> ?_) (fun Cw=> ?_)
  ·refine g9 12 ?_
   refine ax Value.bool ?_
   simp [fA,aan (l:=p) (i:=k) aa (by simpa [af.lt]using Cw)]
  refine g9 9 ?_
  exact⟨Le.rfl,k+1,ct,⟨rfl,fun i h hi=>by
      by_cases e:i=k
      ·subst e;simpa [af.lt]using Cw
      ·exact hk i h aa⟩,aa⟩
 refine g9 11 ?_
 refine W.sd 25 (fun h24 p24=> ?_) (fun h24 p24=> ?_)
 ·refine g9 18 ?_
  refine ax Value.bool ?_
  simp only [fA,iq.2 (fun i h=>hk i h aa),vw]
  first|(rw [rL];omega)|(symm;rw [lR];omega)
 refine g9 12 ?_
 refine ax Value.bool ?_
 simp only [fA,iq.2 (fun i h=>hk i h aa),vw]
 first|(rw [rL];omega)|(symm;rw [lR];omega)

theorem Kc(a:af):
    Fc Tryz.prog 156 [sV a.b] G [] (fun v _ _=>v=.bool (false)):=by
 refine Fc.go [.tmp 2] Tryz.func156 Tryz.ntmps156 rfl (fun w0=>(g9 15 ?_))
 refine ax Value.bool ?_
 simp

theorem afl(a:af):
    Fc Tryz.prog 125 [sV a.b] G [] (fun v _ _=>v=.bool (false)):=by
 refine Fc.go [.tmp 2] Tryz.func125 Tryz.ntmps125 rfl (fun w0=>(g9 15 ?_))
 refine ax Value.bool ?_
 simp

theorem aao(a:af)(b:af):
    Fc Tryz.prog 124 [sV a.b,sV b.b] G [] (fun v _ _=>v=.bool (af.lt a b)):=by
 refine Fc.go [.tmp 4] Tryz.func124 Tryz.ntmps124 rfl (fun w0=>(g9 8 ?_))
 refine W.aH (Kc _) rfl (W.mv ?_)
 refine W.sp 7 rfl (fun h6=> ?_) (fun h6=> ?_)
 ·cases h6
 refine g9 17 ?_
 refine ax Value.bool ?_
 rfl

variable {l:List af} {dH:Value}
theorem aap(aQ:az cy G dH l)(k:af)(hr:rising l=true):
    Fc Tryz.prog 91 [dH,sV k.b] G [] (fun v _ _=>v=.tuple #[iV (((gf l k:Nat):Int)),.bool (decide (l[gf l k]?=some k))]):=by
 obtain⟨dz,dA,rfl⟩:=aQ.form
 have hlen:=aQ.bq
 refine Fc.go [.tmp 4,.tmp 5] Tryz.func91 Tryz.ntmps91 rfl (fun w0=>(g9 22 ?_))
 refine WC.loop (X:=Nat×Nat) (fun x=>[(6,aK l.length),(7,aK x.1),(8,aK x.2),(0,lV dz l.length dA),(1,sV k.b)]) (fun x _ Ml=>Ml=[]∧x.1≤x.2∧x.2≤l.length∧(∀q (h:q<l.length),q<x.1→l[q].lt k=true)∧(∀q (h:q<l.length),x.2≤q→l[q].lt k=false)) (fun x=>x.2-x.1) (0,l.length) ct ?_ ?_
 ·exact⟨rfl,by simp,by simp,(fun q _ h=>by simp at h),(fun q h h'=>by simp at h';omega)⟩
 rintro⟨i,j⟩ az7 Xa _ lT ⟨rfl,hi,hj,h1,h2⟩
 dsimp only at hi hj h1 h2
 refine g9 8 ?_
 refine WC.cd (fun tQ zo=> ?_) (fun tQ zo=> ?_)
 ·refine g9 8 ?_
  refine W.ok (Kd un3 J7 rfl aa) (W.ok (OV rfl rfl aa) (W.ok (Ke J7 un3 rfl aa) (g9 7 ?_)))
  refine(aQ.mono lT).a1 (i:=(i+j) / 2) aa (fun aGG=>(W.ok (bd (i:=(i+j) / 2) dL gi (aQ.mono lT) rfl rfl ⟨by dsimp only;omega,aa⟩) (g9 2 ?_)))
  refine W.aH (aao _ _) rfl (g9 2 ?_)
  refine WC.cond rfl (fun Cx=> ?_) (fun Cx=> ?_)
  ·refine g9 7 ?_
   exact⟨Le.rfl,((i+j) / 2+1,j),ct,⟨rfl,by dsimp only;omega,by dsimp only;omega,(fun q h hq=>TF hr aa Cx q h (by dsimp only at hq;omega)),h2⟩,by dsimp only;omega⟩
  refine g9 6 ?_
  exact⟨Le.rfl,(i,(i+j) / 2),ct,⟨rfl,by dsimp only;omega,by dsimp only;omega,h1,(fun q h hq=>Fg hr aa Cx q h (by dsimp only at hq;omega))⟩,by dsimp only;omega⟩
 refine g9 12 ?_
 refine W.sd 35 (fun Xb Kf=> ?_) (fun Xb Kf=> ?_)
 ·refine g9 5 ?_
  refine(aQ.mono lT).a1 (i:=i) aa (fun aGH=>(g9 9 ?_))
  refine W.sd 42 (fun h41 p41=> ?_) (fun h41 p41=> ?_)
  ·refine g9 18 ?_
   have qZ:gf l k=i:=wz aa h1 (fun q h hq=>h2 q h aa)
   refine OW (by rw [qZ]) ?_
   rw [qZ]
   simp only [af.AF]at p41
   rw [eY aa]
   simp [p41]
  refine g9 5 ?_
  refine(aQ.mono lT).a1 (i:=i) aa (fun aPU=>(g9 4 ?_))
  refine W.aH (afl _) rfl (g9 2 ?_)
  refine W.sp 48 rfl (fun h47=> ?_) (fun h47=> ?_)
  ·cases h47
  refine g9 13 ?_
  have qZ:gf l k=i:=wz aa h1 (fun q h hq=>h2 q h aa)
  refine OW (by rw [qZ]) ?_
  rw [qZ]
  simp only [af.AF]at p41
  rw [eY aa]
  simp [p41]
 refine g9 24 ?_
 have qZ:gf l k=i:=wz aa h1 (fun q h hq=>h2 q h aa)
 refine OW (by rw [qZ]) ?_
 rw [qZ]
 rw [rE aa]<;>simp

theorem mL(aQ:az cy G dH l)(k:af)(hr:rising l=true):
    Fc Tryz.prog 59 [dH,sV k.b] G [] (fun v _ _=>v=iV (((ae l k:Nat):Int))):=by
 obtain⟨dz,dA,rfl⟩:=aQ.form
 have eG:=OX l k
 have hlen:=aQ.bq
 refine Fc.go [.tmp 4] Tryz.func59 Tryz.ntmps59 rfl (fun w0=>(g9 9 ?_))
 refine W.aH (aap aQ _ (by assumption)) rfl (g9 13 ?_)
 refine WC.cond rfl (fun afm=> ?_) (fun afm=> ?_)
 ·refine g9 14 ?_
  exact iv (zp hr (Cu afm))
 refine g9 10 ?_
 exact iv (BN hr (OU afm))

theorem lH(aQ:az cy G dH l)(i:Int)(hi:i64 i):
    Fc Tryz.prog 63 [dH,iV i] G [] (fun v _ _=>v=.agg (List.toArray ((aA l i:Span).cells))):=by
 obtain⟨dz,dA,rfl⟩:=aQ.form
 have hl:=aQ.bq
 obtain⟨tw,jY⟩:=hi
 refine Fc.go [.cell 4 73] Tryz.func63 Tryz.ntmps63 rfl (fun w0=>(WC.sr (W.alloc fR (fun b23=>(W.nt (WC.seq (WC.sr (W.mv (W.ok (Eo rfl rfl) (W.mv ?_))))))))))
 refine W.sd 8 (fun h7 p7=> ?_) (fun h7 p7=> ?_)
 ·refine W.n8 h7 rfl (W.n8 h7 rfl (W.n8 h7 rfl (W.n8 h7 rfl (W.ok (OY rfl h7) (W.nt (WC.Xc rfl rfl (WC.sr (W.ok (aY (L:=[sV _,sV _,.bool _]) zm fR rfl rfl rfl) (W.st 0 vE vE jG rfl (W.nt (WC.rt ?_)))))))))))
  refine⟨.inr rfl,[_],⟨⟨_,_,_,_,_,rfl,cY (i:=0) rfl,jG,(by simp),rfl,rfl⟩,trivial⟩,_,iD,?_⟩
  refine ax (fun l=>Value.agg (List.toArray l)) ?_
  show [Value.string _,Value.string _,Value.bool _]=_
  rw [Cy aa];rfl
 refine W.y9 h7 rfl (W.mv (W.y9 h7 rfl (W.mv (W.y9 h7 rfl (W.ok (rW dL aQ rfl) (W.y9 h7 rfl (W.ok (Xd rfl rfl) (W.ok (OZ rfl h7) (W.nt ?_)))))))))
 refine WC.cd (fun jC uK=> ?_) (fun jC uK=> ?_)
 ·refine WC.sr (W.ok (aY (L:=[sV _,sV _,.bool _]) zm fR rfl rfl rfl) (W.st 0 vE vE jG rfl (W.nt (WC.rt ?_))))
  refine⟨.inr rfl,[_],⟨⟨_,_,_,_,_,rfl,cY (i:=0) rfl,jG,(by simp),rfl,rfl⟩,trivial⟩,_,iD,?_⟩
  refine ax (fun l=>Value.agg (List.toArray l)) ?_
  show [Value.string _,Value.string _,Value.bool _]=_
  rw [Cy aa];rfl
 refine WC.sk (WC.sr (W.aH (yu) rfl (W.alloc fR (fun b24=>(W.st 0 vE vE jG rfl (W.nt (WC.seq (WC.sr (W.mv (W.ok (Xd rfl rfl) (W.nt ?_)))))))))))
 refine WC.cd (fun rX lI=> ?_) (fun rX lI=> ?_)
 ·refine WC.region (W.mv (W.mv (W.ok (lm rfl rfl aa) (aQ.a1 (i:=(i-1).toNat) aa (fun ap9=>(W.ok (bd (i:=(i-1).toNat) dL gi aQ rfl rfl ⟨aa,aa⟩) (W.ok (rb (vs:=TE) gi ap9 rfl rfl rfl (by simp)) (W.fb ai1 rfl (W.st 0 TE vE gi rfl (W.nt (WC.seq (WC.sr (W.mv (W.mv ?_))))))))))))))
  refine W.ok (rW dL aQ rfl) (W.ok (Eo rfl rfl) (W.nt ?_))
  refine WC.cd (fun Cx w8=> ?_) (fun Cx w8=> ?_)
  ·refine WC.region (W.mv (W.mv (aQ.a1 (i:=i.toNat) aa (fun ai7=>(W.ok (bd (i:=i.toNat) dL gi aQ rfl rfl ⟨aa,aa⟩) (W.ok (rb (vs:=TE) gi ai7 rfl rfl rfl (by simp)) (W.fb W7 rfl (W.st 0 TE vE gi rfl (W.fb W6 rfl (W.st 0 bc9 vE zk rfl (W.ns (W.ok (AE 0 vE jG rfl) (W.aH (lj _ _ _) rfl (W.st 1 vE vE jG rfl ?_))))))))))))))
   refine W.nt (WC.ret ?_)
   refine⟨.inr rfl,[_],⟨⟨_,_,_,_,_,rfl,cY (i:=1) rfl,jG,(by simp),rfl,rfl⟩,trivial⟩,_,iD,?_⟩
   exact ax (fun s:Span=>Value.agg (List.toArray s.cells)) (afn lI w8 aa aa)
  refine WC.sk (WC.sr (W.ok (AE 0 vE jG rfl) (W.aH (lj _ _ _) rfl (W.st 1 vE vE jG rfl (W.nt (WC.ret ?_))))))
  refine⟨.inr rfl,[_],⟨⟨_,_,_,_,_,rfl,cY (i:=1) rfl,jG,(by simp),rfl,rfl⟩,trivial⟩,_,iD,?_⟩
  exact ax (fun s:Span=>Value.agg (List.toArray s.cells)) (afo lI w8 aa aa)
 refine WC.sk (WC.seq (WC.sr (W.mv (W.mv (W.ok (rW dL aQ rfl) (W.ok (Eo rfl rfl) (W.nt ?_)))))))
 refine WC.cd (fun Cx w8=> ?_) (fun Cx w8=> ?_)
 ·refine WC.region (W.mv (W.mv (aQ.a1 (i:=i.toNat) aa (fun aGI=>(W.ok (bd (i:=i.toNat) dL gi aQ rfl rfl ⟨aa,aa⟩) (W.ok (rb (vs:=TE) gi aGI rfl rfl rfl (by simp)) (W.fb W7 rfl (W.st 0 TE vE gi rfl (W.fb W6 rfl (W.st 0 bc9 vE zk rfl (W.ns (W.ok (AE 0 vE jG rfl) (W.aH (lj _ _ _) rfl (W.st 1 vE vE jG rfl ?_))))))))))))))
  refine W.nt (WC.ret ?_)
  refine⟨.inr rfl,[_],⟨⟨_,_,_,_,_,rfl,cY (i:=1) rfl,jG,(by simp),rfl,rfl⟩,trivial⟩,_,iD,?_⟩
  exact ax (fun s:Span=>Value.agg (List.toArray s.cells)) (afp aa lI w8 aa)
 refine WC.sk (WC.sr (W.ok (AE 0 vE jG rfl) (W.aH (lj _ _ _) rfl (W.st 1 vE vE jG rfl (W.nt (WC.ret ?_))))))
 refine⟨.inr rfl,[_],⟨⟨_,_,_,_,_,rfl,cY (i:=1) rfl,jG,(by simp),rfl,rfl⟩,trivial⟩,_,iD,?_⟩
 exact ax (fun s:Span=>Value.agg (List.toArray s.cells)) (afq aa lI w8 aa)

theorem nH(zq:af)(zr:af)(ao:Bool)(blo:af)(bhi:af)(bo:Bool):
    Fc Tryz.prog 53 [.agg #[sV zq.b,sV zr.b,.bool ao],.agg #[sV blo.b,sV bhi.b,.bool bo]] G [] (fun v _ _=>v=.agg (List.toArray ((Span.bH ⟨zq,zr,ao⟩ ⟨blo,bhi,bo⟩:Span).cells))):=by
 refine Fc.go [.cell 4 73] Tryz.func53 Tryz.ntmps53 rfl (fun w0=>(g9 2 ?_))
 refine W.box (L:=[sV _,sV _,.bool _]) rfl rfl (fun b1=>(W.box (L:=[sV _,sV _,.bool _]) rfl rfl (fun b2=>(W.alloc fR (fun b3=>(g9 8 ?_))))))
 refine W.ok (aqa rfl rfl) (g9 3 ?_)
 refine W.sp 13 rfl (fun aCg=> ?_) (fun aCg=> ?_)
 ·refine g9 5 ?_
  refine W.ok (aY (L:=[sV _,sV _,.bool _]) zm fR rfl rfl rfl) (W.alloc fR (fun b4=>(g9 24 ?_)))
  refine W.aH (lj _ _ _) rfl (g9 5 ?_)
  refine ax (fun l=>Value.agg (List.toArray l)) ?_
  show [Value.string _,Value.string _,Value.bool _]=_
  rw [←Kg]
  simp_all [setAt]<;>rfl
 refine g9 3 ?_
 refine W.ok (aY (L:=[sV _,sV _,.bool _]) zm fR rfl rfl rfl) (W.alloc fR (fun b5=>(g9 20 ?_)))
 refine WC.cond rfl (fun aCh=> ?_) (fun aCh=> ?_)
 ·refine g9 11 ?_
  refine W.aH (lj _ _ _) rfl (g9 5 ?_)
  refine ax (fun l=>Value.agg (List.toArray l)) ?_
  show [Value.string _,Value.string _,Value.bool _]=_
  rw [←Kg]
  simp_all [setAt]<;>rfl
 refine g9 5 ?_
 refine W.ok (aqb rfl rfl) (g9 8 ?_)
 refine W.aH (lj _ _ _) rfl (g9 5 ?_)
 refine ax (fun l=>Value.agg (List.toArray l)) ?_
 show [Value.string _,Value.string _,Value.bool _]=_
 rw [←Kg]
 simp_all [setAt]<;>rfl

theorem al8(k:af)(hk:k.b.size<140737488355328):
    Fc Tryz.prog 86 [sV k.b] G [] (fun v _ _=>v=sV (af.b (k.next))):=by
 refine Fc.go [.tmp 2] Tryz.func86 Tryz.ntmps86 rfl (fun w0=>(g9 8 ?_))
 refine W.ok (aaq rfl rfl (by show _+1≤_;omega)) (g9 5 ?_)
 refine ax Value.string ?_
 exact(af.N6 hk).symm

theorem Ua(k:af)(hk:k.b.size<140737488355328):
    Fc Tryz.prog 55 [sV k.b] G [] (fun v _ _=>v=.agg (List.toArray ((⟨k,k.next,false⟩:Span).cells))):=by
 refine Fc.go [.cell 2 73] Tryz.func55 Tryz.ntmps55 rfl (fun w0=>(g9 2 ?_))
 refine W.alloc fR (fun b6=>(g9 6 ?_))
 refine W.aH (al8 _ (by first|assumption|omega|(dsimp only;omega))) rfl (W.ok (aY (L:=[sV _,sV _,.bool _]) zm fR rfl rfl rfl) (g9 5 ?_))
 rfl

theorem zt(ms:Int)(mk:Int)(dU:af)(jI:af)(mo:Bool)(mv:af)(hk:dU.b.size<140737488355328):
    Fc Tryz.prog 72 [.agg #[iV ms,iV mk,sV dU.b,sV jI.b,.bool mo,sV mv.b]] G [] (fun v _ _=>v=.agg (List.toArray ((aD.span (⟨ms,mk,dU,jI,mo,mv⟩:aD):Span).cells))):=by
 refine Fc.go [.cell 2 73] Tryz.func72 Tryz.ntmps72 rfl (fun w0=>(g9 2 ?_))
 refine W.box (L:=[iV _,iV _,sV _,sV _,.bool _,sV _]) rfl rfl (fun b7=>(W.alloc fR (fun b8=>(g9 10 ?_))))
 refine WC.cd (fun h5 p5=> ?_) (fun h5 p5=> ?_)
 ·refine g9 8 ?_
  refine W.ok (aY (L:=[sV _,sV _,.bool _]) zm fR rfl rfl rfl) (g9 6 ?_)
  refine ax (fun l=>Value.agg (List.toArray l)) ?_
  rw [aD.span,if_pos p5];rfl
 refine g9 6 ?_
 refine W.aH (Ua _ (by first|assumption|omega|(dsimp only;omega))) rfl (g9 5 ?_)
 refine ax (fun l=>Value.agg (List.toArray l)) ?_
 rw [aD.span,if_neg p5]<;>simp [Span.cells,af.N6 hk,setAt]

theorem Ub(zq:af)(zr:af)(ao:Bool)(blo:af)(bhi:af)(bo:Bool):
    Fc Tryz.prog 62 [.agg #[sV zq.b,sV zr.b,.bool ao],.agg #[sV blo.b,sV bhi.b,.bool bo]] G [] (fun v _ _=>v=.bool (!(Span.bH ⟨zq,zr,ao⟩ ⟨blo,bhi,bo⟩).empty)):=by
 refine Fc.go [.tmp 4] Tryz.func62 Tryz.ntmps62 rfl (fun w0=>(g9 2 ?_))
 refine W.box (L:=[sV _,sV _,.bool _]) rfl rfl (fun b9=>(W.box (L:=[sV _,sV _,.bool _]) rfl rfl (fun b10=>(g9 7 ?_))))
 refine W.aH (nH _ _ _ _ _ _) rfl (W.aH (pW _ _ _) rfl (g9 6 ?_))
 rfl

theorem aar(ms:Int)(mk:Int)(dU:af)(jI:af)(mo:Bool)(mv:af)(zq:af)(zr:af)(ao:Bool)(hk:dU.b.size<140737488355328):
    Fc Tryz.prog 177 [.agg #[iV ms,iV mk,sV dU.b,sV jI.b,.bool mo,sV mv.b],.agg #[sV zq.b,sV zr.b,.bool ao]] G [] (fun v _ _=>v=.bool (!((aD.span (⟨ms,mk,dU,jI,mo,mv⟩:aD)).bH ⟨zq,zr,ao⟩).empty)):=by
 refine Fc.go [.tmp 4] Tryz.func177 Tryz.ntmps177 rfl (fun w0=>(g9 2 ?_))
 refine W.box (L:=[iV _,iV _,sV _,sV _,.bool _,sV _]) rfl rfl (fun vG=>(W.box (L:=[sV _,sV _,.bool _]) rfl rfl (fun b12=>(g9 6 ?_))))
 refine W.aH (zt _ _ _ _ _ _ (by first|assumption|omega|(dsimp only;omega))) rfl (g9 1 ?_)
 refine W.aH (Ub _ _ _ _ _ _) rfl (g9 5 ?_)
 rfl

theorem Kh(ms:Int)(mk:Int)(dU:af)(jI:af)(mo:Bool)(mv:af)(zq:af)(zr:af)(ao:Bool)(hk:dU.b.size<140737488355328):
    Fc Tryz.prog 149 [.agg #[iV ms,iV mk,sV dU.b,sV jI.b,.bool mo,sV mv.b],.agg #[sV zq.b,sV zr.b,.bool ao]] G [] (fun v _ _=>v=.tuple #[.agg (List.toArray ((aD.clip (⟨ms,mk,dU,jI,mo,mv⟩:aD) ⟨zq,zr,ao⟩).1.cells)),.bool ((aD.clip (⟨ms,mk,dU,jI,mo,mv⟩:aD) ⟨zq,zr,ao⟩).2)]):=by
 refine Fc.go [.cell 4 81,.tmp 5] Tryz.func149 Tryz.ntmps149 rfl (fun w0=>(g9 2 ?_))
 refine W.box (L:=[iV _,iV _,sV _,sV _,.bool _,sV _]) rfl rfl (fun b13=>(W.box (L:=[sV _,sV _,.bool _]) rfl rfl (fun b14=>(W.alloc gL (fun yT=>(g9 8 ?_))))))
 refine W.aH (aar _ _ _ _ _ _ _ _ _ (by first|assumption|omega|(dsimp only;omega))) rfl (g9 3 ?_)
 refine WC.cond rfl (fun ir=> ?_) (fun ir=> ?_)
 ·refine g9 2 ?_
  refine W.ok (aY (L:=[iV _,iV _,sV _,sV _,.bool _,sV _]) apY gL rfl rfl rfl) (g9 7 ?_)
  show Value.tuple #[Value.agg (List.toArray [_,_,_,_,_,_]),Value.bool _]=_
  rw [uB (by simpa using ir)];rfl
 refine g9 10 ?_
 refine WC.cd (fun zu AG=> ?_) (fun zu AG=> ?_)
 ·refine WC.seq (WC.dw ((bB.k9.k9).k9) (d9 [0,2] ?_))
  refine WD.any [1,4] (by kernel_rfl) rfl ⟨WD.ap ?_,WD.ap ?_,trivial⟩
  ·refine W.aH (zt _ _ _ _ _ _ (by first|assumption|omega|(dsimp only;omega))) rfl (W.nn ?_)
   refine WD.any [3,4] (by kernel_rfl) rfl ⟨WD.ap ?_,WD.ap ?_,trivial⟩
   ·refine W.aH (nH _ _ _ _ _ _) rfl (W.nn (WD.a1 4 rfl (W.alloc fR (fun b16=>(W.nn (d9 [5] ?_))))))
    refine g9 2 ?_
    refine WC.dw ((((bB.cons _).k9).k9).k9) (d9 [0,1,2,3,4,5,6,7,8,9,10,11] ?_)
    refine g9 11 ?_
    show Value.tuple #[Value.agg (List.toArray [_,_,_,_,_,_]),Value.bool _]=_
    rw [uC (by simpa using ir) AG];rfl
   refine W.alloc fR (fun b17=>(W.nn (WD.a1 3 rfl (W.aH (nH _ _ _ _ _ _) rfl (W.nn (d9 [5] ?_))))))
   refine g9 2 ?_
   refine WC.dw ((((bB.cons _).k9).k9).k9) (d9 [0,1,2,3,4,5,6,7,8,9,10,11] ?_)
   refine g9 11 ?_
   show Value.tuple #[Value.agg (List.toArray [_,_,_,_,_,_]),Value.bool _]=_
   rw [uC (by simpa using ir) AG];rfl
  refine W.alloc fR (fun b18=>(W.nn (WD.a1 1 rfl (W.aH (zt _ _ _ _ _ _ (by first|assumption|omega|(dsimp only;omega))) rfl (W.nn (WD.a1 3 rfl (W.aH (nH _ _ _ _ _ _) rfl (W.nn (d9 [5] ?_)))))))))
  refine g9 2 ?_
  refine WC.dw ((((bB.cons _).k9).k9).k9) (d9 [0,1,2,3,4,5,6,7,8,9,10,11] ?_)
  refine g9 11 ?_
  show Value.tuple #[Value.agg (List.toArray [_,_,_,_,_,_]),Value.bool _]=_
  rw [uC (by simpa using ir) AG];rfl
 refine g9 11 ?_
 show Value.tuple #[Value.agg (List.toArray [_,_,_,_,_,_]),Value.bool _]=_
 rw [N7 (by simpa using ir) AG];rfl

theorem aqc(s:af):
    Fc Tryz.prog 176 [sV s.b] G [] (fun v _ _=>v=sV (af.b (s.tail))):=by
 have hs:=s.le
 refine Fc.go [.tmp 2] Tryz.func176 Tryz.ntmps176 rfl (fun w0=>(g9 11 ?_))
 refine W.ok (Cz rfl rfl) (W.ok (O0 (s.b.size-16) (s.b.size) st9 rfl ⟨_,_,rfl,aa⟩ rfl ⟨aa,aa⟩) (g9 5 ?_))
 rfl

theorem aas(a:af)(b:af)(ha:a.b.size≤1048576)(hb:b.b.size≤1048576):
    Fc Tryz.prog 147 [sV a.b,sV b.b] G [] (fun v _ _=>v=sV (af.b (a.add b))):=by
 refine Fc.go [.tmp 4] Tryz.func147 Tryz.ntmps147 rfl (fun w0=>(g9 9 ?_))
 refine W.ok (Ok.str (b:=(a.cat b).b) (aaq rfl rfl aa) ((af.aqd aa).symm)) (W.aH (aqc _) rfl (g9 5 ?_))
 exact ax (fun s=>Value.string (af.b s)) (af.al9 aa)

theorem O1(s:af):
    Fc Tryz.prog 43 [sV s.b] G [] (fun v _ _=>v=.bool (decide (s.b.size≤16))):=by
 have hs:=s.le
 refine Fc.go [.tmp 2] Tryz.func43 Tryz.ntmps43 rfl (fun w0=>(g9 15 ?_))
 refine ax Value.bool ?_
 rw [rL];omega

theorem afr(s:af):
    Fc Tryz.prog 44 [sV s.b] G [] (fun v _ _=>v=.bool (decide (s.b.size≤16))):=by
 have hs:=s.le
 refine Fc.go [.tmp 2] Tryz.func44 Tryz.ntmps44 rfl (fun w0=>(g9 15 ?_))
 refine ax Value.bool ?_
 rw [rL];omega

theorem AH(ek:Int)(ev:af)(has:Bool)(x:af)(he:ev.b.size≤1048576)(hv:x.b.size≤1048576):
    Fc Tryz.prog 114 [.agg #[iV ek,sV ev.b],.bool has,sV x.b] G [] (fun v _ _=>v=.tuple #[.bool (((bG.apply (⟨ek,ev⟩:bG) (kG has x))).isSome),sV (af.b (((bG.apply (⟨ek,ev⟩:bG) (kG has x))).getD af.nil))]):=by
 refine Fc.go [.tmp 6,.tmp 7] Tryz.func114 Tryz.ntmps114 rfl (fun w0=>(g9 2 ?_))
 refine W.box (L:=[iV _,sV _]) rfl rfl (fun b1=>(g9 11 ?_))
 refine WC.cond rfl (fun h9=> ?_) (fun h9=> ?_)
 ·refine g9 18 ?_
  refine WC.cd (fun xa pG=> ?_) (fun xa pG=> ?_)
  ·refine g9 12 ?_
   show Value.tuple #[Value.bool _,Value.string _]=_
   simp_all [bG.apply,kG,af.nil]
  refine g9 6 ?_
  refine WC.cd (fun rX lI=> ?_) (fun rX lI=> ?_)
  ·refine g9 5 ?_
   refine W.aH (aas af.nil ev (by show 0≤1048576;omega) (by assumption)) rfl (g9 8 ?_)
   show Value.tuple #[Value.bool _,Value.string _]=_
   simp_all [bG.apply,kG,af.nil]
  refine g9 6 ?_
  refine WC.cd (fun AI pH=> ?_) (fun AI pH=> ?_)
  ·refine g9 10 ?_
   show Value.tuple #[Value.bool _,Value.string _]=_
   simp_all [bG.apply,kG,af.nil]
  refine g9 13 ?_
  show Value.tuple #[Value.bool _,Value.string _]=_
  simp_all [bG.apply,kG,af.nil]
 refine g9 16 ?_
 refine WC.cd (fun xa pG=> ?_) (fun xa pG=> ?_)
 ·refine g9 12 ?_
  show Value.tuple #[Value.bool _,Value.string _]=_
  simp_all [bG.apply,kG,af.nil]
 refine g9 6 ?_
 refine WC.cd (fun rX lI=> ?_) (fun rX lI=> ?_)
 ·refine g9 5 ?_
  refine W.aH (aas x ev (by assumption) (by assumption)) rfl (g9 8 ?_)
  show Value.tuple #[Value.bool _,Value.string _]=_
  simp_all [bG.apply,kG,af.nil]
 refine g9 6 ?_
 refine WC.cd (fun AI pH=> ?_) (fun AI pH=> ?_)
 ·refine g9 10 ?_
  show Value.tuple #[Value.bool _,Value.string _]=_
  simp_all [bG.apply,kG,af.nil]
 refine g9 13 ?_
 show Value.tuple #[Value.bool _,Value.string _]=_
 simp_all [bG.apply,kG,af.nil]

theorem HQ(ms:Int)(mk:Int)(dU:af)(jI:af)(mo:Bool)(mv:af)(k:af)(hk:dU.b.size<140737488355328):
    Fc Tryz.prog 31 [.agg #[iV ms,iV mk,sV dU.b,sV jI.b,.bool mo,sV mv.b],sV k.b] G [] (fun v _ _=>v=.agg (List.toArray ((aD.on (⟨ms,mk,dU,jI,mo,mv⟩:aD) k).cells))):=by
 refine Fc.go [.cell 4 86] Tryz.func31 Tryz.ntmps31 rfl (fun w0=>(g9 2 ?_))
 refine W.box (L:=[iV _,iV _,sV _,sV _,.bool _,sV _]) rfl rfl (fun b2=>(W.alloc BM (fun b3=>(g9 6 ?_))))
 refine W.aH (zt _ _ _ _ _ _ (by first|assumption|omega|(dsimp only;omega))) rfl (W.mv (W.aH (uJ _ _ _ _) rfl (g9 3 ?_)))
 refine WC.cond rfl (fun h9=> ?_) (fun h9=> ?_)
 ·refine g9 2 ?_
  refine W.ok (aY (L:=[iV _,sV _]) HK BM rfl rfl rfl) (g9 6 ?_)
  refine ax (fun l=>Value.agg (List.toArray l)) ?_
  show [Value.int _ _,Value.string _]=_
  first|(simp_all [aD.on,bG.cells,bG.zero,af.nil];done)|(simp_all [aD.on,bG.cells,bG.zero,af.nil];split<;>first|(exfalso;omega)|(simp;done)|(split<;>first|(exfalso;omega)|(simp;done)))
 refine g9 17 ?_
 refine WC.cd (fun zu AG=> ?_) (fun zu AG=> ?_)
 ·refine g9 9 ?_
  refine W.ok (aY (L:=[iV _,sV _]) HK BM rfl rfl rfl) (g9 7 ?_)
  refine ax (fun l=>Value.agg (List.toArray l)) ?_
  show [Value.int _ _,Value.string _]=_
  first|(simp_all [aD.on,bG.cells,bG.zero,af.nil];done)|(simp_all [aD.on,bG.cells,bG.zero,af.nil];split<;>first|(exfalso;omega)|(simp;done)|(split<;>first|(exfalso;omega)|(simp;done)))
 refine g9 5 ?_
 refine WC.cd (fun tQ zo=> ?_) (fun tQ zo=> ?_)
 ·refine g9 6 ?_
  refine W.ok (aY (L:=[iV _,sV _]) HK BM rfl rfl rfl) (g9 7 ?_)
  refine ax (fun l=>Value.agg (List.toArray l)) ?_
  show [Value.int _ _,Value.string _]=_
  first|(simp_all [aD.on,bG.cells,bG.zero,af.nil];done)|(simp_all [aD.on,bG.cells,bG.zero,af.nil];split<;>first|(exfalso;omega)|(simp;done)|(split<;>first|(exfalso;omega)|(simp;done)))
 refine g9 7 ?_
 refine WC.cd (fun AJ wA=> ?_) (fun AJ wA=> ?_)
 ·refine g9 5 ?_
  refine W.ok (aY (L:=[iV _,sV _]) HK BM rfl rfl rfl) (g9 7 ?_)
  refine ax (fun l=>Value.agg (List.toArray l)) ?_
  show [Value.int _ _,Value.string _]=_
  first|(simp_all [aD.on,bG.cells,bG.zero,af.nil];done)|(simp_all [aD.on,bG.cells,bG.zero,af.nil];split<;>first|(exfalso;omega)|(simp;done)|(split<;>first|(exfalso;omega)|(simp;done)))
 refine g9 5 ?_
 refine WC.cd (fun AI pH=> ?_) (fun AI pH=> ?_)
 ·refine g9 2 ?_
  refine W.ok (aY (L:=[iV _,sV _]) HK BM rfl rfl rfl) (g9 7 ?_)
  refine ax (fun l=>Value.agg (List.toArray l)) ?_
  show [Value.int _ _,Value.string _]=_
  first|(simp_all [aD.on,bG.cells,bG.zero,af.nil];done)|(simp_all [aD.on,bG.cells,bG.zero,af.nil];split<;>first|(exfalso;omega)|(simp;done)|(split<;>first|(exfalso;omega)|(simp;done)))
 refine g9 5 ?_
 refine W.ok (aY (L:=[iV _,sV _]) HK BM rfl rfl rfl) (g9 5 ?_)
 refine ax (fun l=>Value.agg (List.toArray l)) ?_
 show [Value.int _ _,Value.string _]=_
 first|(simp_all [aD.on,bG.cells,bG.zero,af.nil];done)|(simp_all [aD.on,bG.cells,bG.zero,af.nil];split<;>first|(exfalso;omega)|(simp;done)|(split<;>first|(exfalso;omega)|(simp;done)))

variable {a:List aG} {uL:Value}
theorem Ki(cJ:az aU G uL a){v_b:Value}{b:List aG}(O2:az aU G v_b b):
    Fc Tryz.prog 12 [uL,v_b] G [] (fun v _ _=>v=.bool (decide (a=b))):=by
 obtain⟨CA,CB,rfl⟩:=cJ.form
 obtain⟨aqe,aqf,rfl⟩:=O2.form
 have ha:=cJ.bq
 have hb:=O2.bq
 refine Fc.go [.tmp 4] Tryz.func12 Tryz.ntmps12 rfl (fun w0=>(g9 15 ?_))
 refine WC.cn (fun ir ry=> ?_) (fun ir ry=> ?_)
 ·refine g9 8 ?_
  refine ax Value.bool ?_
  exact(gr fun e=>by subst e;omega).symm
 have rY:a.length=b.length:=by omega
 refine g9 9 ?_
 refine WC.loop (X:=Nat) (fun k=>[(5,aK k),(0,lV CA a.length CB),(1,lV aqe b.length aqf)]) (fun k _ Ml=>Ml=[]∧k≤a.length∧∀i (h:i<a.length) (h2:i<b.length),i<k→a[i]=b[i]) (fun k=>a.length-k) 0 ct ?_ ?_
 ·exact⟨rfl,aa,fun i _ _ h=>by omega⟩
 rintro k Xe G1 _ pX ⟨rfl,hk0,hk⟩
 refine g9 9 ?_
 refine WC.cd (fun zu AG=> ?_) (fun zu AG=> ?_)
 ·refine g9 8 ?_
  refine(cJ.mono pX).a1 (i:=k) aa (fun he2=>(g9 4 ?_))
  refine(O2.mono pX).a1 (i:=k) aa (fun he5=>(g9 2 ?_))
  refine W.ok (aqg (L1:=[sV _,sV _]) (L2:=[sV _,sV _]) aGA rfl rfl rfl rfl) (g9 2 ?_)
  refine WC.cond rfl (fun h25=> ?_) (fun h25=> ?_)
  ·refine g9 12 ?_
   refine ax Value.bool ?_
   exact(gr fun e=>by subst e;exact aG.aCi h25 rfl).symm
  refine g9 9 ?_
  exact⟨Le.rfl,k+1,ct,⟨rfl,aa,fun i h h2 hi=>by
      by_cases e:i=k
      ·subst e;exact aG.aCj h25
      ·exact hk i h h2 aa⟩,aa⟩
 refine g9 12 ?_
 refine ax Value.bool ?_
 exact(dB (Av aa fun i h h2=>hk i h h2 aa)).symm

theorem ie(cJ:az aU G uL a):
    Fc Tryz.prog 85 [uL] G [] (fun v G' M'=>M'=[]∧∃u0,v=u0∧az aU G' u0 (a)):=by
 obtain⟨CA,CB,rfl⟩:=cJ.form
 have ha:=cJ.bytes
 refine Fc.go [.tmp 2] Tryz.func85 Tryz.ntmps85 rfl (fun w0=>(g9 9 ?_))
 refine W.ok (oB dR rfl rfl) (g9 2 ?_)
 refine WC.cond rfl (fun h4=> ?_) (fun h4=> ?_)
 ·have hn:=az.isNone cJ h4
  subst hn
  refine g9 8 ?_
  refine⟨rfl,_,rfl,?_⟩
  ·exact az.nil
 refine g9 4 ?_
 refine W.HR (e:=aU) dR ei nX rfl (fun v8 Ms9 Fh=>(W.mv (W.app (e:=aU) dR ei nX rfl HF rfl rfl (Fh) (cJ) ah (by simpa using ha) (fun v11 HS O3=>(g9 3 ?_)))))
 refine WC.du O3 ah (fun G14 vY HT=>(g9 2 ?_))
 refine⟨rfl,_,rfl,?_⟩
 ·exact HT

theorem jZ{a:List aD}(cJ:az dy G uL a):
    Fc Tryz.prog 146 [uL] G [] (fun v G' M'=>M'=[]∧∃u0,v=u0∧az dy G' u0 (a)):=by
 obtain⟨CA,CB,rfl⟩:=cJ.form
 have ha:=cJ.bytes
 refine Fc.go [.tmp 2] Tryz.func146 Tryz.ntmps146 rfl (fun w0=>(g9 9 ?_))
 refine W.ok (oB gQ rfl rfl) (g9 2 ?_)
 refine WC.cond rfl (fun h4=> ?_) (fun h4=> ?_)
 ·have hn:=az.isNone cJ h4
  subst hn
  refine g9 8 ?_
  refine⟨rfl,_,rfl,?_⟩
  ·exact az.nil
 refine g9 4 ?_
 refine W.HR (e:=dy) gQ im gL rfl (fun v15 O4 O5=>(W.mv (W.app (e:=dy) gQ im gL rfl BL rfl rfl (O5) (cJ) ah (by simpa using ha) (fun v18 BO aqh=>(g9 3 ?_)))))
 refine WC.du aqh ah (fun G21 uM BP=>(g9 2 ?_))
 refine⟨rfl,_,rfl,?_⟩
 ·exact BP

theorem Uc(ak:Int)(av:af)(bk:Int)(bv:af)(ha:av.b.size≤1048576)(hb:bv.b.size≤1048576):
    Fc Tryz.prog 148 [.agg #[iV ak,sV av.b],.agg #[iV bk,sV bv.b]] G [] (fun v _ _=>v=.agg (List.toArray ((bG.then (⟨ak,av⟩:bG) (⟨bk,bv⟩:bG)).cells))):=by
 refine Fc.go [.cell 4 86] Tryz.func148 Tryz.ntmps148 rfl (fun w0=>(g9 2 ?_))
 refine W.box (L:=[iV _,sV _]) rfl rfl (fun b1=>(W.box (L:=[iV _,sV _]) rfl rfl (fun b2=>(W.alloc BM (fun b3=>(g9 12 ?_))))))
 refine WC.cd (fun ir ry=> ?_) (fun ir ry=> ?_)
 ·refine g9 10 ?_
  refine ax (fun l=>Value.agg (List.toArray l)) ?_
  show [Value.int _ _,Value.string _]=_
  first|(simp_all [bG.then,bG.cells,bG.apply,kG,af.nil];done)|(simp_all [bG.then,bG.cells,bG.apply,kG,af.nil];split<;>simp)
 refine g9 6 ?_
 refine W.sm 16 (fun tQ zo=> ?_) (fun tQ zo=> ?_)
 ·refine g9 18 ?_
  refine ax (fun l=>Value.agg (List.toArray l)) ?_
  show [Value.int _ _,Value.string _]=_
  first|(simp_all [bG.then,bG.cells,bG.apply,kG,af.nil];done)|(simp_all [bG.then,bG.cells,bG.apply,kG,af.nil];split<;>simp)
 refine g9 10 ?_
 refine WC.cd (fun Cm xb=> ?_) (fun Cm xb=> ?_)
 ·refine g9 10 ?_
  refine ax (fun l=>Value.agg (List.toArray l)) ?_
  show [Value.int _ _,Value.string _]=_
  first|(simp_all [bG.then,bG.cells,bG.apply,kG,af.nil];done)|(simp_all [bG.then,bG.cells,bG.apply,kG,af.nil];split<;>simp)
 refine g9 11 ?_
 refine W.aH (AH _ _ _ _ (by first|assumption|omega|(dsimp only;omega)|(simp;omega)) (by first|assumption|omega|(dsimp only;omega)|(simp;omega))) rfl (g9 20 ?_)
 refine WC.cd (fun h37 p37=> ?_) (fun h37 p37=> ?_)
 ·refine g9 3 ?_
  refine W.ok (aY (L:=[iV _,sV _]) HK BM rfl rfl rfl) (g9 6 ?_)
  refine ax (fun l=>Value.agg (List.toArray l)) ?_
  show [Value.int _ _,Value.string _]=_
  first|(simp_all [bG.then,bG.cells,bG.apply,kG,af.nil];done)|(simp_all [bG.then,bG.cells,bG.apply,kG,af.nil];split<;>simp)
 refine g9 3 ?_
 refine W.ok (aY (L:=[iV _,sV _]) HK BM rfl rfl rfl) (g9 6 ?_)
 refine ax (fun l=>Value.agg (List.toArray l)) ?_
 show [Value.int _ _,Value.string _]=_
 first|(simp_all [bG.then,bG.cells,bG.apply,kG,af.nil];done)|(simp_all [bG.then,bG.cells,bG.apply,kG,af.nil];split<;>simp)

theorem ama{l:List aD}(aQ:az dy G dH l)(key:af)(hm:∀m∈l,m.key.b.size<140737488355328∧m.val.b.size≤16):
    Fc Tryz.prog 115 [dH,sV key.b] G [] (fun v _ _=>v=.agg (List.toArray ((ln l key).cells))):=by
 obtain⟨dz,dA,rfl⟩:=aQ.form
 have hl:=aQ.bq
 refine Fc.go [.cell 4 86] Tryz.func115 Tryz.ntmps115 rfl (fun w0=>(g9 2 ?_))
 refine W.alloc BM (fun b4=>(g9 11 ?_))
 refine WC.loop (X:=Nat) (fun k=>[(9,aK k),(4,aC b4),(1,sV key.b),(7,lV dz l.length dA),(8,aK ((l).length))]) (fun k _ Ml=>Ml=[(b4,ar 86 [iV (ln (l.take k) key).kind,sV (ln (l.take k) key).val.b])]∧k≤l.length) (fun k=>l.length-k) 0 ct ?_ ?_
 ·exact⟨rfl,aa⟩
 rintro k gG5 G5 _ hG5 ⟨rfl,hk⟩
 have hon:=Kj (l.take k) key (fun m o7=>(hm m (gu o7)).2)
 refine g9 6 ?_
 refine WC.cd (fun ir ry=> ?_) (fun ir ry=> ?_)
 ·refine g9 6 ?_
  refine(aQ.mono hG5).a2 (i:=k) aa (fun he6 hm7=>(g9 2 ?_))
  refine W.alloc gL (fun vG=>(g9 3 ?_))
  refine WC.dw ((bB.cons _).k9) (d9 [1,2] ?_)
  refine WD.any [0,3] (by kernel_rfl) rfl ⟨WD.ap ?_,WD.ap ?_,trivial⟩
  ·refine g9 1 ?_
   refine W.nn (WD.a1 3 rfl (W.aH (HQ _ _ _ _ _ _ _ (hm _ (bN _)).1) rfl (W.nn (WD.a1 4 rfl (W.aH (Uc (ln (l.take k) key).kind (ln (l.take k) key).val (aD.on l[k] key).kind (aD.on l[k] key).val aa (by have:=Ep key (hm _ (bN (by omega:k<l.length))).2;omega)) rfl (W.nn (d9 [5] ?_)))))))
   refine WD.done (by kernel_rfl) (pI (jH (g9 3 ?_)))
   refine W.sub (bB.cons _) (g9 2 ?_)
   exact⟨Le.rfl,k+1,ct,⟨(by rw [O6 _ aa];rfl),aa⟩,aa⟩
  refine W.aH (HQ _ _ _ _ _ _ _ (hm _ (bN _)).1) rfl (W.nn (WD.a1 0 rfl (g9 1 ?_)))
  refine W.nn (WD.a1 4 rfl (W.aH (Uc (ln (l.take k) key).kind (ln (l.take k) key).val (aD.on l[k] key).kind (aD.on l[k] key).val aa (by have:=Ep key (hm _ (bN (by omega:k<l.length))).2;omega)) rfl (W.nn (d9 [5] ?_))))
  refine WD.done (by kernel_rfl) (pI (jH (g9 3 ?_)))
  refine W.sub (bB.cons _) (g9 2 ?_)
  exact⟨Le.rfl,k+1,ct,⟨(by rw [O6 _ aa];rfl),aa⟩,aa⟩
 refine g9 13 ?_
 refine ax (fun l=>Value.agg (List.toArray l)) ?_
 show [Value.int _ _,Value.string _]=_
 rw [fI aa];rfl

theorem axZ(a:af)(b:af):
    Fc Tryz.prog 126 [sV a.b,sV b.b] G [] (fun v _ _=>v=iV (zw a b)):=by
 refine Fc.go [.tmp 4] Tryz.func126 Tryz.ntmps126 rfl (fun w0=>(g9 8 ?_))
 refine W.aH (Kc _) rfl (g9 6 ?_)
 refine W.aH (Kc _) rfl (g9 9 ?_)
 refine WC.cond rfl (fun h8=> ?_) (fun h8=> ?_)
 ·cases h8
 refine g9 8 ?_
 refine WC.cond rfl (fun ir=> ?_) (fun ir=> ?_)
 ·cases ir
 refine g9 10 ?_
 refine WC.cond rfl (fun iQ=> ?_) (fun iQ=> ?_)
 ·refine g9 8 ?_
  refine ax (Value.int .i64) ?_
  simp_all [zw,af.lt]
 refine g9 7 ?_
 refine W.ok (aqi rfl rfl) (g9 2 ?_)
 refine WC.cond rfl (fun Cm=> ?_) (fun Cm=> ?_)
 ·refine g9 8 ?_
  refine ax (Value.int .i64) ?_
  simp_all [zw,af.lt]
 refine g9 9 ?_
 refine ax (Value.int .i64) ?_
 simp_all [zw,af.lt]

theorem aat(a:af)(b:af):
    Fc Tryz.prog 94 [sV a.b,sV b.b] G [] (fun v _ _=>v=iV (zw a b)):=by
 refine Fc.go [.tmp 4] Tryz.func94 Tryz.ntmps94 rfl (fun w0=>(g9 9 ?_))
 refine W.aH (axZ _ _) rfl (g9 5 ?_)
 rfl

theorem aau(pk:af)(pv:af)(k:af):
    Fc Tryz.prog 93 [.agg #[sV pk.b,sV pv.b],sV k.b] G [] (fun v _ _=>v=iV (zw pk k)):=by
 refine Fc.go [.tmp 4] Tryz.func93 Tryz.ntmps93 rfl (fun w0=>(g9 2 ?_))
 refine W.box (L:=[sV _,sV _]) rfl rfl (fun b12=>(g9 8 ?_))
 refine W.aH (aat _ _) rfl (g9 5 ?_)
 rfl

theorem aav(pk:af)(pv:af)(k:af):
    Fc Tryz.prog 133 [.agg #[sV pk.b,sV pv.b],sV k.b] G [] (fun v _ _=>v=iV (zw pk k)):=by
 refine Fc.go [.tmp 4] Tryz.func133 Tryz.ntmps133 rfl (fun w0=>(g9 2 ?_))
 refine W.box (L:=[sV _,sV _]) rfl rfl (fun b13=>(g9 8 ?_))
 refine W.aH (aat _ _) rfl (g9 5 ?_)
 rfl

variable {l:List aG}
theorem aqj(aQ:az aU G dH l)(k:af)(hr:gW l):
    Fc Tryz.prog 92 [dH,sV k.b,.func (.func 93) #[] #[]] G [] (fun v _ _=>v=.tuple #[aK (eW l k),.bool ((bz l k).isSome)]):=by
 obtain⟨dz,dA,rfl⟩:=aQ.form
 have hlen:=aQ.bq
 refine Fc.go [.tmp 6,.tmp 7] Tryz.func92 Tryz.ntmps92 rfl (fun w0=>(g9 22 ?_))
 refine WC.loop (X:=Nat×Nat) (fun x=>[(9,aK x.1),(10,aK x.2),(0,lV dz l.length dA),(1,sV k.b),(2,.func (.func 93) #[] #[]),(8,aK ((l).length))]) (fun x _ Ml=>Ml=[]∧x.1≤x.2∧x.2≤l.length∧(∀q (h:q<l.length),q<x.1→l[q].key.lt k=true)∧(∀q (h:q<l.length),x.2≤q→l[q].key.lt k=false)) (fun x=>x.2-x.1) (0,l.length) ct ?_ ?_
 ·exact⟨rfl,by simp,by simp,(fun q _ h=>by simp at h),(fun q h h'=>by simp at h';omega)⟩
 rintro⟨i,j⟩ aPV G14 _ vY ⟨rfl,hi,hj,h1,h2⟩
 dsimp only at hi hj h1 h2
 refine g9 8 ?_
 refine WC.cd (fun rX lI=> ?_) (fun rX lI=> ?_)
 ·refine g9 8 ?_
  refine W.ok (Kd un3 J7 rfl aa) (W.ok (OV rfl rfl aa) (W.ok (Ke J7 un3 rfl aa) (g9 8 ?_)))
  refine(aQ.mono vY).a1 (i:=(i+j) / 2) aa (fun aqk=>(W.ok (bd (i:=(i+j) / 2) dR ei (aQ.mono vY) rfl rfl ⟨by dsimp only;omega,aa⟩) (g9 2 ?_)))
  refine W.yv (fst:=[]) (caps:=[]) rfl (aau _ _ _) rfl (g9 3 ?_)
  refine WC.cd (fun Xf Kk=> ?_) (fun Xf Kk=> ?_)
  ·refine g9 7 ?_
   exact⟨Le.rfl,((i+j) / 2+1,j),ct,⟨rfl,by dsimp only;omega,by dsimp only;omega,(fun q h hq=>hr.below aa (Kl.1 Kk) q h (by dsimp only at hq;omega)),h2⟩,by dsimp only;omega⟩
  refine g9 6 ?_
  exact⟨Le.rfl,(i,(i+j) / 2),ct,⟨rfl,by dsimp only;omega,by dsimp only;omega,h1,(fun q h hq=>hr.afs aa (aaw Kk) q h (by dsimp only at hq;omega))⟩,by dsimp only;omega⟩
 refine g9 12 ?_
 refine W.sd 39 (fun h38 Xg=> ?_) (fun h38 Xg=> ?_)
 ·refine g9 7 ?_
  refine(aQ.mono vY).a1 (i:=i) aa (fun aGJ=>(g9 6 ?_))
  refine W.yv (fst:=[]) (caps:=[]) rfl (aau _ _ _) rfl (g9 9 ?_)
  have qZ:eW l k=i:=HU aa h1 (fun q h hq=>h2 q h aa)
  refine OW (by rw [qZ]) ?_
  rw [hr.has]
  rw [HV]
  exact rL.2 ⟨fun e=>⟨aa,by simp only [qZ];exact e⟩,fun⟨_,e⟩=>by simp only [qZ]at e;exact e⟩
 refine g9 15 ?_
 have qZ:eW l k=i:=HU aa h1 (fun q h hq=>h2 q h aa)
 refine OW (by rw [qZ]) ?_
 rw [hr.has]
 exact(gr (by rintro⟨h,_⟩;omega)).symm

theorem aql(aQ:az aU G dH l)(k:af)(hr:gW l):
    Fc Tryz.prog 92 [dH,sV k.b,.func (.func 133) #[] #[]] G [] (fun v _ _=>v=.tuple #[aK (eW l k),.bool ((bz l k).isSome)]):=by
 obtain⟨dz,dA,rfl⟩:=aQ.form
 have hlen:=aQ.bq
 refine Fc.go [.tmp 6,.tmp 7] Tryz.func92 Tryz.ntmps92 rfl (fun w0=>(g9 22 ?_))
 refine WC.loop (X:=Nat×Nat) (fun x=>[(9,aK x.1),(10,aK x.2),(0,lV dz l.length dA),(1,sV k.b),(2,.func (.func 133) #[] #[]),(8,aK ((l).length))]) (fun x _ Ml=>Ml=[]∧x.1≤x.2∧x.2≤l.length∧(∀q (h:q<l.length),q<x.1→l[q].key.lt k=true)∧(∀q (h:q<l.length),x.2≤q→l[q].key.lt k=false)) (fun x=>x.2-x.1) (0,l.length) ct ?_ ?_
 ·exact⟨rfl,by simp,by simp,(fun q _ h=>by simp at h),(fun q h h'=>by simp at h';omega)⟩
 rintro⟨i,j⟩ ai8 G21 _ uM ⟨rfl,hi,hj,h1,h2⟩
 dsimp only at hi hj h1 h2
 refine g9 8 ?_
 refine WC.cd (fun rX lI=> ?_) (fun rX lI=> ?_)
 ·refine g9 8 ?_
  refine W.ok (Kd un3 J7 rfl aa) (W.ok (OV rfl rfl aa) (W.ok (Ke J7 un3 rfl aa) (g9 8 ?_)))
  refine(aQ.mono uM).a1 (i:=(i+j) / 2) aa (fun ai9=>(W.ok (bd (i:=(i+j) / 2) dR ei (aQ.mono uM) rfl rfl ⟨by dsimp only;omega,aa⟩) (g9 2 ?_)))
  refine W.yv (fst:=[]) (caps:=[]) rfl (aav _ _ _) rfl (g9 3 ?_)
  refine WC.cd (fun Xf Kk=> ?_) (fun Xf Kk=> ?_)
  ·refine g9 7 ?_
   exact⟨Le.rfl,((i+j) / 2+1,j),ct,⟨rfl,by dsimp only;omega,by dsimp only;omega,(fun q h hq=>hr.below aa (Kl.1 Kk) q h (by dsimp only at hq;omega)),h2⟩,by dsimp only;omega⟩
  refine g9 6 ?_
  exact⟨Le.rfl,(i,(i+j) / 2),ct,⟨rfl,by dsimp only;omega,by dsimp only;omega,h1,(fun q h hq=>hr.afs aa (aaw Kk) q h (by dsimp only at hq;omega))⟩,by dsimp only;omega⟩
 refine g9 12 ?_
 refine W.sd 39 (fun h38 Xg=> ?_) (fun h38 Xg=> ?_)
 ·refine g9 7 ?_
  refine(aQ.mono uM).a1 (i:=i) aa (fun ap9=>(g9 6 ?_))
  refine W.yv (fst:=[]) (caps:=[]) rfl (aav _ _ _) rfl (g9 9 ?_)
  have qZ:eW l k=i:=HU aa h1 (fun q h hq=>h2 q h aa)
  refine OW (by rw [qZ]) ?_
  rw [hr.has]
  rw [HV]
  exact rL.2 ⟨fun e=>⟨aa,by simp only [qZ];exact e⟩,fun⟨_,e⟩=>by simp only [qZ]at e;exact e⟩
 refine g9 15 ?_
 have qZ:eW l k=i:=HU aa h1 (fun q h hq=>h2 q h aa)
 refine OW (by rw [qZ]) ?_
 rw [hr.has]
 exact(gr (by rintro⟨h,_⟩;omega)).symm

theorem aax(aQ:az aU G dH l)(k:af)(hr:gW l):
    Fc Tryz.prog 60 [dH,sV k.b] G [] (fun v _ _=>v=.tuple #[aK (eW l k),.bool ((bz l k).isSome)]):=by
 obtain⟨dz,dA,rfl⟩:=aQ.form
 refine Fc.go [.tmp 4,.tmp 5] Tryz.func60 Tryz.ntmps60 rfl (fun w0=>(g9 10 ?_))
 refine W.aH (aqj aQ k hr) rfl (g9 8 ?_)
 rfl

theorem amb(aQ:az aU G dH l)(k:af)(hr:gW l):
    Fc Tryz.prog 100 [dH,sV k.b] G [] (fun v _ _=>v=.tuple #[aK (eW l k),.bool ((bz l k).isSome)]):=by
 obtain⟨dz,dA,rfl⟩:=aQ.form
 refine Fc.go [.tmp 4,.tmp 5] Tryz.func100 Tryz.ntmps100 rfl (fun w0=>(g9 10 ?_))
 refine W.aH (aql aQ k hr) rfl (g9 8 ?_)
 rfl

theorem aay(aQ:az aU G dH l)(k:af)(hr:gW l):
    Fc Tryz.prog 26 [dH,sV k.b] G [] (fun v _ _=>v=.tuple #[sV (af.b ((bz l k).getD af.nil)),.bool ((bz l k).isSome)]):=by
 obtain⟨dz,dA,rfl⟩:=aQ.form
 have hlen:=aQ.bq
 have hh:=hr.has k
 refine Fc.go [.tmp 4,.tmp 5] Tryz.func26 Tryz.ntmps26 rfl (fun w0=>(g9 10 ?_))
 refine W.aH (aax aQ _ (by assumption)) rfl (g9 14 ?_)
 refine WC.cond rfl (fun tQ=> ?_) (fun tQ=> ?_)
 ·refine g9 9 ?_
  show Value.tuple #[Value.string _,Value.bool _]=_
  have e:bz l k=none:=by simpa using tQ
  rw [e];rfl
 have hs:(bz l k).isSome=true:=by simpa using tQ
 obtain⟨q1,q2⟩:=Cu (hh.symm.trans hs)
 have hv:=hr.val q1 q2
 refine g9 6 ?_
 refine aQ.a1 (i:=eW l k) (q1) (fun ai7=>(W.ok (bd (i:=eW l k) dR ei aQ rfl rfl ⟨aa,q1⟩) (g9 8 ?_)))
 show Value.tuple #[Value.string _,Value.bool _]=_
 rw [hv];rfl

theorem O7(aQ:az aU G dH l)(df:af)(dh:af)(so:Bool)(hn:l.length≤1000000):
    Fc Tryz.prog 61 [dH,.agg #[sV df.b,sV dh.b,.bool so]] G [] (fun v G' M'=>M'=[]∧∃u0,v=u0∧az aU G' u0 (l.filter (fun p:aG=>Span.has ⟨df,dh,so⟩ p.key))):=by
 obtain⟨dz,dA,rfl⟩:=aQ.form
 have hl:=aQ.bq
 refine Fc.go [.tmp 4] Tryz.func61 Tryz.ntmps61 rfl (fun w0=>(g9 2 ?_))
 refine W.box (L:=[sV _,sV _,.bool _]) rfl rfl (fun b1=>(g9 17 ?_))
 refine WC.loop (X:=(Nat)×Value×MH) (fun i=>[(10,aK i.1),(3,aC b1),(8,lV dz l.length dA),(9,aK ((l).length)),(5,i.2.1)]) (fun i G Ml=>Ml=((b1,ar 73 [sV df.b,sV dh.b,.bool so])::(i.2.2++[]))∧aE aU 50 G i.2.1 (List.filter (fun p:aG=>Span.has ⟨df,dh,so⟩ p.key) (l.take i.1)) i.2.2∧i.1≤l.length) (fun i=>l.length-i.1) (0,lV none 0 0,([]:MH)) ct ?_ ?_
 ·exact⟨rfl,(by simpa using aE.nil),aa⟩
 rintro⟨i,Co,wB⟩ gG2 G2 _ lJ ⟨rfl,gj,hi⟩
 try dsimp only at gj hi
 have j8:=aqm (fun p:aG=>Span.has ⟨df,dh,so⟩ p.key) l i
 refine WC.fr (f:=gk gG2 [(10,aK i),(3,aC b1),(8,lV dz l.length dA),(9,aK ((l).length)),(5,Co)]) rfl (g9 6 ?_)
 refine WC.cd (fun ov p11=> ?_) (fun ov p11=> ?_)
 ·refine g9 6 ?_
  refine(aQ.mono lJ).a1 (i:=i) aa (fun he3=>(g9 2 ?_))
  refine W.alloc nX (fun b6=>(g9 8 ?_))
  refine W.aH (uJ _ _ _ _) rfl (g9 2 ?_)
  refine WC.cond rfl (fun rX=> ?_) (fun rX=> ?_)
  ·refine g9 3 ?_
   refine W.lit (e:=aU) (l:=[⟨((l)[i]).key,((l)[i]).val⟩]) (css:=[[sV _,sV _]]) dR ei nX rfl rfl rfl rfl rfl rfl ⟨rfl,trivial⟩ (fun bl7 G7 TG hv7=>(W.app (e:=aU) dR ei nX rfl HF rfl rfl ((gj.mono TG)) (hv7) (ag (ag ah)) (by show(_+1)*32≤_;(try simp only [bP]at*);omega) (fun v8 Ms9 Fh=>(W.perm (ag (ag ah)).symm (g9 7 ?_)))))
   refine W.sub (bB.cons _) (g9 2 ?_)
   exact⟨TG,(i+1,v8,Ms9),ct,⟨rfl,(by have h:=Fh;rw [N8 (p:=(fun p:aG=>Span.has ⟨df,dh,so⟩ p.key)) aa (by simpa using rX)];exact h),aa⟩,aa⟩
  refine g9 6 ?_
  refine W.sub (bB.cons _) (g9 2 ?_)
  exact⟨Le.rfl,(i+1,Co,wB),ct,⟨rfl,(by have h:=gj;rw [HW (p:=(fun p:aG=>Span.has ⟨df,dh,so⟩ p.key)) aa (by simpa using rX)];exact h),aa⟩,aa⟩
 refine g9 11 ?_
 refine WC.du gj (ag ah) (fun G11 Fi BQ=>(g9 2 ?_))
 refine⟨rfl,_,rfl,?_⟩
 ·have h:=BQ;rw [fI aa]at h;exact h

variable {bA:Nat}
theorem aja(pk:af)(pv:af)(df:af)(dh:af)(so:Bool)(cC:jc G bA 0 [sV df.b,sV dh.b,.bool so]):
    Fc Tryz.prog 194 [.agg #[sV pk.b,sV pv.b],aC bA] G [] (fun v _ _=>v=.bool (Span.has ⟨df,dh,so⟩ pk)):=by
 refine Fc.go [.tmp 3] Tryz.func194 Tryz.ntmps194 rfl (fun w0=>(g9 2 ?_))
 refine W.box (L:=[sV _,sV _]) rfl rfl (fun b1=>(g9 5 ?_))
 refine W.ok (eH (vs:=vE) jG cC rfl rfl rfl (by simp)) (g9 2 ?_)
 refine W.aH (uJ _ _ _ _) rfl (g9 5 ?_)
 rfl

variable {eu:MH}
theorem aqn(aQ:aE aU 50 G dH l eu)(df:af)(dh:af)(so:Bool)(cC:jc G bA 0 [sV df.b,sV dh.b,.bool so]):
    Fc Tryz.prog 198 [dH,.func (.func 194) #[] #[aC bA]] G eu (fun v _ M'=>v=iV (kz (fun p:aG=>Span.has ⟨df,dh,so⟩ p.key) l)∧eu=M'):=by
 have hl:=aQ.bq
 refine Fc.go [.tmp 4] Tryz.func198 Tryz.ntmps198 rfl (fun w0=>(WC.perm (M':=(eu++[])) (by simp) (g9 14 ?_)))
 refine WC.loop (X:=Nat) (fun k=>[(8,aK k),(0,dH),(1,.func (.func 194) #[] #[aC bA]),(7,aK ((l).length))]) (fun k _ Ml=>Ml=(eu++[])∧k≤l.length∧∀j (h:j<l.length),j<k→(fun p:aG=>Span.has ⟨df,dh,so⟩ p.key) l[j]=false) (fun k=>l.length-k) 0 ct ?_ ?_
 ·exact⟨rfl,aa,fun j _ h=>by omega⟩
 rintro k gG2 G2 _ lJ ⟨rfl,hk,hj⟩
 refine g9 6 ?_
 refine WC.cd (fun h9 p9=> ?_) (fun h9 p9=> ?_)
 ·refine g9 15 ?_
  refine(aQ.mono lJ).a1 (i:=k) aa (fun he3=>(W.ok (aV (i:=k) dR ei (aQ.mono lJ) rfl rfl ⟨aa,aa⟩) (W.ok (dQ (vs:=OT) ei he3 ah rfl rfl rfl (by simp)) (W.yv (fst:=[]) (caps:=[aC bA]) rfl (aja _ _ _ _ _ (cC.mono lJ)) rfl (g9 2 ?_)))))
  refine WC.cond rfl (fun iQ=> ?_) (fun iQ=> ?_)
  ·refine g9 12 ?_
   refine⟨.inr rfl,[_],⟨rfl,trivial⟩,_,aI _ _,?_⟩
   refine⟨ax (Value.int .i64) ?_,rfl⟩
   exact(O8 aa (iQ) hj).symm
  refine g9 8 ?_
  exact⟨Le.rfl,k+1,ct,⟨rfl,aa,fun j h wC=>by
      by_cases e2:j=k
      ·subst e2;exact iQ
      ·exact hj j h aa⟩,aa⟩
 refine g9 11 ?_
 refine⟨.inr rfl,[_],⟨rfl,trivial⟩,_,aI _ _,?_⟩
 refine⟨ax (Value.int .i64) ?_,rfl⟩
 exact(O9 (fun j h=>hj j h aa)).symm

theorem ax0(aQ:aE aU 50 G dH l eu)(df:af)(dh:af)(so:Bool)(cC:jc G bA 0 [sV df.b,sV dh.b,.bool so]):
    Fc Tryz.prog 193 [dH,.func (.func 194) #[] #[aC bA]] G eu (fun v G' M'=>aE aU 50 G' v (l.filter (fun a=> !(fun p:aG=>Span.has ⟨df,dh,so⟩ p.key) a)) M'):=by
 have hl:=aQ.bq
 have hix:=Pc (fun p:aG=>Span.has ⟨df,dh,so⟩ p.key) l
 refine Fc.go [.tmp 4] Tryz.func193 Tryz.ntmps193 rfl (fun w0=>(WC.perm (M':=(eu++[])) (by simp) (g9 9 ?_)))
 refine W.call (Mp:=eu) (aqn aQ _ _ _ cC) rfl ah ?_
 intro _ G6 Ms8 vF q7
 refine match q7 with|⟨FV,HX⟩=> ?_
 subst FV
 subst HX
 refine g9 10 ?_
 refine WC.cd (fun jC uK=> ?_) (fun jC uK=> ?_)
 ·try dsimp only at uK
  refine g9 8 ?_
  refine⟨.inr rfl,[_],⟨rfl,trivial⟩,_,aI _ _,?_⟩
  have h:=(aQ.mono vF)
  rw [amc uK]
  exact h
 try dsimp only at uK
 refine g9 11 ?_
 refine WC.loop (X:=(Nat×Nat×List aG)×Value×MH) (fun x=>[(5,aK x.1.1),(6,aK x.1.2.1),(1,.func (.func 194) #[] #[aC bA]),(0,x.2.1)]) (fun x G Ml=>Ml=(x.2.2++[])∧aE aU 50 G x.2.1 (x.1.2.2) x.2.2∧x.1.1<x.1.2.1∧x.1.2.1≤l.length∧x.1.2.2.length=l.length∧x.1.2.2.take x.1.1=(l.take x.1.2.1).filter (fun a=> !(fun p:aG=>Span.has ⟨df,dh,so⟩ p.key) a)∧x.1.2.2.drop x.1.2.1=l.drop x.1.2.1) (fun x=>l.length-x.1.2.1) (((kz (fun p:aG=>Span.has ⟨df,dh,so⟩ p.key) l).toNat,(kz (fun p:aG=>Span.has ⟨df,dh,so⟩ p.key) l).toNat+1,l),dH,eu) ct ?_ ?_
 ·exact⟨rfl,(by exact(aQ.mono vF)),by dsimp only;omega,by dsimp only;omega,rfl,afu uK,rfl⟩
 rintro⟨⟨i,j,m⟩,v_0,Km⟩ az8 G11 _ Fi ⟨rfl,g0,tS,Ko,AK,Pd,Pe⟩
 try dsimp only at g0 tS Ko AK Pd Pe
 have hmj:=fun(h:j<l.length)=>Ud (by omega:j<m.length) h Pe
 refine g9 9 ?_
 refine WC.cd (fun Cm xb=> ?_) (fun Cm xb=> ?_)
 ·try dsimp only at xb
  refine g9 8 ?_
  refine g0.a1 (i:=j) aa (fun Ue=>(W.ok (aV (i:=j) dR ei g0 rfl rfl ⟨by dsimp only,aa⟩) (W.ok (dQ (vs:=OT) ei Ue ah rfl rfl rfl (by simp)) (W.alloc nX (fun yT=>(g9 7 ?_))))))
  refine W.yv (fst:=[]) (caps:=[aC bA]) rfl (aja _ _ _ _ _ (cC.mono aO)) rfl (g9 3 ?_)
  refine WC.cond rfl (fun ye=> ?_) (fun ye=> ?_)
  ·refine g9 5 ?_
   refine g0.a1 (i:=i) aa (fun HY=>(W.ok (aV (i:=i) dR ei g0 rfl rfl ⟨by dsimp only,aa⟩) (W.jD (i:=i) (o:=0) (vs:=OT) (a':=m[j]) ei rfl rfl rfl rfl rfl (g0) (ag ah) aa (by decide) (fun cs h=>by first|(rw [h];rfl)|(rw [h.1];exact⟨rfl,by assumption⟩)) (fun BO aqh=>(W.perm (ag ah).symm (g9 13 ?_))))))
   refine W.sub (bB.cons _) (g9 2 ?_)
   exact⟨Le.rfl,((i+1,j+1,m.set i m[j]),v_0,BO),ct,⟨rfl,(by exact aqh),by dsimp only;omega,by dsimp only;omega,by simpa using AK,(Uf (p:=(fun a=> !(fun p:aG=>Span.has ⟨df,dh,so⟩ p.key) a)) tS aa AK Pd Pe (by rw [←hmj aa];simpa using ye)).1,(Uf (p:=(fun a=> !(fun p:aG=>Span.has ⟨df,dh,so⟩ p.key) a)) tS aa AK Pd Pe (by rw [←hmj aa];simpa using ye)).2⟩,by dsimp only;omega⟩
  refine g9 7 ?_
  refine W.sub (bB.cons _) (g9 2 ?_)
  exact⟨Le.rfl,((i,j+1,m),v_0,Km),ct,⟨rfl,(by exact g0),by dsimp only;omega,by dsimp only;omega,AK,(Ug (p:=(fun a=> !(fun p:aG=>Span.has ⟨df,dh,so⟩ p.key) a)) aa Pd Pe (by rw [←hmj aa];simpa using ye)).1,(Ug (p:=(fun a=> !(fun p:aG=>Span.has ⟨df,dh,so⟩ p.key) a)) aa Pd Pe (by rw [←hmj aa];simpa using ye)).2⟩,by dsimp only;omega⟩
 try dsimp only at xb
 refine g9 9 ?_
 have Kp:=g0.aCk aa
 refine match Kp with|⟨b38,c38,uN⟩=> ?_
 subst uN
 have az9:=g0.fS
 refine W.ok (ew i m.length dR ei g0 rfl ⟨_,_,rfl,by first|omega|(dsimp only;omega)|dsimp only⟩ rfl ⟨aa,.inl aa⟩) (W.ajb (e:=aU) (lo:=i) (hi:=m.length) (m:=i) dR ei nX rfl rfl g0 ah rfl aa az9 ⟨_,rfl⟩ aa aa (fun HZ aqo=>(g9 6 ?_)))
 refine W.ok (AL 0 i dR ei rfl rfl ⟨_,_,rfl,by first|omega|(dsimp only;omega)|dsimp only⟩ ⟨aa,by simp only [nY]at az9;omega⟩) (g9 4 ?_)
 refine⟨.inr rfl,[_],⟨rfl,trivial⟩,_,aI _ _,?_⟩
 have h:=aqo
 rw [←fI (l:=l) (i:=j) aa,←Pd]
 exact h

variable {bj:MH} {E8:Value}
theorem aqp{s:List aG}(cC:aE aU 50 G E8 s bj)(i:Nat){pJ:Value}{u:List aG}{eE:MH}(gF:aE aU 50 G pJ u eE)(hi:i≤s.length)(hu:0<u.length)(hw:(s.length+u.length)*32≤140737488355328):
    Fc Tryz.prog 127 [E8,aK i,pJ] G (bj++eE) (fun v G' M'=>aE aU 50 G' v ((s.take i++u)++s.drop i) M'):=by
 have hs:=cC.bq
 have Xh:=gF.bq
 have FW:=cC.fS
 refine Fc.go [.tmp 6] Tryz.func127 Tryz.ntmps127 rfl (fun w0=>(WC.perm (M':=(bj++(eE++[]))) (by simp) (g9 9 ?_)))
 refine W.ok (ew (i) (s.length) dR ei cC rfl ⟨_,_,rfl,aa⟩ rfl ⟨aa,.inl aa⟩) (g9 16 ?_)
 refine WC.cd (fun iQ mz=> ?_) (fun iQ mz=> ?_)
 ·exact absurd mz aa
 refine g9 17 ?_
 refine WC.cd (fun AJ wA=> ?_) (fun AJ wA=> ?_)
 ·refine g9 4 ?_
  refine W.du gF (bJ ah) (fun G1 pX Pf=> ?_)
  have q3:=Pf.form
  refine match q3 with|⟨_,_,e_2⟩=> ?_
  subst e_2
  refine W.app (e:=aU) dR ei nX rfl HF rfl rfl ((cC.mono pX)) (Pf) ah (hw) (fun v4 Ms5 ho6=>(g9 5 ?_))
  refine⟨.inr rfl,[_],⟨rfl,trivial⟩,_,aI _ _,?_⟩
  have h:=ho6
  rw [show(s.take i++u)++s.drop i=s++u from by rw [fI aa,yj aa,cx]]
  exact h
 refine g9 7 ?_
 refine W.ok (Ok.int (n:=((s.length+u.length:Nat):Int)) (dZ rfl rfl aa) aa) (W.mv ?_)
 have q7:=cC.zx
 refine match q7 with|⟨aAa,Pg⟩=> ?_
 refine W.ok (Ph (c:=nY E8) dR Pg) (g9 3 ?_)
 refine WC.cd (fun Xf Kk=> ?_) (fun Xf Kk=> ?_)
 ·refine g9 4 ?_
  refine W.ok (ew (0) (i) dR ei cC rfl rfl ⟨_,_,rfl,aa⟩ ⟨aa,.inl aa⟩) (g9 2 ?_)
  refine W.ok (Ok.int (n:=((s.length+u.length:Nat):Int)) (dZ rfl rfl aa) aa) (W.mv (W.ok (Ok.int (n:=((s.length+u.length-i:Nat):Int)) (lm rfl rfl aa) aa) (W.aqq (e:=aU) (i:=i) (c:=s.length+u.length-i) dR ei nX rfl HF Tryz.underlying3 cC ah rfl rfl aa aa aa aa (by rw [show i+(s.length+u.length-i)=s.length+u.length from by omega];exact hw) rfl (fun v40 Uh CC=>(g9 7 ?_)))))
  refine W.ok (fL (i) (i+(s.length+u.length-i)) dR ei CC rfl ⟨_,_,rfl,aa⟩ rfl ⟨aa,by have:=iu.fS CC;omega⟩) (W.mv (W.AM (i) (by simp;omega) dR ei CC ah (Src.Er gF (bJ (bJ ah)) aa) rfl rfl aa aa (fun z45 ajc CD=>(g9 3 ?_))))
  refine WC.dw iD (d9 [0,1,2] ?_)
  refine WD.tk 3 rfl (Ok.int (n:=((i+u.length:Nat):Int)) (dZ rfl rfl aa) aa) (WD.tk 4 rfl (fL (i+u.length) (i+(s.length+u.length-i)) dR ei CD rfl ⟨_,_,rfl,aa⟩ rfl ⟨aa,by have:=iu.fS CD;omega⟩) (d9 [5,6] ?_))
  refine WD.tk 7 rfl (ew (i) (s.length) dR ei cC rfl ⟨_,_,rfl,aa⟩ rfl ⟨aa,.inl aa⟩) (WD.a1 8 rfl (W.AM (i+u.length) (by simp;omega) dR ei CD ah (Src.Pj (lo:=i) cC (bJ ah) aa aa) rfl rfl (by simp;omega) aa (fun z54 aAb aaz=>(W.nn (g9 10 ?_)))))
  refine⟨.inr rfl,[_],⟨rfl,trivial⟩,_,aI _ _,?_⟩
  have h:=(aaz.Ui (by simp;omega))
  rw [cx]at h
  exact h
 refine g9 7 ?_
 refine W.ok (Ok.int (n:=((s.length+u.length:Nat):Int)) (dZ rfl rfl aa) aa) (W.ok (ew 0 (s.length+u.length) dR ei cC rfl rfl ⟨_,_,rfl,aa⟩ ⟨aa,.inr aa⟩) ?_)
 have lp:=iu.extend (m:=u.length) (aE.open cC aa) aa hw aa
 refine g9 10 ?_
 refine W.ok (Ok.int (n:=((i+u.length:Nat):Int)) (dZ rfl rfl aa) aa) (W.ok (fL (i+u.length) (s.length+u.length) dR ei lp rfl ⟨_,_,rfl,aa⟩ rfl ⟨aa,by have:=iu.fS lp;omega⟩) ?_)
 have aAc:=iu.fS lp
 refine W.ok (AN (fn:=Tryz.f157) (tR:=4) (lo:=i+u.length) (hi:=s.length+u.length) Tryz.func157 (by kernel_rfl) (by kernel_rfl) (by kernel_rfl) (by kernel_rfl) dR ei gF lp ((bO _ ah).trans (bJ ah)) aa aa rfl rfl rfl) (g9 5 ?_)
 refine WC.dw iD (d9 [0,1,2] ?_)
 refine WD.tk 3 rfl (Ok.int (n:=((i+u.length:Nat):Int)) (dZ rfl rfl aa) aa) (WD.tk 4 rfl (fL (i+u.length) (s.length+u.length) dR ei lp rfl ⟨_,_,rfl,aa⟩ rfl ⟨aa,by have:=iu.fS lp;omega⟩) (d9 [5,6] ?_))
 refine WD.tk 7 rfl (fL (i) (s.length+u.length) dR ei lp rfl ⟨_,_,rfl,aa⟩ rfl ⟨aa,by have:=iu.fS lp;omega⟩) (WD.a1 8 rfl (W.FX (i:=i) dR ei lp ah rfl rfl aa (fun z77 aqr CE=>(W.nn (g9 6 ?_)))))
 refine W.ok (fL (i) (s.length+u.length) dR ei CE rfl ⟨_,_,rfl,aa⟩ rfl ⟨aa,by have:=iu.fS CE;omega⟩) (W.mv (W.AM (i) (by simp;omega) dR ei CE ah (Src.Er gF (bJ ah) aa) rfl rfl aa aa (fun z82 aaA aaB=>(g9 10 ?_))))
 refine⟨.inr rfl,[_],⟨rfl,trivial⟩,_,aI _ _,?_⟩
 exact(aaB.Ui aa)

theorem aqs{s:List aG}(cC:aE aU 50 G E8 s bj)(i:Nat)(j:Nat)(tS:i<j∧j≤s.length):
    Fc Tryz.prog 128 [E8,aK i,aK j] G bj (fun v G' M'=>aE aU 50 G' v (s.take i++s.drop j) M'):=by
 have hs:=cC.bq
 obtain⟨aAd,aAe⟩:=tS
 refine Fc.go [.tmp 6] Tryz.func128 Tryz.ntmps128 rfl (fun w0=>(WC.perm (M':=(bj++[])) (by simp) (g9 12 ?_)))
 have q8:=cC.zx
 refine match q8 with|⟨aAf,Pk⟩=> ?_
 have aqt:=cC.fS
 refine W.okx (FY i j s.length dR ei Pk ⟨_,_,rfl,aa⟩ ⟨_,_,rfl,aa⟩ ⟨_,_,rfl,aa⟩ ⟨aa,aa,aa⟩) (fun u13=>(g9 10 ?_))
 refine WC.cd (fun iQ mz=> ?_) (fun iQ mz=> ?_)
 ·exact absurd mz aa
 refine g9 10 ?_
 refine WC.dw iD (d9 [0,1] ?_)
 refine WD.tk 2 rfl (ew (0) (i) dR ei cC rfl rfl ⟨_,_,rfl,aa⟩ ⟨aa,.inl aa⟩) (d9 [3,4] ?_)
 refine WD.tk 5 rfl (ew (j) (s.length) dR ei cC rfl ⟨_,_,rfl,aa⟩ rfl ⟨aa,.inl aa⟩) (WD.a1 6 rfl (W.Xi (e:=aU) (i:=i) (j:=j) dR ei nX rfl cC ah rfl rfl aa aa aa (fun v26 aqu Fj aaC aaD=>(W.nn (d9 [7] ?_)))))
 refine g9 8 ?_
 have aAg:(s.take i++s.drop j).length=i+(s.length-j):=by simp;omega
 refine W.ok (ew (s.take i++s.drop j).length s.length dR ei Fj rfl ⟨_,_,rfl,aa⟩ ⟨_,_,rfl,aa⟩ ⟨aa,.inr aa⟩) (W.Xj (e:=aU) (lo:=(s.take i++s.drop j).length) (hi:=s.length) dR ei nX rfl rfl Fj ah rfl aa aaC aaD aa (fun oC Pl=>(g9 9 ?_)))
 refine⟨.inr rfl,[_],⟨rfl,trivial⟩,_,aI _ _,?_⟩
 exact Pl

theorem CF(cJ:az aU G uL a):
    Fc Tryz.prog 85 [uL] G [] (fun v G' M'=>aE aU 50 G' v (a) M'):=by
 obtain⟨CA,CB,rfl⟩:=cJ.form
 have ha:=cJ.bytes
 refine Fc.go [.tmp 2] Tryz.func85 Tryz.ntmps85 rfl (fun w0=>(g9 9 ?_))
 refine W.ok (oB dR rfl rfl) (g9 2 ?_)
 refine WC.cond rfl (fun h4=> ?_) (fun h4=> ?_)
 ·have hn:=az.isNone cJ h4
  subst hn
  refine g9 8 ?_
  exact aE.nil
 refine g9 4 ?_
 refine W.HR (e:=aU) dR ei nX rfl (fun v1 H0 Nm=>(W.mv (W.app (e:=aU) dR ei nX rfl HF rfl rfl (Nm) (cJ) ah (by simpa using ha) (fun v4 Ms5 ho6=>(g9 4 ?_)))))
 refine⟨.inr rfl,[_],⟨rfl,trivial⟩,_,aI _ _,?_⟩
 have h:=ho6
 rw [iU]at h
 exact h

theorem Kq(aQ:az aU G dH l)(k:af)(ek:Int)(ev:af)(hP:bc l)(hn:l.length≤1000000)(he:ev.b.size≤1048576):
    Fc Tryz.prog 95 [dH,sV k.b,.agg #[iV ek,sV ev.b]] G [] (fun v G' M'=>M'=[]∧∃u0,v=u0∧az aU G' u0 (bW l k (⟨ek,ev⟩:bG))):=by
 obtain⟨dz,dA,rfl⟩:=aQ.form
 have hl:=aQ.bq
 have hgv:=hP.val k
 have hr:=hP.o8
 have hh:=hr.has k
 have j8:=zy l k
 refine Fc.go [.tmp 6] Tryz.func95 Tryz.ntmps95 rfl (fun w0=>(g9 2 ?_))
 refine W.box (L:=[iV _,sV _]) rfl rfl (fun b7=>(g9 7 ?_))
 refine W.aH (aax aQ _ (by assumption)) rfl (g9 18 ?_)
 refine WC.cond rfl (fun afv=> ?_) (fun afv=> ?_)
 ·have FZ:(bz l k).isSome=true:=afv
  obtain⟨q1,q2⟩:=Cu (hh.symm.trans FZ)
  have Xk:=hr.val q1 q2
  refine g9 3 ?_
  refine aQ.a1 (i:=eW l k) (q1) (fun he8=>(W.ok (bd (i:=eW l k) dR ei aQ rfl rfl ⟨aa,q1⟩) (g9 8 ?_)))
  refine W.call (Mp:=[]) (CF aQ) rfl ah ?_
  rintro v12 G11 ajd Fi aje
  refine W.perm (ag ah).symm (g9 9 ?_)
  refine W.aH (AH ek ev (bz l k).isSome l[eW l k].val aa (by rw [Xk]at hgv;simpa using gg hgv (by decide))) rfl (g9 12 ?_)
  refine W.sp 36 rfl (fun F0=> ?_) (fun F0=> ?_)
  ·have tU:bG.apply (⟨ek,ev⟩:bG) (bz l k)=some ((bG.apply (⟨ek,ev⟩:bG) (kG (bz l k).isSome l[eW l k].val)).getD af.nil):=by
     rw [FZ,Xk]at*;simp only [kG,if_true]at*;exact H2 F0
   refine g9 11 ?_
   refine aje.a1 (i:=eW l k) (q1) (fun aqk=>(W.ok (aV (i:=eW l k) dR ei aje rfl rfl ⟨aa,q1⟩) (g9 1 ?_)))
   refine W.jD (i:=eW l k) (o:=1) (vs:=TE) (a':=⟨l[eW l k].key,(((bG.apply (⟨ek,ev⟩:bG) (kG (bz l k).isSome l[eW l k].val))).getD af.nil)⟩) gi rfl rfl rfl rfl rfl (aje) (ag ah) aa (by decide) (fun cs h=>by rw [h];rfl) (fun aAh aqv=>(W.perm (ag ah).symm (g9 9 ?_)))
   refine WC.du aqv (ag ah) (fun G20 zz H3=>(g9 2 ?_))
   refine⟨rfl,_,rfl,?_⟩
   ·have h:=H3;rw [amd hr q1 q2 tU]at h;exact h
  have tU:bG.apply (⟨ek,ev⟩:bG) (bz l k)=none:=by
    rw [FZ,Xk]at*;simp only [kG,if_true]at*;simpa using F0
  refine g9 24 ?_
  refine W.ok (Ok.int (n:=((eW l k+1:Nat):Int)) (dZ rfl rfl aa) aa) (W.call (Mp:=ajd) (aqs aje _ _ (by first|assumption|omega)) rfl (ag ah) ?_)
  rintro v22 G21 aaE uM aqw
  refine W.perm (ag ah).symm (g9 10 ?_)
  refine WC.du aqw (ag ah) (fun G25 H4 H5=>(g9 2 ?_))
  refine⟨rfl,_,rfl,?_⟩
  ·have h:=H5;rw [ame hr q1 q2 tU]at h;exact h
 have AO:(bz l k).isSome=false:=afv
 have hnn:bz l k=none:=by simpa using AO
 refine g9 5 ?_
 refine W.call (Mp:=[]) (CF aQ) rfl ah ?_
 rintro v27 G26 LS Pm aAi
 refine W.perm (ag ah).symm (g9 9 ?_)
 refine W.aH (AH ek ev (bz l k).isSome af.nil aa (by show(ByteArray.mk #[]).size≤_;decide)) rfl (g9 12 ?_)
 refine W.sp 36 rfl (fun F0=> ?_) (fun F0=> ?_)
 ·have tU:bG.apply (⟨ek,ev⟩:bG) (bz l k)=some ((bG.apply (⟨ek,ev⟩:bG) (kG (bz l k).isSome af.nil)).getD af.nil):=by
    rw [AO,hnn]at*;simp only [kG]at*;exact H2 F0
  refine g9 19 ?_
  refine W.ok (aY (L:=[sV _,sV _]) azZ nX rfl rfl rfl) (W.re (e:=aU) (l:=[⟨k,(((bG.apply (⟨ek,ev⟩:bG) (kG (bz l k).isSome af.nil))).getD af.nil)⟩]) (css:=[[sV _,sV _]]) dR ei nX rfl rfl rfl rfl rfl rfl ⟨rfl,trivial⟩ (fun v30 oC Po=>(W.perm (ag ah).symm (W.call (Mp:=LS++oC) (aqp aAi _ Po (by first|assumption|omega) (by first|assumption|omega|simp) (by first|assumption|omega|(simp;omega))) rfl ((nJ (ci _ _ _)).trans ((bO _ (ag ah)).trans (ag (bJ ah)))) ?_))))
  rintro v34 G33 aGK lq aGL
  refine W.perm (ag ah).symm (g9 10 ?_)
  refine WC.du aGL (ag ah) (fun G37 aaF aqx=>(g9 2 ?_))
  refine⟨rfl,_,rfl,?_⟩
  ·have h:=aqx;rw [amf hr AO tU]at h;exact h
 have tU:bG.apply (⟨ek,ev⟩:bG) (bz l k)=none:=by
   rw [AO,hnn]at*;simp only [kG]at*;simpa using F0
 refine g9 29 ?_
 refine WC.du aAi (ag ah) (fun G38 oD aqy=>(g9 2 ?_))
 refine⟨rfl,_,rfl,?_⟩
 ·have h:=aqy;rw [amg hr AO tU]at h;exact h

theorem Xl(aQ:az aU G dH l)(df:af)(dh:af)(so:Bool):
    Fc Tryz.prog 178 [dH,.agg #[sV df.b,sV dh.b,.bool so]] G [] (fun v G' M'=>M'=[]∧∃u0,v=u0∧az aU G' u0 (l.filter (fun p:aG=> !Span.has ⟨df,dh,so⟩ p.key))):=by
 obtain⟨dz,dA,rfl⟩:=aQ.form
 refine Fc.go [.tmp 4] Tryz.func178 Tryz.ntmps178 rfl (fun w0=>(g9 2 ?_))
 refine W.box (L:=[sV _,sV _,.bool _]) rfl rfl (fun b1=>(g9 6 ?_))
 refine W.call (Mp:=[]) (CF aQ) rfl ah ?_
 rintro v3 G2 H6 lJ ho5
 refine W.perm (ag ah).symm (W.aCl (b:=b1) (L:=[sV _,sV _,.bool _]) ah (fun G6 vF hc6=>(W.ok (afw (fst:=[]) (caps:=[.tmp 3]) (vs:=[]) (ws:=[aC b1]) rfl rfl) (W.call (Mp:=H6) (ax0 (ho5.mono vF) _ _ _ hc6) rfl ah ?_))))
 rintro v8 G7 Ms9 TG Fh
 refine g9 3 ?_
 refine WC.du Fh ah (fun G11 Fi BQ=>(g9 2 ?_))
 refine⟨rfl,_,rfl,?_⟩
 ·exact BQ

theorem Uj(aQ:az aU G dH l)(ms:Int)(mk:Int)(dU:af)(jI:af)(mo:Bool)(mv:af)(hP:bc l)(hn:l.length≤1000000)(hk:aD.fit (⟨ms,mk,dU,jI,mo,mv⟩:aD)):
    Fc Tryz.prog 151 [dH,.agg #[iV ms,iV mk,sV dU.b,sV jI.b,.bool mo,sV mv.b]] G [] (fun v G' M'=>M'=[]∧∃u0,v=u0∧az aU G' u0 (takeN l (⟨ms,mk,dU,jI,mo,mv⟩:aD))):=by
 obtain⟨dz,dA,rfl⟩:=aQ.form
 obtain⟨wD,zA,hk3⟩:=hk
 dsimp only at wD zA hk3
 have hl:=aQ.bq
 have hov:=Ep (m:=(⟨ms,mk,dU,jI,mo,mv⟩:aD)) dU hk3
 refine Fc.go [.tmp 4] Tryz.func151 Tryz.ntmps151 rfl (fun w0=>(g9 2 ?_))
 refine W.box (L:=[iV _,iV _,sV _,sV _,.bool _,sV _]) rfl rfl (fun b12=>(g9 11 ?_))
 refine WC.cd (fun h7 p7=> ?_) (fun h7 p7=> ?_)
 ·refine g9 4 ?_
  refine W.aH (zt _ _ _ _ _ _ (by first|assumption|omega|(dsimp only;omega))) rfl (W.cS (Xl aQ (aD.span (⟨ms,mk,dU,jI,mo,mv⟩:aD)).lo (aD.span (⟨ms,mk,dU,jI,mo,mv⟩:aD)).hi (aD.span (⟨ms,mk,dU,jI,mo,mv⟩:aD)).bQ) rfl (fun aGM aGN Xa lT HT=>(g9 6 ?_)))
  refine⟨rfl,_,rfl,?_⟩
  ·have h:=HT;rw [takeN,if_pos p7];exact h
 refine g9 3 ?_
 refine WC.dw bB.k9 (d9 [0,1,2,3,4,5] ?_)
 refine WD.a1 6 rfl (W.aH (HQ ms mk dU jI mo mv dU aa) rfl (W.nn (WD.a1 7 rfl (W.cS (Kq aQ dU (aD.on (⟨ms,mk,dU,jI,mo,mv⟩:aD) dU).kind (aD.on (⟨ms,mk,dU,jI,mo,mv⟩:aD) dU).val hP hn aa) rfl (fun aqz aqA G20 zz BP=>(W.nn (d9 [8] ?_)))))))
 refine g9 4 ?_
 refine⟨rfl,_,rfl,?_⟩
 ·have h:=BP;rw [takeN,if_neg p7];exact h

theorem amh(aQ:az aU G dH l){yw:Value}{ms:List aD}(rZ:az dy G yw ms)(hP:bc l)(hn:l.length+ms.length≤1000000)(hm:∀m∈ms,m.fit):
    Fc Tryz.prog 118 [dH,yw] G [] (fun v G' M'=>M'=[]∧∃u0,v=u0∧az aU G' u0 (cq l ms)):=by
 obtain⟨dz,dA,rfl⟩:=aQ.form
 obtain⟨xc,xd,rfl⟩:=rZ.form
 have hl:=aQ.bq
 have hlm:=rZ.bq
 refine Fc.go [.tmp 4] Tryz.func118 Tryz.ntmps118 rfl (fun w0=>(g9 8 ?_))
 refine W.cS (ie aQ) rfl (fun aqB aqC G27 Uk aqD=>(g9 12 ?_))
 refine WC.loop (X:=(Nat)×Value) (fun k=>[(12,aK k.1),(10,lV xc ms.length xd),(11,aK ((ms).length)),(5,k.2)]) (fun k G Ml=>Ml=[]∧az aU G k.2 (cq l (ms.take k.1))∧k.1≤ms.length) (fun k=>ms.length-k.1) (0,lV aqB ((l)).length aqC) ct ?_ ?_
 ·exact⟨rfl,(by simpa [cq]using aqD),aa⟩
 rintro⟨k,Co⟩ aGO G34 _ aAj ⟨rfl,gj,hk⟩
 try dsimp only at gj hk
 have hPk:=bc.aqE (ms:=ms.take k) hP (fun m h=>hm m (gu h))
 have Xm:=Pp (ms:=ms.take k) hP (fun m h=>hm m (gu h))
 have o9:(ms.take k).length≤k:=by simp;omega
 refine WC.fr (f:=gk aGO [(12,aK k),(10,lV xc ms.length xd),(11,aK ((ms).length)),(5,Co)]) rfl (g9 6 ?_)
 refine WC.cd (fun xa pG=> ?_) (fun xa pG=> ?_)
 ·refine g9 6 ?_
  refine(rZ.mono (Uk.trans aAj)).a2 (i:=k) aa (fun aGP aPW=>(g9 2 ?_))
  refine W.alloc gL (fun b40=>(g9 6 ?_))
  refine W.cS (Uj gj ms[k].aW ms[k].kind ms[k].key ms[k].hi ms[k].bQ ms[k].val hPk aa (hm _ (bN _))) rfl (fun H7 H8 G41 BR aaG=>(g9 7 ?_))
  refine W.sub (bB.cons _) (g9 2 ?_)
  exact⟨BR,(k+1,lV H7 (takeN (cq l (ms.take k)) ms[k]).length H8),ct,⟨rfl,(by have h:=aaG;rw [CG aa];exact h),aa⟩,aa⟩
 refine g9 13 ?_
 refine⟨rfl,_,rfl,?_⟩
 ·have h:=gj;rw [fI aa]at h;exact h

variable {pu:Prop} {x0:Value} {α:Type}
theorem Ul [Inhabited α]{lt:α→α→Bool}{pb:GH→List α→MH→Prop}{EV:GH→Value→α→Prop}(hK:F1 Tryz.prog lt x0 pb EV pu){l:List α}(aQ:pb G l eu)(i0:Nat)(n:Nat)(f:Nat)(hf:n≤i0+f)(hn:n≤l.length)(hi:i0≤1000000000000000):
    Fc Tryz.prog 80 [x0,aK i0,aK n] G eu (fun v G' M'=>(∃b,v=.bool b)∧pb G' (iE lt f l i0 n) M'):=by
 have hbd:=hK.F2 aQ
 refine Fc.go [.tmp 6] Tryz.func80 Tryz.ntmps80 rfl (fun w0=>(WC.perm (M':=(eu++[])) (by simp) (g9 13 ?_)))
 refine WC.loop (X:=(Nat×Nat×List α)×MH) (fun x=>[(7,aK x.1.1),(1,aK i0),(2,aK n),(0,x0)]) (fun x G Ml=>Ml=(x.2++[])∧pb G (x.1.2.2) x.2∧iE lt x.1.2.1 x.1.2.2 x.1.1 n=iE lt f l i0 n∧n≤x.1.1+x.1.2.1∧x.1.2.2.length=l.length∧x.1.1≤n+1000000000000000) (fun x=>n-x.1.1) (((i0,f,l):Nat×Nat×List α),eu) ct ?_ ?_
 ·exact⟨rfl,(by simpa using aQ),rfl,hf,rfl,by dsimp only;omega⟩
 rintro⟨⟨i,f9,L⟩,Km⟩ Xe G1 _ pX ⟨rfl,g0,hd,TH,hL,hib⟩
 try dsimp only at g0 hd TH hL hib
 have hbL:L.length≤140737488355328:=by omega
 refine WC.fr (f:=gk Xe [(7,aK i),(1,aK i0),(2,aK n),(0,x0)]) rfl (g9 4 ?_)
 refine W.ok (Xn rfl rfl aa) (W.ok (Ok.int (n:=((2*i+1:Nat):Int)) (dZ rfl rfl aa) aa) (g9 10 ?_))
 refine W.sd 18 (fun rX lI=> ?_) (fun rX lI=> ?_)
 ·try dsimp only at lI
  refine g9 21 ?_
  refine⟨.inr rfl,[_],⟨rfl,trivial⟩,_,aI _ _,?_⟩
  refine⟨⟨_,rfl⟩,?_⟩
  have h:=g0
  rw [LU aa]at hd
  rw [←hd];exact h
 try dsimp only at lI
 refine g9 7 ?_
 refine WC.cd (fun j1 nh=> ?_) (fun j1 nh=> ?_)
 ·try dsimp only at nh
  exfalso;omega
 try dsimp only at nh
 have hkj:=CH (lt:=lt) (l:=L) (i:=i) (n:=n) aa
 refine g9 8 ?_
 refine WC.join (X:=Unit) (fun u8=>[(9,aK ((mD lt L i n))),(0,x0),(1,aK i0),(2,aK n),(7,aK i)]) (fun u8 _ Ml=>Ml=(Km++[])) ?_ ?_
 ·refine g9 3 ?_
  refine W.ok (Ok.int (n:=((2*i+2:Nat):Int)) (dZ rfl rfl aa) aa) (g9 9 ?_)
  refine W.sd 28 (fun Cx w8=> ?_) (fun Cx w8=> ?_)
  ·try dsimp only at w8
   refine g9 7 ?_
   refine W.inv (hK.less (i:=2*i+2) (j:=2*i+1) g0 aa aa) rfl rfl ah ?_
   intro _ G2 H6 lJ q3
   refine match q3 with|⟨CI,sf⟩=> ?_
   subst CI
   have sf:=sf.symm
   subst sf
   refine g9 3 ?_
   refine WC.cond rfl (fun yf=> ?_) (fun yf=> ?_)
   ·refine g9 5 ?_
    exact⟨lJ,(),⟨(by exact iv (ax Nat.cast (ax1 aa yf).symm)),eqv,eqv,eqv,eqv,trivial⟩,rfl⟩
   refine g9 2 ?_
   exact⟨lJ,(),⟨(by exact iv (ax Nat.cast (ajf (.inr yf)).symm)),eqv,eqv,eqv,eqv,trivial⟩,rfl⟩
  try dsimp only at w8
  refine g9 10 ?_
  exact⟨Le.rfl,(),⟨(by exact iv (ax Nat.cast (ajf (.inl aa)).symm)),eqv,eqv,eqv,eqv,trivial⟩,rfl⟩
 rintro u8 gG7 G7 _ TG rfl
 refine g9 6 ?_
 refine W.inv (hK.less (i:=(mD lt L i n)) (j:=i) (hK.mono TG g0) aa aa) rfl rfl ah ?_
 intro _ G8 Pq H9 q9
 refine match q9 with|⟨aaH,Pr⟩=> ?_
 subst aaH
 have Pr:=Pr.symm
 subst Pr
 refine g9 3 ?_
 refine WC.cond rfl (fun pY=> ?_) (fun pY=> ?_)
 ·refine g9 15 ?_
  refine⟨.inr rfl,[_],⟨rfl,trivial⟩,_,aI _ _,?_⟩
  refine⟨⟨_,rfl⟩,?_⟩
  have h:=(hK.mono (TG.trans H9) g0)
  rw [Ps aa (by simpa using pY)]at hd
  rw [←hd];exact h
 refine g9 7 ?_
 refine W.inv (hK.swap (i:=i) (j:=(mD lt L i n)) (hK.mono aO g0) aa aa) rfl rfl ah ?_
 intro _ Xa Fk lT yg
 refine match yg with|⟨CJ,Pt⟩=> ?_
 subst CJ
 refine g9 8 ?_
 exact⟨aO,((((mD lt L i n),f9-1,iX L i (mD lt L i n)):Nat×Nat×List α),Fk),ct,⟨rfl,(by simpa using Pt),by dsimp only;rw [←hd,ami TH aa (by simpa using pY)],by dsimp only;omega,by dsimp only;rw [dV];exact hL,by dsimp only;omega⟩,by dsimp only;omega⟩

theorem ax2 [Inhabited α]{lt:α→α→Bool}{pb:GH→List α→MH→Prop}{EV:GH→Value→α→Prop}(hK:F1 Tryz.prog lt x0 pb EV pu){l:List α}(aQ:pb G l eu)(j0:Nat)(f:Nat)(hf:j0≤f)(hj:j0<l.length):
    Fc Tryz.prog 132 [x0,aK j0] G eu (fun v G' M'=>v=.tuple #[]∧pb G' (Ia lt f l j0) M'):=by
 have hbd:=hK.F2 aQ
 refine Fc.go [] Tryz.func132 Tryz.ntmps132 rfl (fun w0=>(WC.perm (M':=(eu++[])) (by simp) (g9 1 ?_)))
 refine WC.loop (X:=(Nat×Nat×List α)×MH) (fun x=>[(1,aK x.1.1),(0,x0)]) (fun x G Ml=>Ml=(x.2++[])∧pb G (x.1.2.2) x.2∧Ia lt x.1.2.1 x.1.2.2 x.1.1=Ia lt f l j0∧x.1.1≤x.1.2.1∧x.1.2.2.length=l.length∧x.1.1<l.length) (fun x=>x.1.1) (((j0,f,l):Nat×Nat×List α),eu) ct ?_ ?_
 ·exact⟨rfl,(by simpa using aQ),rfl,hf,rfl,hj⟩
 rintro⟨⟨j,f9,L⟩,Km⟩ aGQ G19 _ pZ ⟨rfl,g0,hd,TH,hL,Ko⟩
 try dsimp only at g0 hd TH hL Ko
 have hbL:L.length≤140737488355328:=by omega
 refine WC.fr (f:=gk aGQ [(1,aK j),(0,x0)]) rfl (g9 5 ?_)
 refine W.ok (Ok.int (n:=(((j-1) / 2:Nat):Int)) (ajg rfl rfl aa (by rw [show(2:Int)=2 from rfl,Pu];omega)) (Pu j)) (g9 10 ?_)
 refine W.sd 11 (fun ir ry=> ?_) (fun ir ry=> ?_)
 ·try dsimp only at ry
  refine g9 14 ?_
  refine⟨.inl rfl,[],trivial,_,aI _ _,?_⟩
  refine⟨rfl,?_⟩
  have h:=g0
  rw [aaI (.inl aa)]at hd
  rw [←hd];exact h
 try dsimp only at ry
 refine g9 7 ?_
 refine W.inv (hK.less (i:=j) (j:=(j-1) / 2) g0 aa aa) rfl rfl ah ?_
 intro _ G20 aAk zz Kr
 refine match Kr with|⟨xe,F3⟩=> ?_
 subst xe
 have F3:=F3.symm
 subst F3
 refine g9 5 ?_
 refine WC.cond rfl (fun iQ=> ?_) (fun iQ=> ?_)
 ·refine g9 5 ?_
  refine⟨.inl rfl,[],trivial,_,aI _ _,?_⟩
  refine⟨rfl,?_⟩
  have h:=(hK.mono zz g0)
  rw [aaI (.inr (by simpa using iQ))]at hd
  rw [←hd];exact h
 refine g9 7 ?_
 refine W.inv (hK.swap (i:=(j-1) / 2) (j:=j) (hK.mono zz g0) aa aa) rfl rfl ah ?_
 intro _ G25 CK H4 Pv
 refine match Pv with|⟨Pw,aqF⟩=> ?_
 subst Pw
 refine g9 8 ?_
 exact⟨aO,((((j-1) / 2,f9-1,iX L ((j-1) / 2) j):Nat×Nat×List α),CK),ct,⟨rfl,(by simpa using aqF),by dsimp only;rw [←hd,ax3 TH aa (by simpa using iQ)],by dsimp only;omega,by dsimp only;rw [dV];exact hL,by dsimp only;omega⟩,by dsimp only;omega⟩

theorem Px [Inhabited α]{lt:α→α→Bool}{pb:GH→List α→MH→Prop}{EV:GH→Value→α→Prop}(hK:F1 Tryz.prog lt x0 pb EV pu){l:List α}(aQ:pb G l eu)(h0:0<l.length):
    Fc Tryz.prog 42 [x0] G eu (fun v G' M'=>EV G' v (nth l 0)∧pb G' (oE lt l) M'):=by
 have hbd:=hK.F2 aQ
 refine Fc.go [.tmp 2] Tryz.func42 Tryz.ntmps42 rfl (fun w0=>(WC.perm (M':=(eu++[])) (by simp) (g9 8 ?_)))
 refine W.inv (hK.len aQ) rfl rfl ah ?_
 intro _ G31 aaJ aqG q32
 refine match q32 with|⟨zB,afx⟩=> ?_
 subst zB
 have afx:=afx.symm
 subst afx
 refine W.ok (Ok.int (n:=((l.length-1:Nat):Int)) (lm rfl rfl aa) aa) (g9 7 ?_)
 refine W.inv (hK.swap (i:=0) (j:=l.length-1) (hK.mono aqG aQ) aa aa) rfl rfl ah ?_
 intro _ G36 HZ CL Ks
 refine match Ks with|⟨Py,Fl⟩=> ?_
 subst Py
 refine g9 6 ?_
 refine W.call (Mp:=HZ) (Ul hK Fl 0 _ l.length aa (by first|omega|(simp only [dV];omega)) aa) rfl ah ?_
 intro _ G42 Pz ajh q43
 refine match q43 with|⟨⟨_,zC⟩,aqH⟩=> ?_
 subst zC
 refine g9 5 ?_
 refine W.inv (hK.pop aqH (by rw [uD,dV];omega)) rfl rfl ah ?_
 intro v51 G48 LV CM Xo
 refine match Xo with|⟨ax4,Um⟩=> ?_
 refine g9 4 ?_
 refine⟨.inr rfl,[_],⟨rfl,trivial⟩,_,aI _ _,?_⟩
 refine⟨(by have h:=ax4;rw [(aaK (lt:=lt) h0).2]at h;exact h),?_⟩
 have h:=Um
 rw [(aaK h0).1]at h;exact h

theorem Ku [Inhabited α]{lt:α→α→Bool}{pb:GH→List α→MH→Prop}{EV:GH→Value→α→Prop}(hK:F1 Tryz.prog lt x0 pb EV){l:List α}(aQ:pb G l eu){a:α}(cJ:EV G uL a)(hb:l.length<1000000)(hEV:∀ {G G':GH} {v:Value} {a:α},Le G G'→EV G v a→EV G' v a):
    Fc Tryz.prog 99 [x0,uL] G eu (fun v G' M'=>v=.tuple #[]∧pb G' (qM lt l a) M'):=by
 have hbd:=hK.F2 aQ
 have hla:(l++[a]).length=l.length+1:=by simp
 refine Fc.go [] Tryz.func99 Tryz.ntmps99 rfl (fun w0=>(WC.perm (M':=(eu++[])) (by simp) (g9 4 ?_)))
 refine W.inv (hK.push trivial aQ aa cJ) rfl rfl ah ?_
 intro _ G53 aqI zD q54
 refine match q54 with|⟨PA,aAl⟩=> ?_
 subst PA
 refine g9 5 ?_
 refine W.inv (hK.len aAl) rfl rfl ah ?_
 intro _ G59 PB LW Xp
 refine match Xp with|⟨Ib,afy⟩=> ?_
 subst Ib
 have afy:=afy.symm
 subst afy
 refine W.ok (Ok.int (n:=((l.length:Nat):Int)) (lm rfl rfl aa) aa) (W.call (Mp:=aqI) (ax2 hK (hK.mono LW aAl) _ l.length aa aa) rfl ah ?_)
 intro _ G64 aji LX q65
 refine match q65 with|⟨aaL,aGR⟩=> ?_
 subst aaL
 refine W.nil ?_
 refine⟨.inl rfl,[],trivial,_,aI _ _,?_⟩
 refine⟨rfl,?_⟩
 exact aGR

theorem Es [Inhabited α]{lt:α→α→Bool}{pb:GH→List α→MH→Prop}{EV:GH→Value→α→Prop}(hK:F1 Tryz.prog lt x0 pb EV pu){l:List α}(aQ:pb G l eu)(hh:lu lt l)(hb:l.length<1000000):
    Fc Tryz.prog 41 [x0] G eu (fun v G' M'=>v=.tuple #[]∧pb G' (l) M'):=by
 have hbd:=hK.F2 aQ
 refine Fc.go [] Tryz.func41 Tryz.ntmps41 rfl (fun w0=>(WC.perm (M':=(eu++[])) (by simp) (g9 3 ?_)))
 refine W.inv (hK.len aQ) rfl rfl ah ?_
 intro _ G70 ajj ajk q71
 refine match q71 with|⟨PC,afz⟩=> ?_
 subst PC
 have afz:=afz.symm
 subst afz
 refine g9 6 ?_
 refine W.ok (Ok.int (n:=((l.length / 2:Nat):Int)) (zE rfl rfl aa aa aa) aa) (g9 5 ?_)
 refine WC.loop (X:=(Int)×MH) (fun z=>[(3,iV z.1),(2,aK ((l).length)),(0,x0)]) (fun z G Ml=>Ml=(z.2++[])∧pb G (l) z.2∧ -1≤z.1∧z.1≤l.length) (fun z=>(z.1+1).toNat) (((((l.length / 2:Nat):Int)-1):Int),eu) ct ?_ ?_
 ·exact⟨rfl,(by simpa using (hK.mono ajk aQ)),aa,aa⟩
 rintro⟨z,Km⟩ aGS G75 _ aAm ⟨rfl,g0,hz1,hz2⟩
 try dsimp only at g0 hz1 hz2
 refine WC.fr (f:=gk aGS [(3,iV z),(2,aK ((l).length)),(0,x0)]) rfl (g9 7 ?_)
 refine WC.cd (fun ir ry=> ?_) (fun ir ry=> ?_)
 ·try dsimp only at ry
  obtain⟨m,rfl⟩:∃m:Nat,z=(m:Int):=⟨z.toNat,aa⟩
  refine g9 8 ?_
  refine W.call (Mp:=Km) (Ul hK g0 _ _ l.length aa (by first|omega|(simp only [dV];omega)) aa) rfl ah ?_
  intro _ G76 ajl LY q77
  refine match q77 with|⟨⟨_,aaM⟩,aaN⟩=> ?_
  subst aaM
  refine g9 9 ?_
  exact⟨LY,(((m:Int)-1),ajl),ct,⟨rfl,(by have h:=aaN;rw [amj hh]at h;exact h),by dsimp only;omega,by dsimp only;omega⟩,by dsimp only;omega⟩
 try dsimp only at ry
 refine g9 4 ?_
 refine⟨.inl rfl,[],trivial,_,aI _ _,?_⟩
 refine⟨rfl,?_⟩
 exact g0

variable {l:List Int}
theorem aqJ(aQ:aE bE 3 G dH l eu):
    Fc Tryz.prog 220 [dH] G eu (fun v _ M'=>v=iV ((l.length:Int))∧eu=M'):=by
 refine Fc.go [.tmp 2] Tryz.func220 Tryz.ntmps220 rfl (fun w0=>(WC.perm (M':=(eu++[])) (by simp) (g9 13 ?_)))
 refine⟨.inr rfl,[_],⟨rfl,trivial⟩,_,aI _ _,?_⟩
 exact⟨rfl,rfl⟩

theorem amk(aQ:aE bE 3 G dH l eu)(i:Nat)(j:Nat)(hi:i<l.length)(hj:j<l.length):
    Fc Tryz.prog 221 [dH,aK i,aK j] G eu (fun v _ M'=>v=.bool (decide (nth l i<nth l j))∧eu=M'):=by
 have hl:=aQ.bq
 refine Fc.go [.tmp 6] Tryz.func221 Tryz.ntmps221 rfl (fun w0=>(WC.perm (M':=(eu++[])) (by simp) (g9 9 ?_)))
 refine aQ.a2 (i:=i) aa (fun he1 jY=>(W.ok (aV (i:=i) kF cV aQ rfl rfl ⟨aa,aa⟩) (W.ok (dQ (vs:=kB) cV he1 ah rfl rfl rfl (by simp)) (g9 2 ?_))))
 refine aQ.a2 (i:=j) aa (fun he5 uO=>(W.ok (aV (i:=j) kF cV aQ rfl rfl ⟨aa,aa⟩) (W.ok (dQ (vs:=kB) cV he5 ah rfl rfl rfl (by simp)) (g9 5 ?_))))
 refine⟨.inr rfl,[_],⟨rfl,trivial⟩,_,aI _ _,?_⟩
 exact⟨by rw [eJ hi,eJ hj];rfl,rfl⟩

theorem aml(aQ:aE bE 3 G dH l eu)(i:Nat)(j:Nat)(hi:i<l.length)(hj:j<l.length):
    Fc Tryz.prog 222 [dH,aK i,aK j] G eu (fun v G' M'=>v=.tuple #[]∧aE bE 3 G' dH (iX l i j) M'):=by
 have hl:=aQ.bq
 have aAn:i64 l[i]:=by obtain⟨_,_,_,h⟩:=aQ.at hi;exact h
 have aAo:i64 l[j]:=by obtain⟨_,_,_,h⟩:=aQ.at hj;exact h
 have hls:(l.set i l[j]).length=l.length:=cg ..
 refine Fc.go [] Tryz.func222 Tryz.ntmps222 rfl (fun w0=>(WC.perm (M':=(eu++[])) (by simp) (WC.dw iD (d9 [0,1,2,3,4,5] ?_))))
 refine aQ.a2 (i:=j) aa (fun he9 aPX=>(WD.tk 6 rfl (aV (i:=j) kF cV aQ rfl rfl ⟨aa,aa⟩) (d9 [8,9] ?_)))
 refine aQ.a2 (i:=i) aa (fun aqK aPY=>(WD.tk 10 rfl (aV (i:=i) kF cV aQ rfl rfl ⟨aa,aa⟩) ?_))
 refine WD.any [7,11] (by kernel_rfl) rfl ⟨WD.ap ?_,WD.ap ?_,trivial⟩
 ·refine W.ok (dQ (vs:=kB) cV he9 ah rfl rfl rfl (by simp)) (W.nn (WD.a1 11 rfl (W.ok (dQ (vs:=kB) cV aqK ah rfl rfl rfl (by simp)) (W.nn (aQ.a2 (i:=i) aa (fun aGH aPZ=>(WD.tk 12 rfl (aV (i:=i) kF cV aQ rfl rfl ⟨aa,aa⟩) (WD.a1 13 rfl (W.jD (i:=i) (o:=0) (vs:=kB) (a':=l[j]) cV rfl rfl rfl rfl rfl (aQ) ah aa (by decide) (fun cs h=>by rw [h.1];exact⟨rfl,aAo⟩) (fun CN Fm=>(W.nn (Fm.a2 (i:=j) aa (fun aGT aP0=>(WD.tk 14 rfl (aV (i:=j) kF cV Fm rfl rfl ⟨aa,aa⟩) (WD.a1 15 rfl (W.jD (i:=j) (o:=0) (vs:=kB) (a':=l[i]) cV rfl rfl rfl rfl rfl (Fm) ah aa (by decide) (fun cs h=>by rw [h.1];exact⟨rfl,aAn⟩) (fun CK LZ=> ?_)))))))))))))))))
  refine W.nn (WD.done (by kernel_rfl) ?_)
  refine⟨.inl rfl,[],trivial,_,bB,?_⟩
  have h:=LZ
  refine⟨rfl,?_⟩
  rw [iX,eJ hi,eJ hj,cx];exact h
 refine W.ok (dQ (vs:=kB) cV aqK ah rfl rfl rfl (by simp)) (W.nn (WD.a1 7 rfl (W.ok (dQ (vs:=kB) cV he9 ah rfl rfl rfl (by simp)) (W.nn (aQ.a2 (i:=i) aa (fun aP1 aP2=>(WD.tk 12 rfl (aV (i:=i) kF cV aQ rfl rfl ⟨aa,aa⟩) (WD.a1 13 rfl (W.jD (i:=i) (o:=0) (vs:=kB) (a':=l[j]) cV rfl rfl rfl rfl rfl (aQ) ah aa (by decide) (fun cs h=>by rw [h.1];exact⟨rfl,aAo⟩) (fun aaJ PD=>(W.nn (PD.a2 (i:=j) aa (fun aGP aP3=>(WD.tk 14 rfl (aV (i:=j) kF cV PD rfl rfl ⟨aa,aa⟩) (WD.a1 15 rfl (W.jD (i:=j) (o:=0) (vs:=kB) (a':=l[i]) cV rfl rfl rfl rfl rfl (PD) ah aa (by decide) (fun cs h=>by rw [h.1];exact⟨rfl,aAn⟩) (fun BS Fo=> ?_)))))))))))))))))
 refine W.nn (WD.done (by kernel_rfl) ?_)
 refine⟨.inl rfl,[],trivial,_,bB,?_⟩
 have h:=Fo
 refine⟨rfl,?_⟩
 rw [iX,eJ hi,eJ hj,cx];exact h

variable {Tb:TypeId} {nQ:Nat} {c0:Value}
theorem amm{c1:Value}(aQ:aE bE 3 G dH l eu)(a:Int)(aAp:i64 a)(hb:l.length<1000000):
    Fc Tryz.prog 224 [.pointer (some ⟨nQ,2,none⟩),.iface 3 (iV a)] G ((nQ,ar Tb [c0,c1,dH])::(eu)) (fun v G' M'=>v=.tuple #[]∧∃v' kQ,M'=(nQ,ar Tb [c0,c1,v'])::kQ∧aE bE 3 G' v' (l++[a]) kQ):=by
 obtain⟨dz,dA,rfl⟩:=aQ.form
 refine Fc.go [] Tryz.func224 Tryz.ntmps224 rfl (fun w0=>(WC.perm (M':=((nQ,ar Tb [c0,c1,lV dz l.length dA])::(eu++[]))) (by simp) (WC.dw (iD.cons _) (d9 [0,1,2,4] ?_))))
 refine WD.tk 5 rfl (Ic pi3 rfl) ?_
 refine WD.any [3,6] (by kernel_rfl) rfl ⟨WD.ap ?_,WD.ap ?_,trivial⟩
 ·refine g9 1 ?_
  refine W.nn (WD.a1 6 rfl (W.lit (e:=bE) (l:=[a]) (css:=[[iV _]]) kF cV ng rfl rfl rfl rfl rfl rfl ⟨⟨rfl,aAp⟩,trivial⟩ (fun ajm G41 BR BU=>(W.nn (WD.a1 7 rfl (W.app (e:=bE) kF cV ng rfl HI rfl rfl ((aQ.mono BR)) (BU) (ag ah) (by show(_+1)*8≤_;omega) (fun v42 Ie Ig=>(W.perm (ag ah).symm ?_))))))))
  have PE:=Ig.form
  refine match PE with|⟨CO,CP,zC⟩=> ?_
  subst zC
  refine W.nn (d9 [8,9] ?_)
  refine WD.done (by kernel_rfl) ?_
  refine⟨.inl rfl,[],trivial,_,bB.k9,?_⟩
  exact⟨rfl,_,_,ax _ (cx _),Ig⟩
 refine W.lit (e:=bE) (l:=[a]) (css:=[[iV _]]) kF cV ng rfl rfl rfl rfl rfl rfl ⟨⟨rfl,aAp⟩,trivial⟩ (fun aP4 G49 aqL aqM=>(W.nn (WD.a1 3 rfl (g9 1 ?_))))
 refine W.nn (WD.a1 7 rfl (W.app (e:=bE) kF cV ng rfl HI rfl rfl ((aQ.mono aqL)) (aqM) (ag ah) (by show(_+1)*8≤_;omega) (fun v50 aAq ajn=>(W.perm (ag ah).symm ?_))))
 have q56:=ajn.form
 refine match q56 with|⟨aP5,aP6,PF⟩=> ?_
 subst PF
 refine W.nn (d9 [8,9] ?_)
 refine WD.done (by kernel_rfl) ?_
 refine⟨.inl rfl,[],trivial,_,bB.k9,?_⟩
 exact⟨rfl,_,_,ax _ (cx _),ajn⟩

theorem aqN{c1:Value}(aQ:aE bE 3 G dH l eu)(h0:0<l.length):
    Fc Tryz.prog 223 [.pointer (some ⟨nQ,2,none⟩)] G ((nQ,ar Tb [c0,c1,dH])::(eu)) (fun v G' M'=>v=.iface 3 (iV (nth l (l.length-1)))∧i64 (nth l (l.length-1))∧∃v' kQ,M'=(nQ,ar Tb [c0,c1,v'])::kQ∧aE bE 3 G' v' (l.take (l.length-1)) kQ):=by
 obtain⟨dz,dA,rfl⟩:=aQ.form
 have hl:=aQ.bq
 have CQ:nth l (l.length-1)=l[l.length-1]:=eJ aa
 have aGU:i64 l[l.length-1]:=by obtain⟨_,_,_,h⟩:=aQ.at (i:=l.length-1) aa;exact h
 refine Fc.go [.tmp 2] Tryz.func223 Tryz.ntmps223 rfl (fun w0=>(WC.perm (M':=((nQ,ar Tb [c0,c1,lV dz l.length dA])::(eu++[]))) (by simp) (g9 11 ?_)))
 refine W.ok (Ok.int (n:=((l.length-1:Nat):Int)) (lm rfl rfl aa) aa) (g9 9 ?_)
 refine aQ.a2 (i:=l.length-1) aa (fun ajo aP7=>(W.ok (aV (i:=l.length-1) kF cV aQ rfl rfl ⟨aa,aa⟩) (W.ok (dQ (vs:=kB) cV ajo (ag ah) rfl rfl rfl (by simp)) (g9 10 ?_))))
 refine W.ajp (l.length-1) kF cV aQ rfl ⟨_,_,rfl,aa⟩ aa (fun v61 ajq=> ?_)
 have q66:=ajq.form
 refine match q66 with|⟨aP8,aP9,Ih⟩=> ?_
 subst Ih
 refine g9 7 ?_
 refine W.ok (mM pi3 rfl) (g9 4 ?_)
 refine⟨.inr rfl,[_],⟨rfl,trivial⟩,_,bB.k9,?_⟩
 exact⟨by rw [CQ];rfl,by rw [CQ];exact aGU,_,_,ax _ (cx _),ajq⟩

end Go.Proofs.YthhpfadbojfdnaaGreat
