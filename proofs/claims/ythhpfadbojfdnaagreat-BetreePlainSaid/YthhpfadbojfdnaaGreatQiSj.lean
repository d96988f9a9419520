/- The walk of a removal. -/
import Derived.Test.YthhpfadbojfdnaaGreatQiRo
set_option maxRecDepth 100000
set_option maxHeartbeats 1600000
set_option linter.unusedVariables false
set_option linter.unusedSimpArgs false
set_option linter.unnecessarySimpa false
namespace Go.Proofs.YthhpfadbojfdnaaGreat
open Go Go.Fw Go.RowKit
attribute [local irreducible] Ok W WC
variable {G:GH} {Kn:List Int} {MA:MH} {MB:MH} {Ma:MH} {mi:MH} {Pn:List af} {Rn:List aG} {dM:Nat} {aP:Nat} {ba:Nat} {fan:Int} {lv:Int} {sa:Span} {sb:Span} {tE:Value} {yH:Value} {py:Value}
theorem acw{st:List (Option Nat)×List Bool}(cJ:bY fu 60 4 3 106 ba G st Ma){root leaf:Int}(mj:aE cy 9 G yH Pn mi)(kT:az bE G tE Kn)(we:az aU G py Rn)(i:Nat)
    {a b:BT 0}(h_A:bD 67 9 st.1 (bf 0 a) G MA)(h_B:bD 67 9 st.1 (bf 0 b) G MB)(hi:i+1<Kn.length)(TQ:Pn.length+1=Kn.length)(TR:Kn[i]'aa=a.slot)(Jc:Kn[i+1]'hi=b.slot)(Nw:kE st.2 (bf 0 a))(Nx:kE st.2 (bf 0 b))
    (ig:∀n∈bf 0 a++TO 0 b,n.slot.toNat≠b.slot.toNat){la ha lb hb:Int}(hA:BT.ok fan leaf 0 la ha sa a)(hB:BT.ok fan leaf 0 lb hb sb b)(hhb:ha≤64∧hb≤64)(hf4:4≤fan∧2≤leaf):
    Fc Tryz.prog 97 [aC aP,aC dM,aK i] G ((aP,Obj.cells (List.toArray [aC ba,iV root,iV fan,iV leaf]) 62 (0,0))::(dM,Obj.cells (List.toArray [iV lv,yH,tE,py]) 67 (0,0))::(Ma++(mi++(MA++MB)))) (fun v G' M'=>yZ (bY fu 60 4 3 106 ba) 67 9 (aP,Obj.cells (List.toArray [aC ba,iV root,iV fan,iV leaf]) 62 (0,0)) dM lv py st Pn Kn i (ii fan leaf 0 a (Pn[i]'aa) b) b.slot v G' M'):=by
  have asG:da st.2 a.slot=true:=by have h9:=Nw _ cD;rw [bg]at h9;exact h9
  have Rv:da st.2 b.slot=true:=by have h9:=Nx _ cD;rw [bg]at h9;exact h9
  have Xh:st.2.length≤4096:=by obtain⟨_,_,_,h9,_⟩:=cJ;exact h9
  obtain⟨hs0,FZ,si⟩:=j9 Rv
  have wD:i64 (Kn[i+1]'hi):=by rw [Jc];exact⟨aa,aa⟩
  have hF:xm st (Kn[i+1]'hi) (none:Option Nat)=(0,(st.1.set b.slot.toNat none,st.2.set b.slot.toNat false)):=by rw [Jc];exact CZ Rv
  have hag:∀j:Nat,j≠b.slot.toNat→(st.1.set b.slot.toNat none)[j]?=st.1[j]?:=fun j hj=>Hz hj.symm
  obtain⟨j6,vpa,vka,vra,Mpa,rfl,hba,hpa,hka,KR⟩:=h_A.Ye
  obtain⟨nQ,vpb,vkb,vrb,Mpb,rfl,hbb,hpb,hkb,hrb⟩:=h_B.Ye
  have Fb:=hA.ta.2
  have Im:=hB.ta.2
  have hc3:(di a).length+(di b).length≤10000:=by have e1:((di a).length:Int)≤ha:=Fb;have e2:((di b).length:Int)≤hb:=Im;omega
  have hna:a.slot.toNat≠b.slot.toNat:=by have h9:=ig (fY 0 a) (fK _ cD);rwa [bg]at h9
  refine(Fc.perm (pN (by simp only [gZ,fD,fE];ac_rfl)) (ag0 cJ mj kT we i hpa hka KR hpb hkb hrb hi TQ (by rw [TR];exact hba) (by rw [Jc];exact hbb) (by rw [TR];exact asG) (by rw [Jc];exact Rv) wD hc3)).mono ?_
  rintro v G' M' hl ⟨rfl,⟨p,vp,vk,vr,yY,vO,rfl,h1,h2,h3,h4⟩|⟨p,vp,vr,vs,vO,rfl,h2,h3,h4⟩⟩
  · have hE:ii fan leaf 0 a (Pn[i]'aa) b=(zY a.slot (di a++di b),none):=if_pos p
    rw [hF]at h1
    refine yZ.of hE ⟨_,yY,vp,vk,vO,_,?_,h1,h2,h3,(bD.Dl (hba.um (hag _ hna)) (hpa.mono hl) (hka.mono hl) h4).bn,hag,rfl⟩
    exact pN (by simp only [gZ,fD,fE];ac_rfl)
  have hE:ii fan leaf 0 a (Pn[i]'aa) b=(zY a.slot (z5 (di a++di b)),some (GC (di a++di b),zY b.slot (z6 (di a++di b)))):=if_neg p
  have XM:=sg (l:=di a++di b) (by rw [bP]at p⊢;have:=hhb;omega)
  have g3:az aU G' vr (z5 (di a++di b)):=az.cast h3 (by rw [XM];rfl)
  have g4:az aU G' vs (z6 (di a++di b)):=az.cast h4 (by rw [XM];rfl)
  refine yZ.of hE ⟨st.1,Ma,vp,tE,vO,_,?_,bY.mono hl cJ,h2,kT.mono hl,(bD.Dl hba (hpa.mono hl) (hka.mono hl) g3).two (bD.Dl hbb (hpb.mono hl) (hkb.mono hl) g4),fun j _=>rfl,rfl⟩
  exact pN (by simp only [gZ,fD,fE];ac_rfl)
variable {kk:Nat}
theorem acx{st:List (Option Nat)×List Bool}(cJ:bY fu 60 4 3 106 ba G st Ma){root leaf:Int}(mj:aE cy 9 G yH Pn mi)(kT:az bE G tE Kn)(we:az aU G py Rn)(i:Nat)
    {a b:BT (kk+1)}(h_A:bD 67 9 st.1 (bf (kk+1) a) G MA)(h_B:bD 67 9 st.1 (bf (kk+1) b) G MB)(hi:i+1<Kn.length)(TQ:Pn.length+1=Kn.length)(TR:Kn[i]'aa=a.slot)(Jc:Kn[i+1]'hi=b.slot)(Nw:kE st.2 (bf (kk+1) a))(Nx:kE st.2 (bf (kk+1) b))
    (ig:∀n∈bf (kk+1) a++TO (kk+1) b,n.slot.toNat≠b.slot.toNat){la ha lb hb:Int}(hA:BT.ok fan leaf (kk+1) la ha sa a)(hB:BT.ok fan leaf (kk+1) lb hb sb b)(hhb:ha≤64∧hb≤64)(hf4:4≤fan∧2≤leaf):
    Fc Tryz.prog 97 [aC aP,aC dM,aK i] G ((aP,Obj.cells (List.toArray [aC ba,iV root,iV fan,iV leaf]) 62 (0,0))::(dM,Obj.cells (List.toArray [iV lv,yH,tE,py]) 67 (0,0))::(Ma++(mi++(MA++MB)))) (fun v G' M'=>yZ (bY fu 60 4 3 106 ba) 67 9 (aP,Obj.cells (List.toArray [aC ba,iV root,iV fan,iV leaf]) 62 (0,0)) dM lv py st Pn Kn i (ii fan leaf (kk+1) a (Pn[i]'aa) b) b.slot v G' M'):=by
  have asG:da st.2 a.slot=true:=by have h9:=Nw _ cD;rw [bg]at h9;exact h9
  have Rv:da st.2 b.slot=true:=by have h9:=Nx _ cD;rw [bg]at h9;exact h9
  have Xh:st.2.length≤4096:=by obtain⟨_,_,_,h9,_⟩:=cJ;exact h9
  obtain⟨hs0,FZ,si⟩:=j9 Rv
  have wD:i64 (Kn[i+1]'hi):=by rw [Jc];exact⟨aa,aa⟩
  have hF:xm st (Kn[i+1]'hi) (none:Option Nat)=(0,(st.1.set b.slot.toNat none,st.2.set b.slot.toNat false)):=by rw [Jc];exact CZ Rv
  have hag:∀j:Nat,j≠b.slot.toNat→(st.1.set b.slot.toNat none)[j]?=st.1[j]?:=fun j hj=>Hz hj.symm
  obtain⟨j6,vpa,vka,vra,Mpa,Ba,rfl,hba,hpa,hka,KR,hBa⟩:=h_A.Rg
  obtain⟨nQ,vpb,vkb,vrb,Mpb,Bb,rfl,hbb,hpb,hkb,hrb,hBb⟩:=h_B.Rg
  have Fb:((ay a).length:Int)≤ha:=hA.ta.2
  have Im:((ay b).length:Int)≤hb:=hB.ta.2
  have fC:=hA.2.len
  have zR:=hB.2.len
  have m1:((ay a).map BT.slot).length=(ay a).length:=dt ..
  have m2:((ay b).map BT.slot).length=(ay b).length:=dt ..
  have hna:a.slot.toNat≠b.slot.toNat:=by have h9:=ig (fY (kk+1) a) (fK _ cD);rwa [bg]at h9
  have hTa:∀n∈(ay a).flatMap (bf kk),n.slot.toNat≠b.slot.toNat:=fun n hn=>ig n (fK _ (dk _ hn))
  have hTb:∀n∈(ay b).flatMap (bf kk),n.slot.toNat≠b.slot.toNat:=fun n hn=>ig n (ib _ hn)
  have hKK:(ay a).map BT.slot++(ay b).map BT.slot=(ay a++ay b).map BT.slot:=bU.symm
  have hlK:((ay a).map BT.slot++(ay b).map BT.slot).length=(ay a++ay b).length:=by rw [hKK,dt]
  have j8:(ay a++ay b).flatMap (bf kk)=(ay a).flatMap (bf kk)++(ay b).flatMap (bf kk):=dT
  refine(Fc.ab8 (Mr:=Ba++Bb) (ag1 (la:=((kk+1:Nat):Int)) (lb:=((kk+1:Nat):Int)) (lv:=lv) cJ mj kT we i hpa hka KR hpb hkb hrb hi TQ (by rw [TR];exact hba) (by rw [Jc];exact hbb) (by rw [TR];exact asG) (by rw [Jc];exact Rv) wD aa ⟨aa,aa,aa⟩ hf4.1) (pN (by simp only [gZ,fD,fE];ac_rfl))).mono ?_
  rintro v G' M' hl ⟨M2,rfl,rfl,⟨p,vp,vk,vq,vl,yY,vO,Mq',rfl,h1,h2,h3,h4,h5⟩|⟨p,vp,va,ka,vb,kb,vO,Mq',Mr',rfl,h1,h2,h3,h4,h5⟩⟩
  · have hE:ii fan leaf (kk+1) a (Pn[i]'aa) b=(mg a.slot (au a++(Pn[i]'aa)::au b) (ay a++ay b),none):=if_pos (by rw [←hlK];exact p)
    rw [hF]at h1
    refine yZ.of hE ⟨_,yY,vp,vk,vO,_,?_,h1,h2,h3,(bD.kv (hba.um (hag _ hna)) h4 (az.cast h5 hKK) (KR.mono hl) ((((hBa.mono hl).ne hTa).two ((hBb.mono hl).ne hTb)).to j8.symm)).bn,hag,rfl⟩
    exact pN (by simp only [gZ,fD,fE];ac_rfl)
  have hE:ii fan leaf (kk+1) a (Pn[i]'aa) b=(mg a.slot ((au a++(Pn[i]'aa)::au b).take (((ay a++ay b).length+1) / 2-1)) ((ay a++ay b).take (((ay a++ay b).length+1) / 2)),some ((au a++(Pn[i]'aa)::au b).getD (((ay a++ay b).length+1) / 2-1) af.nil,mg b.slot ((au a++(Pn[i]'aa)::au b).drop (((ay a++ay b).length+1) / 2)) ((ay a++ay b).drop (((ay a++ay b).length+1) / 2)))):=if_neg (by rw [←hlK];exact p)
  rw [hlK]at h1 h2 h3 h4 h5
  have hL9:(ay a++ay b).flatMap (bf kk)=((ay a++ay b).take (((ay a++ay b).length+1) / 2)).flatMap (bf kk)++((ay a++ay b).drop (((ay a++ay b).length+1) / 2)).flatMap (bf kk):=by rw [←dT,fo]
  obtain⟨X,Y,hXY,hx,hy⟩:=bD.app.1 ((((hBa.mono hl).two (hBb.mono hl)).to j8.symm).to hL9)
  rw [hXY]
  refine yZ.of hE ⟨st.1,Ma,vp,tE,vO,_,?_,bY.mono hl cJ,h1,kT.mono hl,(bD.kv hba h2 (az.cast h3 (by rw [hKK,El])) (KR.mono hl) hx).two (bD.kv hbb h4 (az.cast h5 (by rw [hKK,HB])) (hrb.mono hl) hy),fun j _=>rfl,rfl⟩
  exact pN (by simp only [gZ,fD,fE];ac_rfl)
theorem ag2:∀ {kk:Nat} {G:GH} {aP ba:Nat} {st:List (Option Nat)×List Bool} {Ma:MH} (cJ:bY fu 60 4 3 106 ba G st Ma) {root fan leaf:Int} {dM:Nat} {lv:Int} {yH:Value} {Pn:List af} {mi:MH} (mj:aE cy 9 G yH Pn mi) {tE:Value} {Kn:List Int} (kT:az bE G tE Kn) {py:Value} {Rn:List aG} (we:az aU G py Rn) (i:Nat)
    {a b:BT kk} {MA MB:MH} (h_A:bD 67 9 st.1 (bf kk a) G MA) (h_B:bD 67 9 st.1 (bf kk b) G MB) (hi:i+1<Kn.length) (TQ:Pn.length+1=Kn.length) (TR:Kn[i]'aa=a.slot) (Jc:Kn[i+1]'hi=b.slot) (Nw:kE st.2 (bf kk a)) (Nx:kE st.2 (bf kk b))
    (ig:∀n∈bf kk a++TO kk b,n.slot.toNat≠b.slot.toNat) {la ha lb hb:Int} {sa sb:Span} (hA:BT.ok fan leaf kk la ha sa a) (hB:BT.ok fan leaf kk lb hb sb b) (hhb:ha≤64∧hb≤64) (hf4:4≤fan∧2≤leaf),
    Fc Tryz.prog 97 [aC aP,aC dM,aK i] G ((aP,Obj.cells (List.toArray [aC ba,iV root,iV fan,iV leaf]) 62 (0,0))::(dM,Obj.cells (List.toArray [iV lv,yH,tE,py]) 67 (0,0))::(Ma++(mi++(MA++MB)))) (fun v G' M'=>yZ (bY fu 60 4 3 106 ba) 67 9 (aP,Obj.cells (List.toArray [aC ba,iV root,iV fan,iV leaf]) 62 (0,0)) dM lv py st Pn Kn i (ii fan leaf kk a (Pn[i]'aa) b) b.slot v G' M')
  |0,_,_,_,_,_,cJ,_,_,_,_,_,_,_,_,mj,_,_,kT,_,_,we,i,_,_,_,_,h_A,h_B,hi,TQ,TR,Jc,Nw,Nx,ig,_,_,_,_,_,_,hA,hB,hhb,hf4=>acw cJ mj kT we i h_A h_B hi TQ TR Jc Nw Nx ig hA hB hhb hf4
  |_+1,_,_,_,_,_,cJ,_,_,_,_,_,_,_,_,mj,_,_,kT,_,_,we,i,_,_,_,_,h_A,h_B,hi,TQ,TR,Jc,Nw,Nx,ig,_,_,_,_,_,_,hA,hB,hhb,hf4=>acx cJ mj kT we i h_A h_B hi TQ TR Jc Nw Nx ig hA hB hhb hf4
def aAL (kk:Nat):Prop:=∀ {G:GH} {aP ba:Nat} {st:List (Option Nat)×List Bool} {Ma:MH} (cJ:bY fu 60 4 3 106 ba G st Ma) {root fan leaf:Int} (i:Int) (k:af) {y:BT kk} {Mn:MH} (lA:bD 67 9 st.1 (bf kk y) G Mn) (lo:Int) (sp:Span) (hs:sp.norm=sp) (hk:sp.has k=true) (dI:BT.ok fan leaf kk lo (oV fan leaf kk) sp y) (eG:kk=0∨2≤lo) (eV:kE st.2 (bf kk y)) (iR:((bf kk y).map c6.slot).Nodup) (jK:i=y.slot) (jn:4≤fan∧fan≤64∧2≤leaf∧leaf≤64) (ee:k.b.size≤16),
    Fc Tryz.prog 64 [aC aP,iV i,sV k.b] G ((aP,Obj.cells (List.toArray [aC ba,iV root,iV fan,iV leaf]) 62 (0,0))::(Ma++Mn)) (fun v G' M'=>MK (bY fu 60 4 3 106 ba) 67 9 (aP,Obj.cells (List.toArray [aC ba,iV root,iV fan,iV leaf]) 62 (0,0)) fan leaf st y (jU fan leaf k kk y st.2) v G' M')
variable {Mn:MH}
theorem Yx{st:List (Option Nat)×List Bool}(cJ:bY fu 60 4 3 106 ba G st Ma){root:Int}{leaf:Int}(i:Int)(k:af){y:BT 0}(lA:bD 67 9 st.1 (bf 0 y) G Mn)(lo:Int)(sp:Span)(hs:sp.norm=sp)(hk:sp.has k=true)(dI:BT.ok fan leaf 0 lo (oV fan leaf 0) sp y)(eG:0=0∨2≤lo)(eV:kE st.2 (bf 0 y))(iR:((bf 0 y).map c6.slot).Nodup)(jK:i=y.slot)(jn:4≤fan∧fan≤64∧2≤leaf∧leaf≤64)(ee:k.b.size≤16):
    Fc Tryz.prog 64 [aC aP,iV i,sV k.b] G ((aP,ar 62 [aC ba,iV root,iV fan,iV leaf])::(Ma++(Mn))) (fun v G' M'=>MK (bY fu 60 4 3 106 ba) 67 9 (aP,Obj.cells (List.toArray [aC ba,iV root,iV fan,iV leaf]) 62 (0,0)) fan leaf st y (jU fan leaf k 0 y st.2) v G' M'):=by
 have asi:(di y).length≤64:=by have h9:((di y).length:Int)≤leaf:=dI.1.2;omega
 refine Fc.go [.tmp 6] Tryz.func64 Tryz.ntmps64 rfl (fun w0=>(WC.perm (M':=((aP,ar 62 [aC ba,iV root,iV fan,iV leaf])::(Ma++(Mn++[])))) (by simp) (WC.seq ?_)))
 refine match (bD.Ye lA)with|⟨dM,Dp,Dq,Dr,jV,uo,z2,fk,eX,fH⟩=> ?_
 subst uo
 refine WC.perm (M':=((dM,ar 67 [iV 0,Dp,Dq,Dr])::((aP,ar 62 [aC ba,iV root,iV fan,iV leaf])::(Ma++(jV++[]))))) (nV (pmB ah)).symm ?_
 refine match fk.form with|⟨lN,lO,dO⟩=> ?_
 subst dO
 refine match eX.form with|⟨lP,lQ,dO⟩=> ?_
 subst dO
 refine match fH.form with|⟨_,_,dO⟩=> ?_
 subst dO
 have hbi:jm st.1 i dM:=by rw [jK];exact z2
 have vd:da st.2 y.slot=true:=by have h9:=eV _ cD;rw [bg]at h9;exact h9
 have hui:da st.2 i=true:=by rw [jK];exact vd
 refine g9 8 ?_
 refine W.jy (fun G1 fC dW=>iz (bY.fV cJ fC (eU (((aI _ _).cons _).cons _) dW) (iI (i:=1) dW rfl)) _ dM hbi hui) qX rfl (g9 22 ?_)
 refine W.ok (aY (L:=[iV _,sV _]) HK BM rfl rfl rfl) (W.cS (Kq fH k 3 af.nil dI.2.1 aa (by decide)) rfl (fun Yy Yz G1 pX Rw=>(g9 9 ?_)))
 refine W.jy (fun G1 fC dW=>Rx (bY.fV (bY.mono pX cJ) fC (eU (((aI _ _).cons _).cons _) dW) (iI (i:=1) dW rfl)) (n:=(⟨0,0,[],[],(bW (di y) k pz)⟩:c6)) ⟨_,_,_,uq (iI (i:=0) dW rfl),(fk.mono pX).fV fC (eU ((((aI _ _).trans (cH _ _)).cons _).cons _) dW),(az.mono fC (eX.mono pX)),(az.mono fC Rw)⟩ aa) ap5 rfl (g9 3 ?_)
 refine WC.perm (M':=((aP,ar 62 [aC ba,iV root,iV fan,iV leaf])::((dM,ar 67 [iV 0,lV lN ([]).length lO,lV lP ([]).length lQ,lV Yy ((bW (di y) k pz)).length Yz])::(Ma++(jV++[]))))) ((((ah.cons _).trans ah).cons _).trans ((List.Perm.swap _ _ _).trans (ah.cons _))) (g9 2 ?_)
 refine⟨.inr rfl,[_],⟨rfl,trivial⟩,_,((bi (aI _ _) _).k9).k9,?_⟩
 exact⟨_,_,_,aAC,(bY.mono pX cJ),bD.Dl z2 (fk.mono pX) (eX.mono pX) Rw,fun j _=>rfl,rfl⟩

theorem YC{st:List (Option Nat)×List Bool}(cJ:bY fu 60 4 3 106 ba G st Ma){root:Int}{leaf:Int}(i:Int)(k:af){y:BT (kk+1)}(lA:bD 67 9 st.1 (bf (kk+1) y) G Mn)(lo:Int)(sp:Span)(hs:sp.norm=sp)(hk:sp.has k=true)(dI:BT.ok fan leaf (kk+1) lo (oV fan leaf (kk+1)) sp y)(eG:(kk+1)=0∨2≤lo)(eV:kE st.2 (bf (kk+1) y))(iR:((bf (kk+1) y).map c6.slot).Nodup)(jK:i=y.slot)(jn:4≤fan∧fan≤64∧2≤leaf∧leaf≤64)(ee:k.b.size≤16)(ih:aAL kk):
    Fc Tryz.prog 64 [aC aP,iV i,sV k.b] G ((aP,ar 62 [aC ba,iV root,iV fan,iV leaf])::(Ma++(Mn))) (fun v G' M'=>MK (bY fu 60 4 3 106 ba) 67 9 (aP,Obj.cells (List.toArray [aC ba,iV root,iV fan,iV leaf]) 62 (0,0)) fan leaf st y (jU fan leaf k (kk+1) y st.2) v G' M'):=by
 have kZ:=lz hs dI k
 have ML:=dI.2
 obtain⟨v9,I7,v1,v2,v3,v4⟩:=ML.at hs (i:=ae (au y) k) (fy _ _)
 have Xk:v9.has k=true:=by rw [v2,hk,dB rfl];rfl
 have asl:=ML.len
 have aHm:((ay y).length:Int)≤64:=by have h9:((ay y).length:Int)≤fan:=dI.1.2;omega
 have asm:=(ML.Yh hs).1
 have aAG:((ay y).map BT.slot).length=(ay y).length:=dt ..
 have aAE:st.1.length=st.2.length:=by obtain⟨_,_,h9,_⟩:=cJ;exact h9
 have Fz:st.2.length≤4096:=by obtain⟨_,_,_,h9,_⟩:=cJ;exact h9
 have aAB:2≤lo:=by omega
 have aQn:lo≤((ay y).length:Int):=dI.1.1
 have asH:kk=0∨2≤vQ fan leaf kk:=by
   by_cases e:kk=0
   ·exact .inl e
   right;unfold vQ;rw [if_neg e];omega
 obtain⟨nd1,nd2,nd3,nd4⟩:=agS iR kZ
 have Ln:=Jd (fan:=fan) (leaf:=leaf) (key:=k) jn.1 jn.2.2.1 ee kk st.2 asH v1 Xk v3
 have hrd:=Dm (fan:=fan) (leaf:=leaf) (key:=k) jn.1 jn.2.2.1 ee kk st.2 asH v1 Xk v3 (uG eV (bN kZ)) nd1
 have hIt:=Yj (fan:=fan) (leaf:=leaf) (key:=k) (u:=st.2) kZ
 have hIf:=Yk (fan:=fan) (leaf:=leaf) (key:=k) (u:=st.2) kZ
 generalize m9:jU fan leaf k kk ((ay y)[ae (au y) k]'kZ) st.2=R9 at Ln hrd hIt hIf
 obtain⟨g1,g2,g3⟩:=Ln
 obtain⟨asI,d1,p1⟩:=hrd
 obtain⟨k1,k2,k3,k4,k5⟩:=Vm iR eV kZ d1 p1
 have aC3:((ay y).set (ae (au y) k) R9.1).length=(ay y).length:=cg
 have Je:((ae (au y) k)-1)+1<((ay y).set (ae (au y) k) R9.1).length:=by omega
 have asJ:((ay y).set (ae (au y) k) R9.1).map BT.slot=(ay y).map BT.slot:=asg kZ g3
 obtain⟨ne1,ne2,ne3⟩:=ash Je k1 k2
 have aAM:∀q (hq:q<((ay y).set (ae (au y) k) R9.1).length),∃la sa,BT.ok fan leaf kk la (oV fan leaf kk) sa (((ay y).set (ae (au y) k) R9.1)[q]'hq):=fun q hq=>by
   by_cases e:(ae (au y) k)=q
   ·subst e;rw [WY];exact⟨_,_,g1⟩
   rw [qH e]
   obtain⟨_,_,_,_,h9,_⟩:=ML.at hs (i:=q) aa
   exact⟨_,_,h9⟩
 have aAN:oV fan leaf kk≤64:=by unfold oV;split<;>omega
 have asK:∀q (hq:q<((ay y).set (ae (au y) k) R9.1).length),kE R9.2 (bf kk (((ay y).set (ae (au y) k) R9.1)[q]'hq)):=fun q hq n hn=>k1 n (kl.2 ⟨_,bN hq,hn⟩)
 have hKg:∀q (hq:q<((ay y).map BT.slot).length),((ay y).map BT.slot)[q]'hq=(((ay y).set (ae (au y) k) R9.1)[q]'aa).slot:=fun q hq=>(WQ asJ.symm hq).trans (jX ..)
 have hJs:=agR (fan:=fan) (leaf:=leaf) (a:=((ay y).set (ae (au y) k) R9.1)[((ae (au y) k)-1)]'aa) (b:=((ay y).set (ae (au y) k) R9.1)[((ae (au y) k)-1)+1]'Je) (p:=(au y)[((ae (au y) k)-1)]'aa)
 have hMe:=Vl (fan:=fan) (leaf:=leaf) (s:=y.slot) (P:=au y) (u:=R9.2) Je aa
 generalize hJ9:ii fan leaf kk (((ay y).set (ae (au y) k) R9.1)[((ae (au y) k)-1)]'aa) ((au y)[((ae (au y) k)-1)]'aa) (((ay y).set (ae (au y) k) R9.1)[((ae (au y) k)-1)+1]'Je)=J9 at hJs hMe
 have hmT:=anj (r:=J9) Je hJs.1 hJs.2
 rw [asJ]at hmT
 obtain⟨sl1,sl2,_⟩:=j9 k4
 have hbs:da R9.2 (((ay y).set (ae (au y) k) R9.1)[((ae (au y) k)-1)+1]'Je).slot=true:=by have h9:=asK (((ae (au y) k)-1)+1) Je _ cD;rw [bg]at h9;exact h9
 obtain⟨bs1,bs2,_⟩:=j9 hbs
 have hbm:(((ay y).set (ae (au y) k) R9.1)[((ae (au y) k)-1)+1]'Je).slot∈(((ay y).set (ae (au y) k) R9.1).flatMap (bf kk)).map c6.slot:=by
   have h9:=kn (f:=c6.slot) (kl.2 ⟨_,bN Je,cD⟩:fY kk (((ay y).set (ae (au y) k) R9.1)[((ae (au y) k)-1)+1]'Je)∈((ay y).set (ae (au y) k) R9.1).flatMap (bf kk))
   rw [bg]at h9;exact h9
 have hys:y.slot.toNat≠(((ay y).set (ae (au y) k) R9.1)[((ae (au y) k)-1)+1]'Je).slot.toNat:=fun e=>k5 (by rw [show y.slot=(((ay y).set (ae (au y) k) R9.1)[((ae (au y) k)-1)+1]'Je).slot by omega];exact hbm)
 refine Fc.go [.tmp 6] Tryz.func64 Tryz.ntmps64 rfl (fun w0=>(WC.perm (M':=((aP,ar 62 [aC ba,iV root,iV fan,iV leaf])::(Ma++(Mn++[])))) (by simp) (WC.seq ?_)))
 refine match (bD.Rg lA)with|⟨dM,Dp,Dq,Dr,jV,B_n,uo,z2,fk,eX,fH,acj⟩=> ?_
 subst uo
 refine WC.perm (M':=((dM,ar 67 [aK (kk+1),Dp,Dq,Dr])::((aP,ar 62 [aC ba,iV root,iV fan,iV leaf])::(Ma++(jV++(B_n++[])))))) (nV (pmB ((gB ah).cons _))).symm ?_
 refine match fk.form with|⟨lN,lO,dO⟩=> ?_
 subst dO
 refine match eX.form with|⟨lP,lQ,dO⟩=> ?_
 subst dO
 refine match fH.form with|⟨iJ,iK,dO⟩=> ?_
 subst dO
 have hbi:jm st.1 i dM:=by rw [jK];exact z2
 have vd:da st.2 y.slot=true:=by have h9:=eV _ cD;rw [bg]at h9;exact h9
 have hui:da st.2 i=true:=by rw [jK];exact vd
 refine match bD.Iw kZ acj with|⟨rA,D_n,rB,asn,FA,aso,FB⟩=> ?_
 subst asn
 refine WC.perm (M':=((dM,ar 67 [aK (kk+1),lV lN ((au y)).length lO,lV lP (((ay y).map BT.slot)).length lQ,lV iJ ([]).length iK])::((aP,ar 62 [aC ba,iV root,iV fan,iV leaf])::(Ma++(jV++(rA++(D_n++(rB++[])))))))) (nJ (by first|(simp only [ci];done)|(simp only [ci];rfl))) (WC.region (W.as (W.ns (W.mv (W.mv (W.jy (fun G1 fC dW=>iz (bY.fV cJ fC (eU (((aI _ _).cons _).cons _) dW) (iI (i:=1) dW rfl)) _ dM hbi hui) qX rfl (W.an (WC.seq (WC.sr (W.mv (W.ok (zG rfl) (W.fb W5 rfl (W.ok (AE 0 kB cV rfl) ?_)))))))))))))
 refine W.ok (Xq rfl rfl) (W.nt ?_)
 refine WC.cd (fun iQ mz=> ?_) (fun iQ mz=> ?_)
 ·exact absurd mz aa
 refine WC.sk (WC.seq (WC.sr (W.mv (W.ok (zG rfl) (W.fb ai3 rfl (W.ok (AE 0 AD aal rfl) (W.mv (W.jy (fun G1 fC dW=>mL (fk.fV fC (eU ((((aI _ _).trans (cH _ _)).cons _).cons _) dW)) k asm) az6 rfl (W.as (W.ns (W.mv (W.mv (W.ok (zG rfl) ?_)))))))))))))
 refine W.fb ai2 rfl (W.ok (AE 0 AD HJ rfl) (W.mv (eX.a2 (i:=(ae (au y) k)) aa (fun he8 jK=>(W.ok (bd (i:=(ae (au y) k)) dG cV eX rfl rfl ⟨aa,aa⟩) (W.ok (rb (vs:=kB) cV he8 rfl rfl rfl (by simp)) (W.mv (W.call (Mp:=((aP,ar 62 [aC ba,iV root,iV fan,iV leaf])::(Ma++D_n))) (Mr:=((dM,ar 67 [aK (kk+1),lV lN ((au y)).length lO,lV lP (((ay y).map BT.slot)).length lQ,lV iJ ([]).length iK])::(jV++(rA++(rB++[]))))) (ih cJ _ k aso _ v9 v1 Xk v3 asH (uG eV (bN kZ)) nd1 (jX ..) jn ee) rfl (((ag ((gB (bJ (bJ ah))).trans ah)).cons _).trans ((List.Perm.swap _ _ _).trans (ah.cons _))) ?_))))))))
 intro v16 Xa Fk lT yg
 rw [m9]at yg
 refine match yg with|⟨ag3,tc,EL,ayF,YD,ajZ,xP,acy⟩=> ?_
 subst acy
 refine W.perm (M':=((aP,ar 62 [aC ba,iV root,iV fan,iV leaf])::(tc++EL))++((dM,ar 67 [aK (kk+1),lV lN ((au y)).length lO,lV lP (((ay y).map BT.slot)).length lQ,lV iJ ([]).length iK])::(jV++(rA++(rB++[]))))) (pD _ ayF.symm) ?_
 have Dv:jm ag3 y.slot dM:=z2.um (xP _ fun s hs=>fun e=>nd4 (by have h9:=j9 (mh.1 (uG eV (bN kZ)) s hs);rw [show y.slot=s by omega];exact hs))
 refine W.perm (M':=((dM,ar 67 [aK (kk+1),lV lN ((au y)).length lO,lV lP (((ay y).map BT.slot)).length lQ,lV iJ ([]).length iK])::((aP,ar 62 [aC ba,iV root,iV fan,iV leaf])::(tc++(EL++(jV++(rA++(rB++[])))))))) (((ag ((gB ah).trans ah)).cons _).trans ((List.Perm.swap _ _ _).trans (ah.cons _))).symm (W.nt ?_)
 refine WC.cond rfl (fun h45=> ?_) (fun h45=> ?_)
 ·refine WC.region (W.mv (W.mv (W.mv (W.ok (lm rfl rfl aa) (W.ok (Ok.int (n:=((((ae (au y) k)-1):Nat):Int)) (Cz rfl rfl) aa) ?_)))))
  have hZ9:=(bD.Rh kZ (((bD.mono lT FA)).sib (oS eV _) (uG eV (bN kZ)) nd2 xP) ajZ (((bD.mono lT FB)).sib (oU eV _) (uG eV (bN kZ)) nd3 xP)).to (Li Je)
  have q19:=bD.app.1 hZ9
  refine match q19 with|⟨X9,Z1,eX9,hX9,hZ1⟩=> ?_
  have Kr:=bD.app.1 hZ1
  refine match Kr with|⟨YA,Z2,z9,hYA,hZ2⟩=> ?_
  subst z9
  have Yo:=bD.app.1 hZ2
  refine match Yo with|⟨YB,W9,Aa,hYB,hW9⟩=> ?_
  subst Aa
  refine W.perm (M':=((dM,ar 67 [aK (kk+1),lV lN ((au y)).length lO,lV lP (((ay y).map BT.slot)).length lQ,lV iJ ([]).length iK])::((aP,ar 62 [aC ba,iV root,iV fan,iV leaf])::(tc++(jV++(X9++(YA++(YB++(W9++[]))))))))) (pN ((show mq ((dM,ar 67 [aK (kk+1),lV lN ((au y)).length lO,lV lP (((ay y).map BT.slot)).length lQ,lV iJ ([]).length iK])::((aP,ar 62 [aC ba,iV root,iV fan,iV leaf])::(tc++(jV++(X9++(YA++(YB++(W9++[]))))))))=mqA (mq ((dM,ar 67 [aK (kk+1),lV lN ((au y)).length lO,lV lP (((ay y).map BT.slot)).length lQ,lV iJ ([]).length iK])::((aP,ar 62 [aC ba,iV root,iV fan,iV leaf])::(tc++(jV++[]))))) (mq (X9++(YA++(YB++W9))))by simp only [gZ,fD,fE];ac_rfl).trans ((ax (mqA (mq ((dM,ar 67 [aK (kk+1),lV lN ((au y)).length lO,lV lP (((ay y).map BT.slot)).length lQ,lV iJ ([]).length iK])::((aP,ar 62 [aC ba,iV root,iV fan,iV leaf])::(tc++(jV++[])))))) (ax mq eX9.symm)).trans (show mqA (mq ((dM,ar 67 [aK (kk+1),lV lN ((au y)).length lO,lV lP (((ay y).map BT.slot)).length lQ,lV iJ ([]).length iK])::((aP,ar 62 [aC ba,iV root,iV fan,iV leaf])::(tc++(jV++[]))))) (mq (rA++(EL++rB)))=mq ((dM,ar 67 [aK (kk+1),lV lN ((au y)).length lO,lV lP (((ay y).map BT.slot)).length lQ,lV iJ ([]).length iK])::((aP,ar 62 [aC ba,iV root,iV fan,iV leaf])::(tc++(EL++(jV++(rA++(rB++[])))))))by simp only [gZ,fD,fE];ac_rfl)))) ?_
  obtain⟨la9,sa9,ok9⟩:=aAM ((ae (au y) k)-1) aa
  obtain⟨lb9,sb9,ok8⟩:=aAM (((ae (au y) k)-1)+1) Je
  refine W.call (Mp:=((aP,ar 62 [aC ba,iV root,iV fan,iV leaf])::((dM,ar 67 [aK (kk+1),lV lN ((au y)).length lO,lV lP (((ay y).map BT.slot)).length lQ,lV iJ ([]).length iK])::(tc++(jV++(YA++YB)))))) (Mr:=(X9++(W9++[]))) (ag2 YD (fk.mono lT) (eX.mono lT) (fH.mono lT) ((ae (au y) k)-1) hYA hYB aa aa (hKg _ _) (hKg _ _) (asK _ _) (asK _ _) ne1 ok9 ok8 ⟨aAN,aAN⟩ ⟨jn.1,jn.2.2.1⟩) rfl ((((((gB ((gB ((gB (bJ ah)).trans (bJ ah))).trans ah)).trans ah).cons _).trans ah).cons _).trans ((List.Perm.swap _ _ _).trans (ah.cons _))) ?_
  intro v27 G24 aqu Vv q25
  rw [hJ9]at q25
  refine match q25 with|⟨aC4,Oh,aNx,aNy,Oi,Oj,ayG,aj0,YE,YF,ayH,Jf,acz⟩=> ?_
  subst acz
  have q32:=YE.form
  refine match q32 with|⟨Ry,Rz,Ab⟩=> ?_
  subst Ab
  have q36:=YF.form
  refine match q36 with|⟨aj1,aj2,zB⟩=> ?_
  subst zB
  refine W.perm (M':=((aP,ar 62 [aC ba,iV root,iV fan,iV leaf])::((dM,ar 67 [aK (kk+1),lV Ry ((mP (au y) ((ae (au y) k)-1) J9.2)).length Rz,lV aj1 ((mK ((ay y).map BT.slot) ((ae (au y) k)-1) J9.2)).length aj2,lV iJ ([]).length iK])::(Oh++(Oi++Oj))))++(X9++(W9++[]))) (pD _ ayG.symm) ?_
  have aC5:=Dv.um (Jf _ hys)
  refine W.perm (M':=((dM,ar 67 [aK (kk+1),lV Ry ((mP (au y) ((ae (au y) k)-1) J9.2)).length Rz,lV aj1 ((mK ((ay y).map BT.slot) ((ae (au y) k)-1) J9.2)).length aj2,lV iJ ([]).length iK])::((aP,ar 62 [aC ba,iV root,iV fan,iV leaf])::(Oh++(Oi++(Oj++(X9++(W9++[])))))))) ((((((gB ((gB ah).trans ah)).trans ah).cons _).trans ah).cons _).trans ((List.Perm.swap _ _ _).trans (ah.cons _))).symm (W.ns (W.mv (W.mv (W.jy (fun G1 fC dW=>Rx (bY.fV aj0 fC (eU (((aI _ _).cons _).cons _) dW) (iI (i:=1) dW rfl)) (n:=(⟨0,((kk+1:Nat):Int),(mP (au y) ((ae (au y) k)-1) J9.2),(mK ((ay y).map BT.slot) ((ae (au y) k)-1) J9.2),[]⟩:c6)) ⟨_,_,_,uq (iI (i:=0) dW rfl),YE.fV fC (eU ((((aI _ _).trans (cH _ _)).cons _).cons _) dW),(az.mono fC YF),(az.mono fC (fH.mono aO))⟩ aa) ap5 rfl (W.an (WC.perm (M':=((aP,ar 62 [aC ba,iV root,iV fan,iV leaf])::((dM,ar 67 [aK (kk+1),lV Ry ((mP (au y) ((ae (au y) k)-1) J9.2)).length Rz,lV aj1 ((mK ((ay y).map BT.slot) ((ae (au y) k)-1) J9.2)).length aj2,lV iJ ([]).length iK])::(Oh++(Oi++(Oj++(X9++(W9++[])))))))) ((((ah.cons _).trans ah).cons _).trans ((List.Perm.swap _ _ _).trans (ah.cons _))) (WC.perm (M':=((aP,ar 62 [aC ba,iV root,iV fan,iV leaf])::((dM,ar 67 [aK (kk+1),lV Ry ((mP (au y) ((ae (au y) k)-1) J9.2)).length Rz,lV aj1 ((mK ((ay y).map BT.slot) ((ae (au y) k)-1) J9.2)).length aj2,lV iJ ([]).length iK])::(Oh++(Oi++(X9++(Oj++(W9++[])))))))) ((((bO _ ((bO _ ((bO _ ((bO _ ((bO _ ah).trans ah)).trans ah)).trans (bJ ah))).trans ah)).trans ah).cons _).cons _) (WC.ret ?_))))))))
  refine⟨.inr rfl,[_],⟨rfl,trivial⟩,_,((bi (bi (bi (bi (aI _ _) _) _) _) _).k9).k9,?_⟩
  have hX:=(((bD.mono Vv hX9)).um fun n hn=>Jf _ (ne2 n hn)).two ((ayH).two (((bD.mono Vv hW9)).um fun n hn=>Jf _ (ne3 n hn)))
  have pQ:=az.cast YF hmT.symm
  exact MK.of ((hIt h45).trans hMe) ⟨_,_,_,u6,aj0,bD.kv aC5 YE pQ (fH.mono aO) (hX.to ab9.symm),fun j hj=>(Jf j fun e=>hj _ (k3.mem_iff.2 (dk _ (fK _ hbm))) e.symm).trans (xP j fun s hs=>hj s (cB.2 (by obtain⟨n9,h9,e9⟩:=cB.1 hs;exact⟨n9,oT (bN kZ) h9,e9⟩))),ax Value.bool (ajR (by rw [←hmT,dt]))⟩
 refine WC.sk (WC.sr (W.mv (W.mv (W.jy (fun G1 fC dW=>Rx (bY.fV YD fC (eU (((aI _ _).cons _).cons _) dW) (iI (i:=1) dW rfl)) (n:=(⟨0,((kk+1:Nat):Int),(au y),((ay y).map BT.slot),[]⟩:c6)) ⟨_,_,_,uq (iI (i:=0) dW rfl),(fk.mono lT).fV fC (eU (((((aI _ _).trans (cH _ _)).trans (cH _ _)).cons _).cons _) dW),(az.mono fC (eX.mono lT)),(az.mono fC (fH.mono lT))⟩ aa) ap5 rfl (W.an (WC.perm (M':=((aP,ar 62 [aC ba,iV root,iV fan,iV leaf])::((dM,ar 67 [aK (kk+1),lV lN ((au y)).length lO,lV lP (((ay y).map BT.slot)).length lQ,lV iJ ([]).length iK])::(tc++(EL++(jV++(rA++(rB++[])))))))) ((((ah.cons _).trans ah).cons _).trans ((List.Perm.swap _ _ _).trans (ah.cons _))) (WC.perm (M':=((aP,ar 62 [aC ba,iV root,iV fan,iV leaf])::((dM,ar 67 [aK (kk+1),lV lN ((au y)).length lO,lV lP (((ay y).map BT.slot)).length lQ,lV iJ ([]).length iK])::(tc++(jV++(rA++(EL++(rB++[])))))))) ((((bO _ ((bO _ ((bO _ ((bO _ ((bO _ ah).trans ah)).trans ah)).trans (bJ ah))).trans (bJ ah))).trans ah).cons _).cons _) (WC.ret ?_))))))))
 refine⟨.inr rfl,[_],⟨rfl,trivial⟩,_,((bi (bi (bi (bi (aI _ _) _) _) _) _).k9).k9,?_⟩
 have hX:=bD.Rh kZ (((bD.mono lT FA)).sib (oS eV _) (uG eV (bN kZ)) nd2 xP) ajZ (((bD.mono lT FB)).sib (oU eV _) (uG eV (bN kZ)) nd3 xP)
 have pQ:=az.cast (eX.mono lT) asJ.symm
 exact MK.of (hIf h45) ⟨_,_,_,u6,YD,bD.kv Dv (fk.mono lT) pQ (fH.mono lT) hX,fun j hj=>xP j fun s hs=>hj s (cB.2 (by obtain⟨n9,h9,e9⟩:=cB.1 hs;exact⟨n9,oT (bN kZ) h9,e9⟩)),ax Value.bool (ajR (by rw [aAG,aC3]))⟩

theorem Bk:∀kk,aAL kk
  |0=>fun cJ _ _ _ i k _ _ lA lo sp hs hk dI eG eV iR jK jn ee=>Yx cJ i k lA lo sp hs hk dI eG eV iR jK jn ee
  |kk+1=>fun cJ _ _ _ i k _ _ lA lo sp hs hk dI eG eV iR jK jn ee=>YC cJ i k lA lo sp hs hk dI eG eV iR jK jn ee (Bk kk)
end Go.Proofs.YthhpfadbojfdnaaGreat

namespace Go.Fw
open Go Go.RowKit
structure k8 where
 k:Nat
 y:BT k
 u:List Bool
def Dz:Span:=⟨af.nil,af.nil,true⟩
theorem c7:Dz.norm=Dz:=rfl
theorem jA(q:af):Dz.has q=true:=by
 unfold Dz Span.has
 rw [af.nil_le];rfl
structure mC (fan leaf:Int) (t:k8):Prop where
 ok:BT.ok fan leaf t.k (if t.k=0 then 0 else 2) (oV fan leaf t.k) Dz t.y
 us:kE t.u (bf t.k t.y)
 nd:((bf t.k t.y).map c6.slot).Nodup
 all:∀s,da t.u s=true→s∈(bf t.k t.y).map c6.slot
 len:t.u.length≤4096
 kd:4≤fan∧fan≤64∧2≤leaf∧leaf≤64
section
variable {fan leaf:Int} {key:af} {e:bG}
theorem ank{u:List Bool}{s:Int} :s∈kp u↔da u s=true:=by
 unfold kp
 rw [cB,lX]
 constructor
 ·rintro⟨i,hi,rfl⟩
  rw [eO,gN]at hi
  obtain⟨h1,h2⟩:=hi
  rw [tZ h1]at h2
  exact⟨i,h1,rfl,h2⟩
 ·rintro⟨i,h,rfl,h2⟩
  exact⟨i,eO.2 ⟨gN.2 h,by rw [tZ h];exact h2⟩,rfl⟩
theorem acA(u:List Bool):(kp u).Nodup:=by
 unfold kp
 have h:List.Pairwise (fun a b:Nat=>a≠b) ((List.range u.length).filter fun i=>u.getD i true):=Hq List.filter_sublist List.nodup_range
 exact List.Pairwise.map _ (fun a b h e=>h (by have e:(a:Int)=(b:Int):=e;omega)) h
variable {t:k8}
theorem mC.perm(h:mC fan leaf t):(kp t.u).Perm ((bf t.k t.y).map c6.slot):=wE (acA _) h.nd fun s=>by
 rw [ank]
 exact⟨h.all s,mh.1 h.us s⟩
theorem mC.count(h:mC fan leaf t):(kp t.u).length=(bf t.k t.y).length:=by rw [h.perm.length_eq,dt]
theorem YG:∀ {k:Nat} {y:BT k} {lo hi:Int} {s:Span},s.norm=s→BT.ok fan leaf k lo hi s y→k<(bf k y).length
 |0,_,_,_,_,_,_=>by show 0<1;omega
 |k+1,y,lo,hi,s,hs,h=>by
  have hl:=h.2.len
  obtain⟨v,Rw,v1,_,v3,_⟩:=h.2.at hs (i:=0) aa
  have ih:=YG v1 v3
  rw [kD,zZ Rw,jo,bP,bP]
  omega
theorem mC.high(h:mC fan leaf t):t.k<4096:=by
 have h1:=YG c7 h.ok
 have h2:=h.count
 have h3:=qO t.u
 have h4:=h.len
 omega
theorem mC.rows{t:k8}(h:mC fan leaf t):bc (BT.rows t.k t.y):=(BT.ok.rows c7 h.ok).1
def Lo (fan leaf:Int) (key:af):(k:Nat)→BT k→Nat
 |0,y=>if td fan leaf (fY 0 y)=true then 1 else 0
 |k+1,y=>if Lo fan leaf key k ((ay y).getD (ae (au y) key) default)=k+1 then(if td fan leaf (fY (k+1) y)=true then k+2 else k+1)else Lo fan leaf key k ((ay y).getD (ae (au y) key) default)
theorem asL{l:List Bool}{b:Bool} :((b::l).reverse.takeWhile id).length=if(l.reverse.takeWhile id).length=l.length then(if b=true then l.length+1 else l.length)else(l.reverse.takeWhile id).length:=by
 rw [List.reverse_cons]
 by_cases h:(l.reverse.takeWhile id).length=l.length
 ·rw [if_pos h]
  have h2:l.reverse.takeWhile id=l.reverse:=List.Sublist.eq_of_length (WZ _) (by rw [h,yp])
  have h3:∀a∈l.reverse,id a=true:=fun a ha=>by
   rw [←h2]at ha
   exact ym.1 List.all_takeWhile a ha
  rw [W0 h3]
  cases b<;>simp
 ·rw [if_neg h]
  have h2:(l.reverse++[b]).takeWhile id=l.reverse.takeWhile id:=by
   rw [List.takeWhile_append,if_neg]
   rw [yp];exact h
  rw [h2]
theorem YH:∀ {k:Nat} {y:BT k},Lo fan leaf key k y=(((iL key k y).map (td fan leaf)).reverse.takeWhile id).length
 |0,y=>by
  unfold Lo iL
  cases h:td fan leaf (fY 0 y)<;>simp [h]
 |k+1,y=>by
  have ih:=YH (k:=k) (y:=(ay y).getD (ae (au y) key) default)
  have hl:((iL key k ((ay y).getD (ae (au y) key) default)).map (td fan leaf)).length=k+1:=by rw [dt,oW]
  show(if Lo fan leaf key k _=k+1 then _ else _)=(((td fan leaf (fY (k+1) y))::(iL key k ((ay y).getD (ae (au y) key) default)).map (td fan leaf)).reverse.takeWhile id).length
  rw [asL,hl,←ih]
variable {k:Nat}
theorem aj3{y:BT k} :Lo fan leaf key k y≤k+1:=by
 rw [YH]
 have:=(WZ (p:=id) (l:=((iL key k y).map (td fan leaf)).reverse)).length_le
 rw [yp,dt,oW]at this
 exact this
theorem asM{y:BT k} :za ((iL key k y).map (td fan leaf))=if Lo fan leaf key k y=k+1 then k+2 else Lo fan leaf key k y:=by
 unfold za
 rw [←YH,dt,oW]
theorem asN:∀ {k:Nat} {y:BT k} {lo hi:Int} {s:Span},s.norm=s→BT.ok fan leaf k lo hi s y→oy fan leaf key e k y≤Lo fan leaf key k y
 |0,y,lo,hi,s,hs,h=>by
  have hw:=h.2.1.o8.wQ key e
  unfold oy Lo
  split
  ·omega
  ·rename_i h1
   rw [if_pos]
   ·exact bZ _
   ·unfold td
    rw [if_pos (show(fY 0 y).lvl=0 from rfl)]
    exact dB (by show leaf≤((di y).length:Int);omega)
 |k+1,y,lo,hi,s,hs,h=>by
  have hl:=lz hs h key
  obtain⟨v,_,v1,_,v3,_⟩:=h.2.at hs (i:=ae (au y) key) (fy _ _)
  have ih:=asN v1 v3
  have hc:=aj3 (fan:=fan) (leaf:=leaf) (key:=key) (k:=k) (y:=(ay y)[ae (au y) key])
  rw [I0 hl]
  show _≤if Lo fan leaf key k ((ay y).getD _ _)=k+1 then _ else Lo fan leaf key k ((ay y).getD _ _)
  rw [fw hl]
  by_cases h1:oy fan leaf key e k (ay y)[ae (au y) key]=k+1
  ·have hce:Lo fan leaf key k (ay y)[ae (au y) key]=k+1:=aa
   by_cases h2:((ay y).length:Int)+1≤fan
   ·rw [if_pos h1,if_pos h2,if_pos hce];split<;>omega
   ·rw [if_pos h1,if_neg h2,if_pos hce,if_pos]
    ·exact bZ _
    ·unfold td
     rw [if_neg (by rw [kh];omega)]
     exact dB (by show fan≤(((ay y).map BT.slot).length:Int);rw [dt];omega)
  ·rw [if_neg h1]
   split
   ·split<;>omega
   ·exact ih
def pS (key:af):(k:Nat)→BT k→List aG
 |0,y=>di y
 |k+1,y=>pS key k ((ay y).getD (ae (au y) key) default)
theorem ag4{y:BT k} :∃h:k<(iL key k y).length,(iL key k y)[k]=fY 0 (zY (iL key k y)[k].slot (pS key k y)):=by
 induction k with
 |zero=>exact⟨Nat.zero_lt_one,rfl⟩
 |succ k ih=>
  obtain⟨h,e⟩:=ih (y:=(ay y).getD (ae (au y) key) default)
  refine⟨by rw [oW];omega,?_⟩
  exact e
theorem anl{l:List aG}(h:gW l){k:af}{e:bG}(hs:(bz l k).isSome=true):(bW l k e).length≤l.length:=by
 have hh:=h.has k
 rw [hs]at hh
 obtain⟨q1,q2⟩:=jW hh.symm
 rw [j3,h.front,h.rh q1 q2,bP,bP,bV,cv]
 have:(vZ (bG.apply e (bz l k)) k).length≤1:=by
  unfold vZ
  split<;>simp
 omega
theorem acB(tG:e.kind=1∨e.kind=2):∀ {k:Nat} {y:BT k} {lo:Int} {s:Span},s.norm=s→BT.ok fan leaf k lo (oV fan leaf k) s y→qP (pS key k y) key e leaf=true→oy fan leaf key e k y=0
 |0,y,lo,s,hs,h,hf=>by
  unfold oy
  rw [if_pos]
  have h1:((di y).length:Int)≤leaf:=h.1.2
  have hw:=h.2.1.o8.wQ key e
  have hf:qP (di y) key e leaf=true:=hf
  unfold qP at hf
  have h2:(decide (e.kind=1)||decide (e.kind=2))=true:=by
   rcases tG with h9|h9<;>simp [h9]
  rw [h2,Bool.not_true,Bool.or_false,kU,fJ]at hf
  rcases hf with hf|hf
  ·have:=anl (e:=e) h.2.1.o8 hf;omega
  ·omega
 |k+1,y,lo,s,hs,h,hf=>by
  have hl:=lz hs h key
  obtain⟨v,_,v1,_,v3,_⟩:=h.2.at hs (i:=ae (au y) key) (fy _ _)
  have hf:qP (pS key k ((ay y).getD (ae (au y) key) default)) key e leaf=true:=hf
  rw [fw hl]at hf
  have ih:=acB tG v1 v3 hf
  rw [I0 hl,ih,if_neg aa]
def Bl (fan leaf:Int) (key:af) (k:Nat) (y:BT k):Nat:=za ((iL key k y).map (td fan leaf))
theorem asO{y:BT k}{lo hi:Int}{s:Span}(hs:s.norm=s)(h:BT.ok fan leaf k lo hi s y):oy fan leaf key e k y≤Bl fan leaf key k y∧(oy fan leaf key e k y=k+1→Bl fan leaf key k y=k+2):=by
 have h1:=asN (key:=key) (e:=e) hs h
 have h2:=aj3 (fan:=fan) (leaf:=leaf) (key:=key) (k:=k) (y:=y)
 unfold Bl
 rw [asM]
 constructor
 ·split<;>omega
 ·intro h3
  rw [if_pos aa]
def xQ {k:Nat} (r:Fy k):k8:=
 match r.1.2 with
 |none=>⟨k,r.1.1,r.2⟩
 |some w=>⟨k+1,mg (aF r.2:Int) [w.1] [r.1.1,w.2],r.2.set (aF r.2) true⟩
theorem DA{r:Fy k}(h:r.1.2=none):xQ r=⟨k,r.1.1,r.2⟩:=by unfold xQ;rw [h]
theorem kN{r:Fy k}{w:af×BT k}(h:r.1.2=some w):xQ r=⟨k+1,mg (aF r.2:Int) [w.1] [r.1.1,w.2],r.2.set (aF r.2) true⟩:=by unfold xQ;rw [h]
def nW (fan leaf:Int) (key:af) (e:bG) (t:k8):Bool:=qP (pS key t.k t.y) key e leaf||decide (Bl fan leaf key t.k t.y≤(de t.u).length)
def yI (fan leaf:Int) (key:af) (e:bG) (t:k8):Int×k8:=if nW fan leaf key e t=true then(0,xQ (gq fan leaf key e t.k t.y t.u))else(4,t)
theorem lB(h:nW fan leaf key e t=true):yI fan leaf key e t=(0,xQ (gq fan leaf key e t.k t.y t.u)):=if_pos h
theorem Ol(h:nW fan leaf key e t=false):yI fan leaf key e t=(4,t):=if_neg (by rw [h];simp)
theorem mC.room(h:mC fan leaf t)(tG:e.kind=1∨e.kind=2)(hr:nW fan leaf key e t=true):oy fan leaf key e t.k t.y≤(de t.u).length∧(oy fan leaf key e t.k t.y=t.k+1→oy fan leaf key e t.k t.y+1≤(de t.u).length):=by
 unfold nW at hr
 rw [kU,fJ]at hr
 rcases hr with hr|hr
 ·have:=acB tG c7 h.ok hr
  omega
 ·obtain⟨h1,h2⟩:=asO (key:=key) (e:=e) c7 h.ok
  exact⟨aa,fun h3=>by have:=h2 h3;omega⟩
theorem mC.mk9{u u':List Bool}{new:List Int}{l':List c6}(h:mC fan leaf t)(hn:tD t.u u' new)(hp:(l'.map c6.slot).Perm ((bf t.k t.y).map c6.slot++new)):kE u' l'∧(l'.map c6.slot).Nodup∧(∀s,da u' s=true→s∈l'.map c6.slot)∧u'.length≤4096:=by
 refine⟨hn.us h.us hp,hp.nodup_iff.2 (kX.2 ⟨h.nd,hn.nd,fun a ha b hb e=> ?_⟩),fun s hs=>hp.mem_iff.2 ?_,by rw [hn.len];exact h.len⟩
 ·subst e
  have:=hn.no a hb
  rw [mh.1 h.us a ha]at this;cases this
 ·rcases (hn.iff s).1 hs with h9|h9
  ·exact fK _ (h.all s h9)
  ·exact ib _ h9
theorem ayI(h:mC fan leaf t)(he:xJ e)(tG:e.kind=1∨e.kind=2)(ee:key.b.size≤16)(HY:e.val.b.size≤16)(hr:nW fan leaf key e t=true):
  mC fan leaf (xQ (gq fan leaf key e t.k t.y t.u))∧BT.rows _ (xQ (gq fan leaf key e t.k t.y t.u)).y=bW (BT.rows t.k t.y) key e:=by
 obtain⟨c1,c2,c3,c4⟩:=h.kd
 obtain⟨r1,r2⟩:=h.room tG hr
 have g1:=(Yg (fan:=fan) (leaf:=leaf) c1 c3 he ee HY t.k t.u c7 (jA key) h.ok).1
 obtain⟨new,n1,n2,n3,n4⟩:=I1 (key:=key) (e:=e) c1 c7 h.ok r1
 have hso:=zX (key:=key) (e:=e) (u:=t.u) c7 h.ok
 generalize gq fan leaf key e t.k t.y t.u=r at*
 unfold Gx at g1
 cases Fa:r.1.2 with
 |none=>
  rw [Fa]at g1
  rw [DA Fa]
  rw [Ri Fa]at n2
  obtain⟨a1,a2,a3,a4⟩:=h.mk9 (u:=t.u) n1 n2
  exact⟨⟨g1.1,a1,a2,a3,a4,h.kd⟩,g1.2⟩
 |some w=>
  rw [Fa]at g1
  rw [kN Fa]
  rw [jx Fa]at n2
  obtain⟨b1,b2,b3,b4,b5⟩:=g1
  have hf:aF r.2<r.2.length:=fO (by have:=r2 (hso.1 (by rw [Fa];rfl));omega)
  have m1:=n1.trans (IZ hf)
  have m2:((bf (t.k+1) (mg (aF r.2:Int) [w.1] [r.1.1,w.2])).map c6.slot).Perm ((bf t.k t.y).map c6.slot++(new++[(aF r.2:Int)])):=by
   rw [uF,cI,cI,iB,cx,←ci]
   exact(List.Perm.cons _ n2).trans (yl _ _).symm
  obtain⟨a1,a2,a3,a4⟩:=h.mk9 (u:=t.u) m1 m2
  refine⟨⟨?_,a1,a2,a3,a4,h.kd⟩,?_⟩
  ·show BT.ok fan leaf (t.k+1) (if t.k+1=0 then 0 else 2) (oV fan leaf (t.k+1)) Dz _
   rw [if_neg aa]
   exact⟨⟨by show(2:Int)≤((2:Nat):Int);omega,by show((2:Nat):Int)≤fan;omega⟩,xR.2 ⟨b1,b2,b3,uH.2 b4⟩⟩
  ·show([r.1.1,w.2]:List (BT t.k)).flatMap (BT.rows t.k)=_
   rw [cI,cI,iB,cx,b5]
def tf:(k:Nat)→BT k→List Bool→k8
 |0,y,u=>⟨0,y,u⟩
 |k+1,y,u=>if(ay y).length=1 then⟨k,(ay y).getD 0 default,u.set y.slot.toNat false⟩else⟨k+1,y,u⟩
def qe (fan leaf:Int) (key:af) (t:k8):k8:=tf t.k (jU fan leaf key t.k t.y t.u).1 (jU fan leaf key t.k t.y t.u).2
theorem anm:∀ {k:Nat} {y:BT k} {u:List Bool},BT.ok fan leaf k (if k=0 then 0 else 1) (oV fan leaf k) Dz y→kE u (bf k y)→((bf k y).map c6.slot).Nodup→(∀s,da u s=true→s∈(bf k y).map c6.slot)→u.length≤4096→4≤fan∧fan≤64∧2≤leaf∧leaf≤64→
  mC fan leaf (tf k y u)∧BT.rows _ (tf k y u).y=BT.rows k y
 |0,y,u,h,hu,hn,ha,hl,hc=>⟨⟨h,hu,hn,ha,hl,hc⟩,rfl⟩
 |k+1,y,u,h,hu,hn,ha,hl,hc=>by
  by_cases h1:(ay y).length=1
  ·rw [show tf (k+1) y u=⟨k,(ay y).getD 0 default,u.set y.slot.toNat false⟩from if_pos h1]
   have hlen:=h.2.len
   obtain⟨c,Fb⟩:∃c,ay y=[c]:=by
    match hK:ay y,h1 with
    |[c],_=>exact⟨c,rfl⟩
   have ve:=h.2
   have hP:au y=[]:=kj aa
   rw [Fb,hP,uH]at ve
   have hg:(ay y).getD 0 default=c:=by rw [Fb];rfl
   rw [hg]
   have hns:(bf (k+1) y).map c6.slot=y.slot::(bf k c).map c6.slot:=by
    rw [kD,cA,bg,Fb,cI,iB,cx]
   have eV:da u y.slot=true:=by have:=hu _ cD;rwa [bg]at this
   have hd:=aca eV
   rw [hns,nN]at hn
   refine⟨⟨?_,mh.2 fun s hs=>(hd.iff s).2 ⟨mh.1 hu s (by rw [hns];exact dk _ hs),fun h9=>hn.1 (by rw [gh]at h9;rw [←h9];exact hs)⟩,hn.2,fun s hs=> ?_,by rw [cg];exact hl,hc⟩,?_⟩
   ·refine ve.to ?_ ve.ta.2
    have:=ve.ta.1
    show(if k=0 then(0:Int)else 2)≤_
    split
    ·omega
    ·rename_i h9
     unfold vQ at this
     rw [if_neg h9]at this
     omega
   ·obtain⟨a1,a2⟩:=(hd.iff s).1 hs
    have:=ha s a1
    rw [hns]at this
    rcases dK.1 this with h9|h9
    ·exact absurd (gh.2 h9) a2
    ·exact h9
   ·show BT.rows k c=(ay y).flatMap (BT.rows k)
    rw [Fb,cI,iB,cx]
  ·rw [show tf (k+1) y u=⟨k+1,y,u⟩from if_neg h1]
   have h2:(1:Int)≤((ay y).length:Int):=h.1.1
   refine⟨⟨?_,hu,hn,ha,hl,hc⟩,rfl⟩
   show BT.ok fan leaf (k+1) (if k+1=0 then 0 else 2) _ _ _
   rw [if_neg aa]
   exact⟨⟨by show(2:Int)≤((ay y).length:Int);omega,h.1.2⟩,h.2⟩
theorem aj4(h:mC fan leaf t)(ee:key.b.size≤16):mC fan leaf (qe fan leaf key t)∧BT.rows _ (qe fan leaf key t).y=bW (BT.rows t.k t.y) key pz:=by
 obtain⟨c1,c2,c3,c4⟩:=h.kd
 have eG:t.k=0∨2≤(if t.k=0 then(0:Int)else 2):=by
  by_cases e:t.k=0
  ·exact .inl e
  ·right;rw [if_neg e];omega
 obtain⟨g1,g2,g3⟩:=Jd (fan:=fan) (leaf:=leaf) (key:=key) c1 c3 ee t.k t.u eG c7 (jA key) h.ok
 obtain⟨gone,d1,p1⟩:=Dm (fan:=fan) (leaf:=leaf) (key:=key) c1 c3 ee t.k t.u eG c7 (jA key) h.ok h.us h.nd
 unfold qe
 generalize jU fan leaf key t.k t.y t.u=r at*
 have iR:=p1.nodup_iff.1 h.nd
 rw [kX]at iR
 obtain⟨a1,a2⟩:=anm (fan:=fan) (leaf:=leaf) (k:=t.k) (y:=r.1) (u:=r.2) (g1.to (by
   have:=g1.ta.1
   by_cases e:t.k=0
   ·rw [if_pos e];omega
   ·rw [if_neg e]at this⊢;omega) g1.ta.2)
  (mh.2 fun s hs=>(d1.iff s).2 ⟨mh.1 h.us s (p1.mem_iff.2 (fK _ hs)),fun h9=>iR.2.2 s hs s h9 rfl⟩) iR.1
  (fun s hs=>by
   obtain⟨b1,b2⟩:=(d1.iff s).1 hs
   rcases cP.1 (p1.mem_iff.1 (h.all s b1))with h9|h9
   ·exact h9
   ·exact absurd h9 b2) (by rw [d1.len];exact h.len) h.kd
 exact⟨a1,a2.trans g2⟩
end
abbrev ky (AR:Nat→GH→List (Option Nat)×List Bool→MH→Prop) (Tt Tn Ts:TypeId) (bt:Nat) (fan leaf:Int) (G:GH) (t:k8) (Ms:MH):Prop:=
 ∃ba root cells Ma Mn,Ms.Perm ((bt,.cells (List.toArray [.pointer (some ⟨ba,0,none⟩),.int .i64 root,.int .i64 fan,.int .i64 leaf]) Tt (0,0))::(Ma++Mn))∧root=t.y.slot∧AR ba G (cells,t.u) Ma∧bD Tn Ts cells (bf t.k t.y) G Mn
variable {G:GH}
theorem ky.to{AR:Nat→GH→List (Option Nat)×List Bool→MH→Prop}{Tt Tn Ts:TypeId}{bt:Nat}{fan leaf:Int}{t t':k8}{Ms:MH}(e:t=t')(h:ky AR Tt Tn Ts bt fan leaf G t' Ms):ky AR Tt Tn Ts bt fan leaf G t Ms:=e▸h
theorem Ok.to{E:Env}{f:Fr}{M:MH}{o:Oper}{v v':Value}(h:Ok E f G M o v)(e:v=v'):Ok E f G M o v':=e▸h
section
variable {fan leaf:Int} {key:af}
theorem EM:∀ {k:Nat} {y:BT k} {lo:Int} {s:Span},s.norm=s→s.has key=true→BT.ok fan leaf k lo (oV fan leaf k) s y→bc (pS key k y)∧((pS key k y).length:Int)≤leaf∧bz (pS key k y) key=bz (BT.rows k y) key
 |0,y,lo,s,hs,hk,h=>⟨h.2.1,h.1.2,rfl⟩
 |k+1,y,lo,s,hs,hk,h=>by
  have hl:=lz hs h key
  obtain⟨v,_,v1,v2,v3,_⟩:=h.2.at hs (i:=ae (au y) key) (fy _ _)
  have hv:v.has key=true:=by rw [v2,hk,dB rfl];rfl
  obtain⟨a1,a2,a3⟩:=EM v1 hv v3
  have e:pS key (k+1) y=pS key k (ay y)[ae (au y) key]:=by
   show pS key k ((ay y).getD _ _)=_
   rw [fw hl]
  rw [e]
  refine⟨a1,a2,?_⟩
  obtain⟨ha,hc⟩:=Ch.ahead (f:=BT.rows k) (fun u c hu hc=>BT.ok.rows hu hc) hs h.2 hk
  show _=bz ((ay y).flatMap (BT.rows k)) key
  rw [RA (BT.rows k) hl,Vw ha hc,a3]
end
variable {k:Nat}
theorem bD.leaf{Tn Ts:TypeId}{cells:List (Option Nat)}{G:GH}{fan leaf:Int}{key:af}{y:BT k}{lo hi:Int}{s:Span}{Ms:MH}(hs:s.norm=s)(dI:BT.ok fan leaf k lo hi s y)(h:bD Tn Ts cells (bf k y) G Ms):
  ∃b l vp vk vr,(b,Obj.cells (List.toArray [.int .i64 l,vp,vk,vr]) Tn (0,0))∈Ms∧az aU G vr (pS key k y)∧∃h:k<((iL key k y).map (Jg cells)).length,((iL key k y).map (Jg cells))[k]=some b:=by
 obtain⟨h1,h2⟩:=ag4 (key:=key) (k:=k) (y:=y)
 obtain⟨b,vp,vk,vr,Mp,a1,a2,a3,a4,a5,a6⟩:=h.mem _ (Lp hs dI _ (bN h1))
 refine⟨b,_,vp,vk,vr,a2,?_,by rw [dt];exact h1,?_⟩
 ·rw [h2]at a6;exact a6
 ·rw [jX];exact a1.pt
theorem ann{l:List (BT k)}(h:l.length=1):l=[l.getD 0 default]:=by
 match l,h with
 |[c],_=>rfl
end Go.Fw
namespace Go.Proofs.YthhpfadbojfdnaaGreat
open Go Go.Fw Go.RowKit
attribute [local irreducible] Ok W WC
variable {G:GH} {Ma:MH} {Mn:MH} {aP:Nat} {ba:Nat} {fan:Int} {kk:Nat}
theorem asP{st:List (Option Nat)×List Bool}(cJ:bY fu 60 4 3 106 ba G st Ma){root:Int}{leaf:Int}(k:af)(ek:Int)(ev:af){y:BT kk}(lA:bD 67 9 st.1 (bf kk y) G Mn)(hT:mC fan leaf (⟨kk,y,st.2⟩:k8))(m7:root=y.slot)(tG:ek=1∨ek=2)(ee:k.b.size≤16)(rq:ev.b.size≤16)(Dn:xJ ⟨ek,ev⟩):
    Fc Tryz.prog 30 [aC aP,sV k.b,.agg #[iV ek,sV ev.b]] G ((aP,ar 62 [aC ba,iV root,iV fan,iV leaf])::(Ma++(Mn))) (fun v G' M'=>v=iV (yI fan leaf k (⟨ek,ev⟩:bG) (⟨kk,y,st.2⟩:k8)).1∧ky (fun ba=>bY fu 60 4 3 106 ba) 62 67 9 aP fan leaf G' (yI fan leaf k (⟨ek,ev⟩:bG) (⟨kk,y,st.2⟩:k8)).2 M'):=by
 have dI:=hT.ok
 have eV:=hT.us
 have iR:=hT.nd
 have xS:=hT.kd
 have hkk:=hT.high
 dsimp only at dI eV iR hkk
 have Fz:=hT.len
 dsimp only at Fz
 have RB:da st.2 y.slot=true:=by have h9:=eV _ cD;rw [bg]at h9;exact h9
 obtain⟨aAO,aAP,aAQ⟩:=j9 RB
 have asQ:=fun h=>hT.room (e:=⟨ek,ev⟩) (key:=k) tG h
 dsimp only at asQ
 obtain⟨R9,m9⟩:∃R,gq fan leaf k ⟨ek,ev⟩ kk y st.2=R:=⟨_,rfl⟩
 have gC:R9.1.1.slot=root:=by rw [←m9,m7];exact Vk
 have Vn:=zX (key:=k) (e:=⟨ek,ev⟩) (u:=st.2) c7 dI
 have MM:=fun h=>I1 (key:=k) (e:=⟨ek,ev⟩) (u:=st.2) xS.1 c7 dI h
 rw [m9]at Vn MM
 refine Fc.go [.tmp 6] Tryz.func30 Tryz.ntmps30 rfl (fun w0=>(WC.perm (M':=((aP,ar 62 [aC ba,iV root,iV fan,iV leaf])::(Ma++(Mn++[])))) (by simp) (g9 2 ?_)))
 refine W.box (L:=[iV _,sV _]) rfl rfl (fun b1=>(g9 7 ?_))
 refine W.aC6 (R:=fun v Mq=>∀G9,aE fu 60 G9 v ((iL k kk y).map (Jg st.1)) Mq) (fun G1 fC dW=>(Vx (bY.fV cJ fC (eU (((aI _ _).cons _).cons _) dW) (iI (i:=1) dW rfl)) k kk y _ _ _ c7 dI (bD.fV fC lA (eU ((((aI _ _).trans (cH _ _)).cons _).cons _) dW)) eV m7 aa).mono fun v G2 M2 zR h2 G9=>acC.own h2) az5 rfl (fun v2 G4 YI Jh aHx=>(W.perm (M':=((b1,ar 86 [iV ek,sV ev.b])::((aP,ar 62 [aC ba,iV root,iV fan,iV leaf])::(YI++(Ma++(Mn++[])))))) (pN (show mq ((b1,ar 86 [iV ek,sV ev.b])::((aP,ar 62 [aC ba,iV root,iV fan,iV leaf])::(YI++(Ma++(Mn++[])))))=mq (((b1,ar 86 [iV ek,sV ev.b])::((aP,ar 62 [aC ba,iV root,iV fan,iV leaf])::(Ma++(Mn++[]))))++YI)by simp only [gZ,fD,fE];ac_rfl)) ?_))
 have aj5:=aHx G4
 have q8:=aj5.form
 refine match q8 with|⟨sa5,sc6,DB⟩=> ?_
 subst DB
 refine g9 5 ?_
 have q9:=bD.leaf (key:=k) c7 dI (bD.mono Jh lA)
 refine match q9 with|⟨b_l,aHy,aHz,aHA,aHB,asR,acD,aAR,aHC⟩=> ?_
 have Ji:=acD.form
 refine match Ji with|⟨dz,dA,HX⟩=> ?_
 subst HX
 have asl:((iL k kk y).map (Jg st.1)).length=kk+1:=by rw [dt,oW]
 have aj6:=EM (fan:=fan) (leaf:=leaf) (key:=k) c7 (jA k) dI
 refine g9 5 ?_
 refine aj5.a1 (i:=kk) aa (fun Ue=>(W.ok (aV (i:=kk) zl tA aj5 rfl rfl ⟨by rw [asl];omega,aa⟩) (W.ok (Ok.to (v:=Value.pointer ((((iL k kk y).map (Jg st.1))[kk]'aAR).map fun b=>⟨b,0,none⟩)) (dQ (b:=false) (j:=1) (vs:=[.pointer _]) tA Ue (ag (ag ah)) rfl rfl rfl (by simp)) (show Value.pointer ((((iL k kk y).map (Jg st.1))[kk]'aAR).map fun b=>⟨b,0,none⟩)=aC b_l by rw [aHC];rfl)) (g9 2 ?_))))
 refine W.ok (gw (vs:=AD) ((((((aI _ _).trans (cH _ _)).trans (cH _ _)).cons _).cons _).subset asR) OR rfl rfl rfl (by simp)) (g9 6 ?_)
 refine W.aH (MN acD k ek ev leaf aj6.1.o8) rfl (g9 2 ?_)
 refine W.sp 31 rfl (fun vU=> ?_) (fun vU=> ?_)
 ·refine g9 9 ?_
  refine W.jy (fun G1 fC dW=>ag5 (bY.fV (bY.mono Jh cJ) fC (eU ((((aI _ _).trans (cH _ _)).cons _).cons _) dW) (iI (i:=1) dW rfl))) aGE rfl (g9 5 ?_)
  refine W.jy (fun G1 fC dW=>ag6 (bY.fV (bY.mono Jh cJ) fC (eU ((((aI _ _).trans (cH _ _)).cons _).cons _) dW) (iI (i:=1) dW rfl)) (aj5.fV fC (eU (((aI _ _).cons _).cons _) dW)) (iL k kk y) rfl (fun n hn=>bD.fV fC (bD.mono Jh lA) (eU (((((aI _ _).trans (cH _ _)).trans (cH _ _)).cons _).cons _) dW) n (Lp c7 dI n hn))) aGF rfl (g9 5 ?_)
  refine WC.cd (fun YJ p40=> ?_) (fun YJ p40=> ?_)
  ·refine g9 5 ?_
   refine WC.sub (M':=((aP,ar 62 [aC ba,iV root,iV fan,iV leaf])::(Ma++(Mn++[])))) ((((bi (bi bB _) _).trans (cH _ _)).k9).cons _) (g9 2 ?_)
   refine⟨.inr rfl,[_],⟨rfl,trivial⟩,_,(bi (aI _ _) _).k9,?_⟩
   have gn:nW fan leaf k ⟨ek,ev⟩ ⟨kk,y,st.2⟩=false:=by unfold nW Bl;rw [show qP (pS k kk y) k ⟨ek,ev⟩ leaf=false by simpa using vU];exact gr (by dsimp only;omega)
   have hE:=Ol gn
   have ja:=ax Prod.fst hE
   have eM:=ax Prod.snd hE
   exact⟨ax (Value.int .i64) ja.symm,ky.to eM ⟨_,_,_,_,_,ah,m7,(bY.mono Jh cJ),(bD.mono Jh lA)⟩⟩
  refine g9 4 ?_
  refine WC.dw (iD.k9.k9) (d9 [0,1,2,3,4,5,6] ?_)
  refine WD.a1 7 rfl ?_
  have gn:nW fan leaf k ⟨ek,ev⟩ ⟨kk,y,st.2⟩=true:=by unfold nW Bl;rw [kU];right;exact dB (by dsimp only;omega)
  have RC:=asQ gn
  refine match RC with|⟨acE,Ac⟩=> ?_
  refine W.call (Mp:=((aP,ar 62 [aC ba,iV root,iV fan,iV leaf])::(Ma++Mn))) (Mr:=((b1,ar 86 [iV ek,sV ev.b])::(YI++[]))) (Bj kk (bY.mono Jh cJ) root k ek ev (bD.mono Jh lA) _ Dz c7 (jA k) dI eV m7 xS ee rq Dn acE) rfl (((ag ((gB (bJ ah)).trans (bJ ah))).cons _).trans ((List.Perm.swap _ _ _).trans (ah.cons _))) ?_
  intro v20 TU BO B6 Ny
  rw [m9]at Ny
  refine match Ny with|⟨cw,wK,nf,ayJ,oh,pj,aHD,uN⟩=> ?_
  subst uN
  refine W.perm (M':=((aP,ar 62 [aC ba,iV root,iV fan,iV leaf])::(wK++nf))++((b1,ar 86 [iV ek,sV ev.b])::(YI++[]))) (pD _ ayJ.symm) ?_
  have pO:cw.length=R9.2.length:=by obtain⟨_,_,h9,_⟩:=oh;exact h9
  have asp:R9.2.length≤4096:=by obtain⟨_,_,_,h9,_⟩:=oh;exact h9
  have Du:=pj.Cr
  refine W.perm (M':=((b1,ar 86 [iV ek,sV ev.b])::((aP,ar 62 [aC ba,iV root,iV fan,iV leaf])::(wK++(nf++(YI++[])))))) (((ag ((gB ah).trans ah)).cons _).trans ((List.Perm.swap _ _ _).trans (ah.cons _))).symm (W.nn (d9 [8,9,10,11,12] ?_))
  refine g9 8 ?_
  refine WC.cn (fun Bm YK=> ?_) (fun Bm YK=> ?_)
  ·have asS:∃w,R9.1.2=some w:=by
     cases h9:R9.1.2 with
     |none=>rw [h9]at YK;exact absurd rfl YK
     |some w=>exact⟨w,rfl⟩
   refine match asS with|⟨w9,j5⟩=> ?_
   have Bg:fQ R9.1.2=w9.1:=by rw [j5];rfl
   have xM:gJ R9.1.2=w9.2.slot:=by rw [j5];rfl
   have Kp:=Du (fY kk w9.2) (by rw [jx j5];exact ib _ cD)
   refine match Kp with|⟨b8,Nv⟩=> ?_
   rw [bg]at Nv
   have Yo:=Nv.lt
   refine match Yo with|⟨hb7,hb6⟩=> ?_
   have qd:i64 (gJ R9.1.2):=by rw [xM];exact⟨aa,aa⟩
   have wc:=Vn.1 (by rw [j5];rfl)
   have q24:=MM acE
   refine match q24 with|⟨nw9,w1,w2,w3,w4⟩=> ?_
   have kL:kE R9.2 (mB R9.1):=w1.us eV w2
   have uO:i64 root:=by rw [m7];exact⟨aa,aa⟩
   have qf:fY kk R9.1.1∈mB R9.1:=by unfold mB;exact fK _ cD
   refine WC.seq (WC.dw (bB.k9.k9) (d9 [0,1,2,3,4,10,12,13,14,15,16] ?_))
   refine WD.any [5,11,17] (by kernel_rfl) rfl ⟨WD.ap ?_,WD.ap ?_,WD.ap ?_,trivial⟩
   ·have q25:=pj.mem _ qf
    refine match q25 with|⟨xT,DC,DD,DE,DF,jM,np,_,_,_,_⟩=> ?_
    rw [bg,gC]at jM
    have lC:=kL _ qf
    rw [bg,gC]at lC
    have xU:(fY kk R9.1.1).lvl=(kk:Int):=kh
    refine W.jy (fun G1 fC dW=>iz (bY.fV oh fC (eU (((aI _ _).cons _).cons _) dW) (iI (i:=1) dW rfl)) _ xT jM lC) qX rfl (W.nn (d9 [6,7] ?_))
    refine WD.tk 8 rfl (gw (vs:=kB) (((((aI _ _).trans (cH _ _)).cons _).cons _).subset np) cV rfl rfl rfl (by simp)) (WD.tk 9 rfl (Ok.int (n:=((kk+1:Nat):Int)) (dZ rfl rfl aa) aa) ?_)
    refine WD.any [11,17] (by kernel_rfl) rfl ⟨WD.ap ?_,WD.ap ?_,trivial⟩
    ·refine W.re (e:=cy) (l:=[(fQ R9.1.2)]) (css:=[[sV _]]) dL gi wy rfl rfl rfl rfl rfl rfl ⟨rfl,trivial⟩ (fun v26 CK LZ=>(W.perm (ag (ag ah)).symm ?_))
     have q32:=LZ.form
     refine match q32 with|⟨Ry,Rz,Ab⟩=> ?_
     subst Ab
     refine W.nil (WD.n9 Le.rfl (((bB.trans (cH _ _)).k9).k9) (WD.a1 17 rfl (W.lit (e:=bE) (l:=[root,(gJ R9.1.2)]) (css:=[[iV _],[iV _]]) dG cV ng rfl rfl rfl rfl rfl rfl ⟨⟨rfl,by first|exact uO|exact qd⟩,⟨rfl,by first|exact uO|exact qd⟩,trivial⟩ (fun aAS G33 lq acF=>(W.nil (WD.n9 lq (((bB.trans (cH _ _)).k9).k9) (WD.tk 18 rfl (aY (L:=[iV _,lV _ _ _,lV _ _ _,lV _ _ _]) vX vW rfl rfl rfl) (WD.a1 19 rfl (W.box (L:=[iV _,lV _ _ _,lV _ _ _,lV _ _ _]) rfl rfl (fun b34=>(W.nil (WD.n9 Le.rfl ((((bB.trans (cH _ _)).k9).k9).cons _) (d9 [20] ?_)))))))))))))
     refine g9 9 ?_
     have Lq:=fO (u:=(((cw,R9.2):List (Option Nat)×List Bool)).2) (by show 0<(de R9.2).length;have h9:=Ac wc;omega)
     refine W.call (Mp:=wK) (kg (bY.mono lq oh) b34) rfl (ag (ag (ag (bJ ah)))) ?_
     intro v39 G36 HZ CL Ks
     refine match Ks with|⟨acG,Fl⟩=> ?_
     refine W.perm (ag (ag (ag ah))).symm ?_
     rw [iF Lq]at acG Fl
     subst acG
     try dsimp only at Fl
     refine g9 13 ?_
     refine WC.sub (M':=((b34,ar 67 [aK (kk+1),lV Ry ([(fQ R9.1.2)]).length Rz,lV (some ⟨aAS,0,none⟩) 2 2,lV none 0 0])::((aP,ar 62 [aC ba,aK (aF (((cw,R9.2):List (Option Nat)×List Bool)).2),iV fan,iV leaf])::(HZ++(CK++(nf++[])))))) ((((bi (bi (bi (bB.trans (cH _ _)) _) _) _).k9).cons _).k9) (WC.perm (M':=((aP,ar 62 [aC ba,aK (aF (((cw,R9.2):List (Option Nat)×List Bool)).2),iV fan,iV leaf])::((b34,ar 67 [aK (kk+1),lV Ry ([(fQ R9.1.2)]).length Rz,lV (some ⟨aAS,0,none⟩) 2 2,lV none 0 0])::(HZ++(CK++(nf++[])))))) ((((ah.cons _).trans ah).cons _).trans ((List.Perm.swap _ _ _).trans (ah.cons _))) (WC.ret ?_))
     refine⟨.inr rfl,[_],⟨rfl,trivial⟩,_,((bi (bi (aI _ _) _) _).k9).k9,?_⟩
     have hE:=lB gn
     have ja:=ax Prod.fst hE
     have eM:=ax Prod.snd hE
     dsimp only at ja eM
     rw [m9]at eM
     have kM:∀j:Nat,R9.2[j]?=some true→(cw.set (aF R9.2) (some b34))[j]?=cw[j]?:=fun j hj=>gK Lq hj
     have xV:=aE.to (LZ.mono (lq.trans CL)) (ax (fun s=>[s]) Bg)
     have pQ:=az.cast (acF.mono CL) (show _=([R9.1.1,w9.2]:List (BT kk)).map BT.slot by rw [cA,cA,lG,gC,xM])
     have j8:([R9.1.1,w9.2]:List (BT kk)).flatMap (bf kk)=mB R9.1:=by rw [jx j5,cI,cI,iB,cx]
     exact⟨ax (Value.int .i64) ja.symm,ky.to (eM.trans (kN j5)) ⟨_,_,_,_,_,u6,rfl,Fl,bD.kv (kf (show aF R9.2<cw.length by rw [pO];exact Lq)) xV pQ az.nil ((((bD.mono aO pj)).eB kL kM).to j8.symm)⟩⟩
    refine W.lit (e:=bE) (l:=[root,(gJ R9.1.2)]) (css:=[[iV _],[iV _]]) dG cV ng rfl rfl rfl rfl rfl rfl ⟨⟨rfl,by first|exact uO|exact qd⟩,⟨rfl,by first|exact uO|exact qd⟩,trivial⟩ (fun ajm G41 BR BU=>(W.nn (WD.a1 11 rfl (W.re (e:=cy) (l:=[(fQ R9.1.2)]) (css:=[[sV _]]) dL gi wy rfl rfl rfl rfl rfl rfl ⟨rfl,trivial⟩ (fun v42 Ie Ig=>(W.perm (ag (ag ah)).symm ?_))))))
    have PE:=Ig.form
    refine match PE with|⟨CO,CP,zC⟩=> ?_
    subst zC
    refine W.nil (WD.n9 Le.rfl (((bB.trans (cH _ _)).k9).k9) (WD.tk 18 rfl (aY (L:=[iV _,lV _ _ _,lV _ _ _,lV _ _ _]) vX vW rfl rfl rfl) (WD.a1 19 rfl (W.box (L:=[iV _,lV _ _ _,lV _ _ _,lV _ _ _]) rfl rfl (fun b49=>(W.nil (WD.n9 Le.rfl ((((bB.trans (cH _ _)).k9).k9).cons _) (d9 [20] ?_))))))))
    refine g9 9 ?_
    have Lr:=fO (u:=(((cw,R9.2):List (Option Nat)×List Bool)).2) (by show 0<(de R9.2).length;have h9:=Ac wc;omega)
    refine W.call (Mp:=wK) (kg (bY.mono BR oh) b49) rfl (ag (ag (ag (bJ ah)))) ?_
    intro v54 G51 RD asT q52
    refine match q52 with|⟨acH,asU⟩=> ?_
    refine W.perm (ag (ag (ag ah))).symm ?_
    rw [iF Lr]at acH asU
    subst acH
    try dsimp only at asU
    refine g9 13 ?_
    refine WC.sub (M':=((b49,ar 67 [aK (kk+1),lV CO ([(fQ R9.1.2)]).length CP,lV (some ⟨ajm,0,none⟩) 2 2,lV none 0 0])::((aP,ar 62 [aC ba,aK (aF (((cw,R9.2):List (Option Nat)×List Bool)).2),iV fan,iV leaf])::(RD++(Ie++(nf++[])))))) ((((bi (bi (bi (bB.trans (cH _ _)) _) _) _).k9).cons _).k9) (WC.perm (M':=((aP,ar 62 [aC ba,aK (aF (((cw,R9.2):List (Option Nat)×List Bool)).2),iV fan,iV leaf])::((b49,ar 67 [aK (kk+1),lV CO ([(fQ R9.1.2)]).length CP,lV (some ⟨ajm,0,none⟩) 2 2,lV none 0 0])::(RD++(Ie++(nf++[])))))) ((((ah.cons _).trans ah).cons _).trans ((List.Perm.swap _ _ _).trans (ah.cons _))) (WC.ret ?_))
    refine⟨.inr rfl,[_],⟨rfl,trivial⟩,_,((bi (bi (aI _ _) _) _).k9).k9,?_⟩
    have hE:=lB gn
    have ja:=ax Prod.fst hE
    have eM:=ax Prod.snd hE
    dsimp only at ja eM
    rw [m9]at eM
    have kM:∀j:Nat,R9.2[j]?=some true→(cw.set (aF R9.2) (some b49))[j]?=cw[j]?:=fun j hj=>gK Lr hj
    have xV:=aE.to (Ig.mono asT) (ax (fun s=>[s]) Bg)
    have pQ:=az.cast (BU.mono asT) (show _=([R9.1.1,w9.2]:List (BT kk)).map BT.slot by rw [cA,cA,lG,gC,xM])
    have j8:([R9.1.1,w9.2]:List (BT kk)).flatMap (bf kk)=mB R9.1:=by rw [jx j5,cI,cI,iB,cx]
    exact⟨ax (Value.int .i64) ja.symm,ky.to (eM.trans (kN j5)) ⟨_,_,_,_,_,u6,rfl,asU,bD.kv (kf (show aF R9.2<cw.length by rw [pO];exact Lr)) xV pQ az.nil ((((bD.mono aO pj)).eB kL kM).to j8.symm)⟩⟩
   ·refine W.re (e:=cy) (l:=[(fQ R9.1.2)]) (css:=[[sV _]]) dL gi wy rfl rfl rfl rfl rfl rfl ⟨rfl,trivial⟩ (fun v56 yJ FD=>(W.perm (ag (ag ah)).symm ?_))
    have q62:=FD.form
    refine match q62 with|⟨Vy,Vz,acI⟩=> ?_
    subst acI
    refine W.nil (WD.n9 Le.rfl (((bB.trans (cH _ _)).k9).k9) ?_)
    refine WD.any [5,17] (by kernel_rfl) rfl ⟨WD.ap ?_,WD.ap ?_,trivial⟩
    ·have q63:=pj.mem _ qf
     refine match q63 with|⟨xT,DC,DD,DE,DF,jM,np,_,_,_,_⟩=> ?_
     rw [bg,gC]at jM
     have lC:=kL _ qf
     rw [bg,gC]at lC
     have xU:(fY kk R9.1.1).lvl=(kk:Int):=kh
     refine W.jy (fun G1 fC dW=>iz (bY.fV oh fC (eU ((((aI _ _).trans (cH _ _)).cons _).cons _) dW) (iI (i:=1) dW rfl)) _ xT jM lC) qX rfl (W.nil (WD.n9 Le.rfl (((bB.trans (cH _ _)).k9).k9) (d9 [6,7] ?_)))
     refine WD.tk 8 rfl (gw (vs:=kB) (((((aI _ _).trans (cH _ _)).cons _).cons _).subset np) cV rfl rfl rfl (by simp)) (WD.tk 9 rfl (Ok.int (n:=((kk+1:Nat):Int)) (dZ rfl rfl aa) aa) (WD.a1 17 rfl (W.lit (e:=bE) (l:=[root,(gJ R9.1.2)]) (css:=[[iV _],[iV _]]) dG cV ng rfl rfl rfl rfl rfl rfl ⟨⟨rfl,by first|exact uO|exact qd⟩,⟨rfl,by first|exact uO|exact qd⟩,trivial⟩ (fun asV G64 LX asW=>(W.nil (WD.n9 LX (((bB.trans (cH _ _)).k9).k9) (WD.tk 18 rfl (aY (L:=[iV _,lV _ _ _,lV _ _ _,lV _ _ _]) vX vW rfl rfl rfl) (WD.a1 19 rfl (W.box (L:=[iV _,lV _ _ _,lV _ _ _,lV _ _ _]) rfl rfl (fun b65=>(W.nil (WD.n9 Le.rfl ((((bB.trans (cH _ _)).k9).k9).cons _) (d9 [20] ?_)))))))))))))
     refine g9 9 ?_
     have Lt:=fO (u:=(((cw,R9.2):List (Option Nat)×List Bool)).2) (by show 0<(de R9.2).length;have h9:=Ac wc;omega)
     refine W.call (Mp:=wK) (kg (bY.mono LX oh) b65) rfl (ag (ag (ag (bJ ah)))) ?_
     intro v70 G67 acJ MO q68
     refine match q68 with|⟨acK,asX⟩=> ?_
     refine W.perm (ag (ag (ag ah))).symm ?_
     rw [iF Lt]at acK asX
     subst acK
     try dsimp only at asX
     refine g9 13 ?_
     refine WC.sub (M':=((b65,ar 67 [aK (kk+1),lV Vy ([(fQ R9.1.2)]).length Vz,lV (some ⟨asV,0,none⟩) 2 2,lV none 0 0])::((aP,ar 62 [aC ba,aK (aF (((cw,R9.2):List (Option Nat)×List Bool)).2),iV fan,iV leaf])::(acJ++(yJ++(nf++[])))))) ((((bi (bi (bi (bB.trans (cH _ _)) _) _) _).k9).cons _).k9) (WC.perm (M':=((aP,ar 62 [aC ba,aK (aF (((cw,R9.2):List (Option Nat)×List Bool)).2),iV fan,iV leaf])::((b65,ar 67 [aK (kk+1),lV Vy ([(fQ R9.1.2)]).length Vz,lV (some ⟨asV,0,none⟩) 2 2,lV none 0 0])::(acJ++(yJ++(nf++[])))))) ((((ah.cons _).trans ah).cons _).trans ((List.Perm.swap _ _ _).trans (ah.cons _))) (WC.ret ?_))
     refine⟨.inr rfl,[_],⟨rfl,trivial⟩,_,((bi (bi (aI _ _) _) _).k9).k9,?_⟩
     have hE:=lB gn
     have ja:=ax Prod.fst hE
     have eM:=ax Prod.snd hE
     dsimp only at ja eM
     rw [m9]at eM
     have kM:∀j:Nat,R9.2[j]?=some true→(cw.set (aF R9.2) (some b65))[j]?=cw[j]?:=fun j hj=>gK Lt hj
     have xV:=aE.to (FD.mono (LX.trans MO)) (ax (fun s=>[s]) Bg)
     have pQ:=az.cast (asW.mono MO) (show _=([R9.1.1,w9.2]:List (BT kk)).map BT.slot by rw [cA,cA,lG,gC,xM])
     have j8:([R9.1.1,w9.2]:List (BT kk)).flatMap (bf kk)=mB R9.1:=by rw [jx j5,cI,cI,iB,cx]
     exact⟨ax (Value.int .i64) ja.symm,ky.to (eM.trans (kN j5)) ⟨_,_,_,_,_,u6,rfl,asX,bD.kv (kf (show aF R9.2<cw.length by rw [pO];exact Lt)) xV pQ az.nil ((((bD.mono aO pj)).eB kL kM).to j8.symm)⟩⟩
    refine W.lit (e:=bE) (l:=[root,(gJ R9.1.2)]) (css:=[[iV _],[iV _]]) dG cV ng rfl rfl rfl rfl rfl rfl ⟨⟨rfl,by first|exact uO|exact qd⟩,⟨rfl,by first|exact uO|exact qd⟩,trivial⟩ (fun asY G72 Ad acL=>(W.nil (WD.n9 Ad (((bB.trans (cH _ _)).k9).k9) (WD.a1 5 rfl ?_))))
    have q73:=(bD.mono Ad pj).mem _ qf
    refine match q73 with|⟨xT,DC,DD,DE,DF,jM,np,_,_,_,_⟩=> ?_
    rw [bg,gC]at jM
    have lC:=kL _ qf
    rw [bg,gC]at lC
    have xU:(fY kk R9.1.1).lvl=(kk:Int):=kh
    refine W.jy (fun G1 fC dW=>iz (bY.fV (bY.mono Ad oh) fC (eU ((((aI _ _).trans (cH _ _)).cons _).cons _) dW) (iI (i:=1) dW rfl)) _ xT jM lC) qX rfl (W.nil (WD.n9 Le.rfl (((bB.trans (cH _ _)).k9).k9) (d9 [6,7] ?_)))
    refine WD.tk 8 rfl (gw (vs:=kB) (((((aI _ _).trans (cH _ _)).cons _).cons _).subset np) cV rfl rfl rfl (by simp)) (WD.tk 9 rfl (Ok.int (n:=((kk+1:Nat):Int)) (dZ rfl rfl aa) aa) (WD.tk 18 rfl (aY (L:=[iV _,lV _ _ _,lV _ _ _,lV _ _ _]) vX vW rfl rfl rfl) (WD.a1 19 rfl (W.box (L:=[iV _,lV _ _ _,lV _ _ _,lV _ _ _]) rfl rfl (fun b74=>(W.nil (WD.n9 Le.rfl ((((bB.trans (cH _ _)).k9).k9).cons _) (d9 [20] ?_))))))))
    refine g9 9 ?_
    have Lu:=fO (u:=(((cw,R9.2):List (Option Nat)×List Bool)).2) (by show 0<(de R9.2).length;have h9:=Ac wc;omega)
    refine W.call (Mp:=wK) (kg (bY.mono Ad oh) b74) rfl (ag (ag (ag (bJ ah)))) ?_
    intro v79 G76 ajl LY q77
    refine match q77 with|⟨acM,aaN⟩=> ?_
    refine W.perm (ag (ag (ag ah))).symm ?_
    rw [iF Lu]at acM aaN
    subst acM
    try dsimp only at aaN
    refine g9 13 ?_
    refine WC.sub (M':=((b74,ar 67 [aK (kk+1),lV Vy ([(fQ R9.1.2)]).length Vz,lV (some ⟨asY,0,none⟩) 2 2,lV none 0 0])::((aP,ar 62 [aC ba,aK (aF (((cw,R9.2):List (Option Nat)×List Bool)).2),iV fan,iV leaf])::(ajl++(yJ++(nf++[])))))) ((((bi (bi (bi (bB.trans (cH _ _)) _) _) _).k9).cons _).k9) (WC.perm (M':=((aP,ar 62 [aC ba,aK (aF (((cw,R9.2):List (Option Nat)×List Bool)).2),iV fan,iV leaf])::((b74,ar 67 [aK (kk+1),lV Vy ([(fQ R9.1.2)]).length Vz,lV (some ⟨asY,0,none⟩) 2 2,lV none 0 0])::(ajl++(yJ++(nf++[])))))) ((((ah.cons _).trans ah).cons _).trans ((List.Perm.swap _ _ _).trans (ah.cons _))) (WC.ret ?_))
    refine⟨.inr rfl,[_],⟨rfl,trivial⟩,_,((bi (bi (aI _ _) _) _).k9).k9,?_⟩
    have hE:=lB gn
    have ja:=ax Prod.fst hE
    have eM:=ax Prod.snd hE
    dsimp only at ja eM
    rw [m9]at eM
    have kM:∀j:Nat,R9.2[j]?=some true→(cw.set (aF R9.2) (some b74))[j]?=cw[j]?:=fun j hj=>gK Lu hj
    have xV:=aE.to (FD.mono (Ad.trans LY)) (ax (fun s=>[s]) Bg)
    have pQ:=az.cast (acL.mono LY) (show _=([R9.1.1,w9.2]:List (BT kk)).map BT.slot by rw [cA,cA,lG,gC,xM])
    have j8:([R9.1.1,w9.2]:List (BT kk)).flatMap (bf kk)=mB R9.1:=by rw [jx j5,cI,cI,iB,cx]
    exact⟨ax (Value.int .i64) ja.symm,ky.to (eM.trans (kN j5)) ⟨_,_,_,_,_,u6,rfl,aaN,bD.kv (kf (show aF R9.2<cw.length by rw [pO];exact Lu)) xV pQ az.nil ((((bD.mono aO pj)).eB kL kM).to j8.symm)⟩⟩
   refine W.lit (e:=bE) (l:=[root,(gJ R9.1.2)]) (css:=[[iV _],[iV _]]) dG cV ng rfl rfl rfl rfl rfl rfl ⟨⟨rfl,by first|exact uO|exact qd⟩,⟨rfl,by first|exact uO|exact qd⟩,trivial⟩ (fun aj7 G81 VA VB=>(W.nn ?_))
   refine WD.any [5,11] (by kernel_rfl) rfl ⟨WD.ap ?_,WD.ap ?_,trivial⟩
   ·have q82:=(bD.mono VA pj).mem _ qf
    refine match q82 with|⟨xT,DC,DD,DE,DF,jM,np,_,_,_,_⟩=> ?_
    rw [bg,gC]at jM
    have lC:=kL _ qf
    rw [bg,gC]at lC
    have xU:(fY kk R9.1.1).lvl=(kk:Int):=kh
    refine W.jy (fun G1 fC dW=>iz (bY.fV (bY.mono VA oh) fC (eU (((aI _ _).cons _).cons _) dW) (iI (i:=1) dW rfl)) _ xT jM lC) qX rfl (W.nn (d9 [6,7] ?_))
    refine WD.tk 8 rfl (gw (vs:=kB) (((((aI _ _).trans (cH _ _)).cons _).cons _).subset np) cV rfl rfl rfl (by simp)) (WD.tk 9 rfl (Ok.int (n:=((kk+1:Nat):Int)) (dZ rfl rfl aa) aa) (WD.a1 11 rfl (W.re (e:=cy) (l:=[(fQ R9.1.2)]) (css:=[[sV _]]) dL gi wy rfl rfl rfl rfl rfl rfl ⟨rfl,trivial⟩ (fun v83 aAT aAU=>(W.perm (ag (ag ah)).symm ?_)))))
    have q89:=aAU.form
    refine match q89 with|⟨aAV,aAW,aHE⟩=> ?_
    subst aHE
    refine W.nil (WD.n9 Le.rfl (((bB.trans (cH _ _)).k9).k9) (WD.tk 18 rfl (aY (L:=[iV _,lV _ _ _,lV _ _ _,lV _ _ _]) vX vW rfl rfl rfl) (WD.a1 19 rfl (W.box (L:=[iV _,lV _ _ _,lV _ _ _,lV _ _ _]) rfl rfl (fun b90=>(W.nil (WD.n9 Le.rfl ((((bB.trans (cH _ _)).k9).k9).cons _) (d9 [20] ?_))))))))
    refine g9 9 ?_
    have Lv:=fO (u:=(((cw,R9.2):List (Option Nat)×List Bool)).2) (by show 0<(de R9.2).length;have h9:=Ac wc;omega)
    refine W.call (Mp:=wK) (kg (bY.mono VA oh) b90) rfl (ag (ag (ag (bJ ah)))) ?_
    intro v95 G92 aj8 aj9 q93
    refine match q93 with|⟨acN,asZ⟩=> ?_
    refine W.perm (ag (ag (ag ah))).symm ?_
    rw [iF Lv]at acN asZ
    subst acN
    try dsimp only at asZ
    refine g9 13 ?_
    refine WC.sub (M':=((b90,ar 67 [aK (kk+1),lV aAV ([(fQ R9.1.2)]).length aAW,lV (some ⟨aj7,0,none⟩) 2 2,lV none 0 0])::((aP,ar 62 [aC ba,aK (aF (((cw,R9.2):List (Option Nat)×List Bool)).2),iV fan,iV leaf])::(aj8++(aAT++(nf++[])))))) ((((bi (bi (bi (bB.trans (cH _ _)) _) _) _).k9).cons _).k9) (WC.perm (M':=((aP,ar 62 [aC ba,aK (aF (((cw,R9.2):List (Option Nat)×List Bool)).2),iV fan,iV leaf])::((b90,ar 67 [aK (kk+1),lV aAV ([(fQ R9.1.2)]).length aAW,lV (some ⟨aj7,0,none⟩) 2 2,lV none 0 0])::(aj8++(aAT++(nf++[])))))) ((((ah.cons _).trans ah).cons _).trans ((List.Perm.swap _ _ _).trans (ah.cons _))) (WC.ret ?_))
    refine⟨.inr rfl,[_],⟨rfl,trivial⟩,_,((bi (bi (aI _ _) _) _).k9).k9,?_⟩
    have hE:=lB gn
    have ja:=ax Prod.fst hE
    have eM:=ax Prod.snd hE
    dsimp only at ja eM
    rw [m9]at eM
    have kM:∀j:Nat,R9.2[j]?=some true→(cw.set (aF R9.2) (some b90))[j]?=cw[j]?:=fun j hj=>gK Lv hj
    have xV:=aE.to (aAU.mono aj9) (ax (fun s=>[s]) Bg)
    have pQ:=az.cast (VB.mono aj9) (show _=([R9.1.1,w9.2]:List (BT kk)).map BT.slot by rw [cA,cA,lG,gC,xM])
    have j8:([R9.1.1,w9.2]:List (BT kk)).flatMap (bf kk)=mB R9.1:=by rw [jx j5,cI,cI,iB,cx]
    exact⟨ax (Value.int .i64) ja.symm,ky.to (eM.trans (kN j5)) ⟨_,_,_,_,_,u6,rfl,asZ,bD.kv (kf (show aF R9.2<cw.length by rw [pO];exact Lv)) xV pQ az.nil ((((bD.mono aO pj)).eB kL kM).to j8.symm)⟩⟩
   refine W.re (e:=cy) (l:=[(fQ R9.1.2)]) (css:=[[sV _]]) dL gi wy rfl rfl rfl rfl rfl rfl ⟨rfl,trivial⟩ (fun v97 acO RE=>(W.perm (ag (ag ah)).symm ?_))
   have acP:=RE.form
   refine match acP with|⟨ag7,ag8,ag9⟩=> ?_
   subst ag9
   refine W.nil (WD.n9 Le.rfl (((bB.trans (cH _ _)).k9).k9) (WD.a1 5 rfl ?_))
   have acQ:=(bD.mono VA pj).mem _ qf
   refine match acQ with|⟨xT,DC,DD,DE,DF,jM,np,_,_,_,_⟩=> ?_
   rw [bg,gC]at jM
   have lC:=kL _ qf
   rw [bg,gC]at lC
   have xU:(fY kk R9.1.1).lvl=(kk:Int):=kh
   refine W.jy (fun G1 fC dW=>iz (bY.fV (bY.mono VA oh) fC (eU ((((aI _ _).trans (cH _ _)).cons _).cons _) dW) (iI (i:=1) dW rfl)) _ xT jM lC) qX rfl (W.nil (WD.n9 Le.rfl (((bB.trans (cH _ _)).k9).k9) (d9 [6,7] ?_)))
   refine WD.tk 8 rfl (gw (vs:=kB) (((((aI _ _).trans (cH _ _)).cons _).cons _).subset np) cV rfl rfl rfl (by simp)) (WD.tk 9 rfl (Ok.int (n:=((kk+1:Nat):Int)) (dZ rfl rfl aa) aa) (WD.tk 18 rfl (aY (L:=[iV _,lV _ _ _,lV _ _ _,lV _ _ _]) vX vW rfl rfl rfl) (WD.a1 19 rfl (W.box (L:=[iV _,lV _ _ _,lV _ _ _,lV _ _ _]) rfl rfl (fun acR=>(W.nil (WD.n9 Le.rfl ((((bB.trans (cH _ _)).k9).k9).cons _) (d9 [20] ?_))))))))
   refine g9 9 ?_
   have GD:=fO (u:=(((cw,R9.2):List (Option Nat)×List Bool)).2) (by show 0<(de R9.2).length;have h9:=Ac wc;omega)
   refine W.call (Mp:=wK) (kg (bY.mono VA oh) acR) rfl (ag (ag (ag (bJ ah)))) ?_
   intro aQo aQp as0 as1 aHF
   refine match aHF with|⟨VC,aha⟩=> ?_
   refine W.perm (ag (ag (ag ah))).symm ?_
   rw [iF GD]at VC aha
   subst VC
   try dsimp only at aha
   refine g9 13 ?_
   refine WC.sub (M':=((acR,ar 67 [aK (kk+1),lV ag7 ([(fQ R9.1.2)]).length ag8,lV (some ⟨aj7,0,none⟩) 2 2,lV none 0 0])::((aP,ar 62 [aC ba,aK (aF (((cw,R9.2):List (Option Nat)×List Bool)).2),iV fan,iV leaf])::(as0++(acO++(nf++[])))))) ((((bi (bi (bi (bB.trans (cH _ _)) _) _) _).k9).cons _).k9) (WC.perm (M':=((aP,ar 62 [aC ba,aK (aF (((cw,R9.2):List (Option Nat)×List Bool)).2),iV fan,iV leaf])::((acR,ar 67 [aK (kk+1),lV ag7 ([(fQ R9.1.2)]).length ag8,lV (some ⟨aj7,0,none⟩) 2 2,lV none 0 0])::(as0++(acO++(nf++[])))))) ((((ah.cons _).trans ah).cons _).trans ((List.Perm.swap _ _ _).trans (ah.cons _))) (WC.ret ?_))
   refine⟨.inr rfl,[_],⟨rfl,trivial⟩,_,((bi (bi (aI _ _) _) _).k9).k9,?_⟩
   have hE:=lB gn
   have ja:=ax Prod.fst hE
   have eM:=ax Prod.snd hE
   dsimp only at ja eM
   rw [m9]at eM
   have kM:∀j:Nat,R9.2[j]?=some true→(cw.set (aF R9.2) (some acR))[j]?=cw[j]?:=fun j hj=>gK GD hj
   have xV:=aE.to (RE.mono as1) (ax (fun s=>[s]) Bg)
   have pQ:=az.cast (VB.mono as1) (show _=([R9.1.1,w9.2]:List (BT kk)).map BT.slot by rw [cA,cA,lG,gC,xM])
   have j8:([R9.1.1,w9.2]:List (BT kk)).flatMap (bf kk)=mB R9.1:=by rw [jx j5,cI,cI,iB,cx]
   exact⟨ax (Value.int .i64) ja.symm,ky.to (eM.trans (kN j5)) ⟨_,_,_,_,_,u6,rfl,aha,bD.kv (kf (show aF R9.2<cw.length by rw [pO];exact GD)) xV pQ az.nil ((((bD.mono aO pj)).eB kL kM).to j8.symm)⟩⟩
  refine g9 7 ?_
  refine WC.sub (M':=((aP,ar 62 [aC ba,iV root,iV fan,iV leaf])::(wK++(nf++[])))) (((bi (bi (bB.trans (cH _ _)) _) _).k9).cons _) (WC.ret ?_)
  refine⟨.inr rfl,[_],⟨rfl,trivial⟩,_,(bi (aI _ _) _).k9,?_⟩
  have hE:=lB gn
  have ja:=ax Prod.fst hE
  have eM:=ax Prod.snd hE
  dsimp only at ja eM
  rw [m9]at eM
  have z7:R9.1.2=none:=Lh YK fun w hw=>by
    obtain⟨b9,h9⟩:=Du (fY kk w.2) (by rw [jx hw];exact ib _ cD)
    rw [bg]at h9;exact h9.1
  exact⟨ax (Value.int .i64) ja.symm,ky.to (eM.trans (DA z7)) ⟨_,_,_,_,_,ah,gC.symm,oh,(pj).to (Ri z7)⟩⟩
 refine g9 17 ?_
 refine WC.dw (iD.k9.k9) (d9 [0,1,2,3,4,5,6] ?_)
 refine WD.a1 7 rfl ?_
 have gn:nW fan leaf k ⟨ek,ev⟩ ⟨kk,y,st.2⟩=true:=by unfold nW Bl;rw [show qP (pS k kk y) k ⟨ek,ev⟩ leaf=true by simpa using vU];rfl
 have aHG:=asQ gn
 refine match aHG with|⟨acE,Ac⟩=> ?_
 refine W.call (Mp:=((aP,ar 62 [aC ba,iV root,iV fan,iV leaf])::(Ma++Mn))) (Mr:=((b1,ar 86 [iV ek,sV ev.b])::(YI++[]))) (Bj kk (bY.mono Jh cJ) root k ek ev (bD.mono Jh lA) _ Dz c7 (jA k) dI eV m7 xS ee rq Dn acE) rfl (((ag ((gB (bJ ah)).trans (bJ ah))).cons _).trans ((List.Perm.swap _ _ _).trans (ah.cons _))) ?_
 intro aQq aQr aOA aOB aAX
 rw [m9]at aAX
 refine match aAX with|⟨bT,tg,kO,as2,lD,ml,aFK,ahb⟩=> ?_
 subst ahb
 refine W.perm (M':=((aP,ar 62 [aC ba,iV root,iV fan,iV leaf])::(tg++kO))++((b1,ar 86 [iV ek,sV ev.b])::(YI++[]))) (pD _ as2.symm) ?_
 have pO:bT.length=R9.2.length:=by obtain⟨_,_,h9,_⟩:=lD;exact h9
 have asp:R9.2.length≤4096:=by obtain⟨_,_,_,h9,_⟩:=lD;exact h9
 have Du:=ml.Cr
 refine W.perm (M':=((b1,ar 86 [iV ek,sV ev.b])::((aP,ar 62 [aC ba,iV root,iV fan,iV leaf])::(tg++(kO++(YI++[])))))) (((ag ((gB ah).trans ah)).cons _).trans ((List.Perm.swap _ _ _).trans (ah.cons _))).symm (W.nn (d9 [8,9,10,11,12] ?_))
 refine g9 8 ?_
 refine WC.cn (fun Bm YK=> ?_) (fun Bm YK=> ?_)
 ·have asS:∃w,R9.1.2=some w:=by
    cases h9:R9.1.2 with
    |none=>rw [h9]at YK;exact absurd rfl YK
    |some w=>exact⟨w,rfl⟩
  refine match asS with|⟨w9,j5⟩=> ?_
  have Bg:fQ R9.1.2=w9.1:=by rw [j5];rfl
  have xM:gJ R9.1.2=w9.2.slot:=by rw [j5];rfl
  have as3:=Du (fY kk w9.2) (by rw [jx j5];exact ib _ cD)
  refine match as3 with|⟨b8,Nv⟩=> ?_
  rw [bg]at Nv
  have aHH:=Nv.lt
  refine match aHH with|⟨hb7,hb6⟩=> ?_
  have qd:i64 (gJ R9.1.2):=by rw [xM];exact⟨aa,aa⟩
  have wc:=Vn.1 (by rw [j5];rfl)
  have aHI:=MM acE
  refine match aHI with|⟨nw9,w1,w2,w3,w4⟩=> ?_
  have kL:kE R9.2 (mB R9.1):=w1.us eV w2
  have uO:i64 root:=by rw [m7];exact⟨aa,aa⟩
  have qf:fY kk R9.1.1∈mB R9.1:=by unfold mB;exact fK _ cD
  refine WC.seq (WC.dw (bB.k9.k9) (d9 [0,1,2,3,4,10,12,13,14,15,16] ?_))
  refine WD.any [5,11,17] (by kernel_rfl) rfl ⟨WD.ap ?_,WD.ap ?_,WD.ap ?_,trivial⟩
  ·have asE:=ml.mem _ qf
   refine match asE with|⟨xT,DC,DD,DE,DF,jM,np,_,_,_,_⟩=> ?_
   rw [bg,gC]at jM
   have lC:=kL _ qf
   rw [bg,gC]at lC
   have xU:(fY kk R9.1.1).lvl=(kk:Int):=kh
   refine W.jy (fun G1 fC dW=>iz (bY.fV lD fC (eU (((aI _ _).cons _).cons _) dW) (iI (i:=1) dW rfl)) _ xT jM lC) qX rfl (W.nn (d9 [6,7] ?_))
   refine WD.tk 8 rfl (gw (vs:=kB) (((((aI _ _).trans (cH _ _)).cons _).cons _).subset np) cV rfl rfl rfl (by simp)) (WD.tk 9 rfl (Ok.int (n:=((kk+1:Nat):Int)) (dZ rfl rfl aa) aa) ?_)
   refine WD.any [11,17] (by kernel_rfl) rfl ⟨WD.ap ?_,WD.ap ?_,trivial⟩
   ·refine W.re (e:=cy) (l:=[(fQ R9.1.2)]) (css:=[[sV _]]) dL gi wy rfl rfl rfl rfl rfl rfl ⟨rfl,trivial⟩ (fun aQs as4 as5=>(W.perm (ag (ag ah)).symm ?_))
    have aHJ:=as5.form
    refine match aHJ with|⟨as6,as7,aC7⟩=> ?_
    subst aC7
    refine W.nil (WD.n9 Le.rfl (((bB.trans (cH _ _)).k9).k9) (WD.a1 17 rfl (W.lit (e:=bE) (l:=[root,(gJ R9.1.2)]) (css:=[[iV _],[iV _]]) dG cV ng rfl rfl rfl rfl rfl rfl ⟨⟨rfl,by first|exact uO|exact qd⟩,⟨rfl,by first|exact uO|exact qd⟩,trivial⟩ (fun ahc aAY DG GF=>(W.nil (WD.n9 DG (((bB.trans (cH _ _)).k9).k9) (WD.tk 18 rfl (aY (L:=[iV _,lV _ _ _,lV _ _ _,lV _ _ _]) vX vW rfl rfl rfl) (WD.a1 19 rfl (W.box (L:=[iV _,lV _ _ _,lV _ _ _,lV _ _ _]) rfl rfl (fun aka=>(W.nil (WD.n9 Le.rfl ((((bB.trans (cH _ _)).k9).k9).cons _) (d9 [20] ?_)))))))))))))
    refine g9 9 ?_
    have GG:=fO (u:=(((bT,R9.2):List (Option Nat)×List Bool)).2) (by show 0<(de R9.2).length;have h9:=Ac wc;omega)
    refine W.call (Mp:=tg) (kg (bY.mono DG lD) aka) rfl (ag (ag (ag (bJ ah)))) ?_
    intro aQt aQu as8 as9 aHK
    refine match aHK with|⟨VD,ahd⟩=> ?_
    refine W.perm (ag (ag (ag ah))).symm ?_
    rw [iF GG]at VD ahd
    subst VD
    try dsimp only at ahd
    refine g9 13 ?_
    refine WC.sub (M':=((aka,ar 67 [aK (kk+1),lV as6 ([(fQ R9.1.2)]).length as7,lV (some ⟨ahc,0,none⟩) 2 2,lV none 0 0])::((aP,ar 62 [aC ba,aK (aF (((bT,R9.2):List (Option Nat)×List Bool)).2),iV fan,iV leaf])::(as8++(as4++(kO++[])))))) ((((bi (bi (bi (bB.trans (cH _ _)) _) _) _).k9).cons _).k9) (WC.perm (M':=((aP,ar 62 [aC ba,aK (aF (((bT,R9.2):List (Option Nat)×List Bool)).2),iV fan,iV leaf])::((aka,ar 67 [aK (kk+1),lV as6 ([(fQ R9.1.2)]).length as7,lV (some ⟨ahc,0,none⟩) 2 2,lV none 0 0])::(as8++(as4++(kO++[])))))) ((((ah.cons _).trans ah).cons _).trans ((List.Perm.swap _ _ _).trans (ah.cons _))) (WC.ret ?_))
    refine⟨.inr rfl,[_],⟨rfl,trivial⟩,_,((bi (bi (aI _ _) _) _).k9).k9,?_⟩
    have hE:=lB gn
    have ja:=ax Prod.fst hE
    have eM:=ax Prod.snd hE
    dsimp only at ja eM
    rw [m9]at eM
    have kM:∀j:Nat,R9.2[j]?=some true→(bT.set (aF R9.2) (some aka))[j]?=bT[j]?:=fun j hj=>gK GG hj
    have xV:=aE.to (as5.mono (DG.trans as9)) (ax (fun s=>[s]) Bg)
    have pQ:=az.cast (GF.mono as9) (show _=([R9.1.1,w9.2]:List (BT kk)).map BT.slot by rw [cA,cA,lG,gC,xM])
    have j8:([R9.1.1,w9.2]:List (BT kk)).flatMap (bf kk)=mB R9.1:=by rw [jx j5,cI,cI,iB,cx]
    exact⟨ax (Value.int .i64) ja.symm,ky.to (eM.trans (kN j5)) ⟨_,_,_,_,_,u6,rfl,ahd,bD.kv (kf (show aF R9.2<bT.length by rw [pO];exact GG)) xV pQ az.nil ((((bD.mono aO ml)).eB kL kM).to j8.symm)⟩⟩
   refine W.lit (e:=bE) (l:=[root,(gJ R9.1.2)]) (css:=[[iV _],[iV _]]) dG cV ng rfl rfl rfl rfl rfl rfl ⟨⟨rfl,by first|exact uO|exact qd⟩,⟨rfl,by first|exact uO|exact qd⟩,trivial⟩ (fun ata aHL atb aC8=>(W.nn (WD.a1 11 rfl (W.re (e:=cy) (l:=[(fQ R9.1.2)]) (css:=[[sV _]]) dL gi wy rfl rfl rfl rfl rfl rfl ⟨rfl,trivial⟩ (fun aQv atc atd=>(W.perm (ag (ag ah)).symm ?_))))))
   have aHM:=atd.form
   refine match aHM with|⟨ate,atf,aC9⟩=> ?_
   subst aC9
   refine W.nil (WD.n9 Le.rfl (((bB.trans (cH _ _)).k9).k9) (WD.tk 18 rfl (aY (L:=[iV _,lV _ _ _,lV _ _ _,lV _ _ _]) vX vW rfl rfl rfl) (WD.a1 19 rfl (W.box (L:=[iV _,lV _ _ _,lV _ _ _,lV _ _ _]) rfl rfl (fun akb=>(W.nil (WD.n9 Le.rfl ((((bB.trans (cH _ _)).k9).k9).cons _) (d9 [20] ?_))))))))
   refine g9 9 ?_
   have GI:=fO (u:=(((bT,R9.2):List (Option Nat)×List Bool)).2) (by show 0<(de R9.2).length;have h9:=Ac wc;omega)
   refine W.call (Mp:=tg) (kg (bY.mono atb lD) akb) rfl (ag (ag (ag (bJ ah)))) ?_
   intro aQw aQx atg ath aHN
   refine match aHN with|⟨VE,ahe⟩=> ?_
   refine W.perm (ag (ag (ag ah))).symm ?_
   rw [iF GI]at VE ahe
   subst VE
   try dsimp only at ahe
   refine g9 13 ?_
   refine WC.sub (M':=((akb,ar 67 [aK (kk+1),lV ate ([(fQ R9.1.2)]).length atf,lV (some ⟨ata,0,none⟩) 2 2,lV none 0 0])::((aP,ar 62 [aC ba,aK (aF (((bT,R9.2):List (Option Nat)×List Bool)).2),iV fan,iV leaf])::(atg++(atc++(kO++[])))))) ((((bi (bi (bi (bB.trans (cH _ _)) _) _) _).k9).cons _).k9) (WC.perm (M':=((aP,ar 62 [aC ba,aK (aF (((bT,R9.2):List (Option Nat)×List Bool)).2),iV fan,iV leaf])::((akb,ar 67 [aK (kk+1),lV ate ([(fQ R9.1.2)]).length atf,lV (some ⟨ata,0,none⟩) 2 2,lV none 0 0])::(atg++(atc++(kO++[])))))) ((((ah.cons _).trans ah).cons _).trans ((List.Perm.swap _ _ _).trans (ah.cons _))) (WC.ret ?_))
   refine⟨.inr rfl,[_],⟨rfl,trivial⟩,_,((bi (bi (aI _ _) _) _).k9).k9,?_⟩
   have hE:=lB gn
   have ja:=ax Prod.fst hE
   have eM:=ax Prod.snd hE
   dsimp only at ja eM
   rw [m9]at eM
   have kM:∀j:Nat,R9.2[j]?=some true→(bT.set (aF R9.2) (some akb))[j]?=bT[j]?:=fun j hj=>gK GI hj
   have xV:=aE.to (atd.mono ath) (ax (fun s=>[s]) Bg)
   have pQ:=az.cast (aC8.mono ath) (show _=([R9.1.1,w9.2]:List (BT kk)).map BT.slot by rw [cA,cA,lG,gC,xM])
   have j8:([R9.1.1,w9.2]:List (BT kk)).flatMap (bf kk)=mB R9.1:=by rw [jx j5,cI,cI,iB,cx]
   exact⟨ax (Value.int .i64) ja.symm,ky.to (eM.trans (kN j5)) ⟨_,_,_,_,_,u6,rfl,ahe,bD.kv (kf (show aF R9.2<bT.length by rw [pO];exact GI)) xV pQ az.nil ((((bD.mono aO ml)).eB kL kM).to j8.symm)⟩⟩
  ·refine W.re (e:=cy) (l:=[(fQ R9.1.2)]) (css:=[[sV _]]) dL gi wy rfl rfl rfl rfl rfl rfl ⟨rfl,trivial⟩ (fun aHO RF Lw=>(W.perm (ag (ag ah)).symm ?_))
   have ati:=Lw.form
   refine match ati with|⟨RG,RH,RI⟩=> ?_
   subst RI
   refine W.nil (WD.n9 Le.rfl (((bB.trans (cH _ _)).k9).k9) ?_)
   refine WD.any [5,17] (by kernel_rfl) rfl ⟨WD.ap ?_,WD.ap ?_,trivial⟩
   ·have aHP:=ml.mem _ qf
    refine match aHP with|⟨xT,DC,DD,DE,DF,jM,np,_,_,_,_⟩=> ?_
    rw [bg,gC]at jM
    have lC:=kL _ qf
    rw [bg,gC]at lC
    have xU:(fY kk R9.1.1).lvl=(kk:Int):=kh
    refine W.jy (fun G1 fC dW=>iz (bY.fV lD fC (eU ((((aI _ _).trans (cH _ _)).cons _).cons _) dW) (iI (i:=1) dW rfl)) _ xT jM lC) qX rfl (W.nil (WD.n9 Le.rfl (((bB.trans (cH _ _)).k9).k9) (d9 [6,7] ?_)))
    refine WD.tk 8 rfl (gw (vs:=kB) (((((aI _ _).trans (cH _ _)).cons _).cons _).subset np) cV rfl rfl rfl (by simp)) (WD.tk 9 rfl (Ok.int (n:=((kk+1:Nat):Int)) (dZ rfl rfl aa) aa) (WD.a1 17 rfl (W.lit (e:=bE) (l:=[root,(gJ R9.1.2)]) (css:=[[iV _],[iV _]]) dG cV ng rfl rfl rfl rfl rfl rfl ⟨⟨rfl,by first|exact uO|exact qd⟩,⟨rfl,by first|exact uO|exact qd⟩,trivial⟩ (fun atj aQy ahf aDa=>(W.nil (WD.n9 ahf (((bB.trans (cH _ _)).k9).k9) (WD.tk 18 rfl (aY (L:=[iV _,lV _ _ _,lV _ _ _,lV _ _ _]) vX vW rfl rfl rfl) (WD.a1 19 rfl (W.box (L:=[iV _,lV _ _ _,lV _ _ _,lV _ _ _]) rfl rfl (fun akc=>(W.nil (WD.n9 Le.rfl ((((bB.trans (cH _ _)).k9).k9).cons _) (d9 [20] ?_)))))))))))))
    refine g9 9 ?_
    have GJ:=fO (u:=(((bT,R9.2):List (Option Nat)×List Bool)).2) (by show 0<(de R9.2).length;have h9:=Ac wc;omega)
    refine W.call (Mp:=tg) (kg (bY.mono ahf lD) akc) rfl (ag (ag (ag (bJ ah)))) ?_
    intro aQz aHQ atk YL aHR
    refine match aHR with|⟨VF,ahg⟩=> ?_
    refine W.perm (ag (ag (ag ah))).symm ?_
    rw [iF GJ]at VF ahg
    subst VF
    try dsimp only at ahg
    refine g9 13 ?_
    refine WC.sub (M':=((akc,ar 67 [aK (kk+1),lV RG ([(fQ R9.1.2)]).length RH,lV (some ⟨atj,0,none⟩) 2 2,lV none 0 0])::((aP,ar 62 [aC ba,aK (aF (((bT,R9.2):List (Option Nat)×List Bool)).2),iV fan,iV leaf])::(atk++(RF++(kO++[])))))) ((((bi (bi (bi (bB.trans (cH _ _)) _) _) _).k9).cons _).k9) (WC.perm (M':=((aP,ar 62 [aC ba,aK (aF (((bT,R9.2):List (Option Nat)×List Bool)).2),iV fan,iV leaf])::((akc,ar 67 [aK (kk+1),lV RG ([(fQ R9.1.2)]).length RH,lV (some ⟨atj,0,none⟩) 2 2,lV none 0 0])::(atk++(RF++(kO++[])))))) ((((ah.cons _).trans ah).cons _).trans ((List.Perm.swap _ _ _).trans (ah.cons _))) (WC.ret ?_))
    refine⟨.inr rfl,[_],⟨rfl,trivial⟩,_,((bi (bi (aI _ _) _) _).k9).k9,?_⟩
    have hE:=lB gn
    have ja:=ax Prod.fst hE
    have eM:=ax Prod.snd hE
    dsimp only at ja eM
    rw [m9]at eM
    have kM:∀j:Nat,R9.2[j]?=some true→(bT.set (aF R9.2) (some akc))[j]?=bT[j]?:=fun j hj=>gK GJ hj
    have xV:=aE.to (Lw.mono (ahf.trans YL)) (ax (fun s=>[s]) Bg)
    have pQ:=az.cast (aDa.mono YL) (show _=([R9.1.1,w9.2]:List (BT kk)).map BT.slot by rw [cA,cA,lG,gC,xM])
    have j8:([R9.1.1,w9.2]:List (BT kk)).flatMap (bf kk)=mB R9.1:=by rw [jx j5,cI,cI,iB,cx]
    exact⟨ax (Value.int .i64) ja.symm,ky.to (eM.trans (kN j5)) ⟨_,_,_,_,_,u6,rfl,ahg,bD.kv (kf (show aF R9.2<bT.length by rw [pO];exact GJ)) xV pQ az.nil ((((bD.mono aO ml)).eB kL kM).to j8.symm)⟩⟩
   refine W.lit (e:=bE) (l:=[root,(gJ R9.1.2)]) (css:=[[iV _],[iV _]]) dG cV ng rfl rfl rfl rfl rfl rfl ⟨⟨rfl,by first|exact uO|exact qd⟩,⟨rfl,by first|exact uO|exact qd⟩,trivial⟩ (fun atl aQA RJ aDb=>(W.nil (WD.n9 RJ (((bB.trans (cH _ _)).k9).k9) (WD.a1 5 rfl ?_))))
   have aHS:=(bD.mono RJ ml).mem _ qf
   refine match aHS with|⟨xT,DC,DD,DE,DF,jM,np,_,_,_,_⟩=> ?_
   rw [bg,gC]at jM
   have lC:=kL _ qf
   rw [bg,gC]at lC
   have xU:(fY kk R9.1.1).lvl=(kk:Int):=kh
   refine W.jy (fun G1 fC dW=>iz (bY.fV (bY.mono RJ lD) fC (eU ((((aI _ _).trans (cH _ _)).cons _).cons _) dW) (iI (i:=1) dW rfl)) _ xT jM lC) qX rfl (W.nil (WD.n9 Le.rfl (((bB.trans (cH _ _)).k9).k9) (d9 [6,7] ?_)))
   refine WD.tk 8 rfl (gw (vs:=kB) (((((aI _ _).trans (cH _ _)).cons _).cons _).subset np) cV rfl rfl rfl (by simp)) (WD.tk 9 rfl (Ok.int (n:=((kk+1:Nat):Int)) (dZ rfl rfl aa) aa) (WD.tk 18 rfl (aY (L:=[iV _,lV _ _ _,lV _ _ _,lV _ _ _]) vX vW rfl rfl rfl) (WD.a1 19 rfl (W.box (L:=[iV _,lV _ _ _,lV _ _ _,lV _ _ _]) rfl rfl (fun akd=>(W.nil (WD.n9 Le.rfl ((((bB.trans (cH _ _)).k9).k9).cons _) (d9 [20] ?_))))))))
   refine g9 9 ?_
   have GK:=fO (u:=(((bT,R9.2):List (Option Nat)×List Bool)).2) (by show 0<(de R9.2).length;have h9:=Ac wc;omega)
   refine W.call (Mp:=tg) (kg (bY.mono RJ lD) akd) rfl (ag (ag (ag (bJ ah)))) ?_
   intro aQB aQC atm atn aHT
   refine match aHT with|⟨VG,ahh⟩=> ?_
   refine W.perm (ag (ag (ag ah))).symm ?_
   rw [iF GK]at VG ahh
   subst VG
   try dsimp only at ahh
   refine g9 13 ?_
   refine WC.sub (M':=((akd,ar 67 [aK (kk+1),lV RG ([(fQ R9.1.2)]).length RH,lV (some ⟨atl,0,none⟩) 2 2,lV none 0 0])::((aP,ar 62 [aC ba,aK (aF (((bT,R9.2):List (Option Nat)×List Bool)).2),iV fan,iV leaf])::(atm++(RF++(kO++[])))))) ((((bi (bi (bi (bB.trans (cH _ _)) _) _) _).k9).cons _).k9) (WC.perm (M':=((aP,ar 62 [aC ba,aK (aF (((bT,R9.2):List (Option Nat)×List Bool)).2),iV fan,iV leaf])::((akd,ar 67 [aK (kk+1),lV RG ([(fQ R9.1.2)]).length RH,lV (some ⟨atl,0,none⟩) 2 2,lV none 0 0])::(atm++(RF++(kO++[])))))) ((((ah.cons _).trans ah).cons _).trans ((List.Perm.swap _ _ _).trans (ah.cons _))) (WC.ret ?_))
   refine⟨.inr rfl,[_],⟨rfl,trivial⟩,_,((bi (bi (aI _ _) _) _).k9).k9,?_⟩
   have hE:=lB gn
   have ja:=ax Prod.fst hE
   have eM:=ax Prod.snd hE
   dsimp only at ja eM
   rw [m9]at eM
   have kM:∀j:Nat,R9.2[j]?=some true→(bT.set (aF R9.2) (some akd))[j]?=bT[j]?:=fun j hj=>gK GK hj
   have xV:=aE.to (Lw.mono (RJ.trans atn)) (ax (fun s=>[s]) Bg)
   have pQ:=az.cast (aDb.mono atn) (show _=([R9.1.1,w9.2]:List (BT kk)).map BT.slot by rw [cA,cA,lG,gC,xM])
   have j8:([R9.1.1,w9.2]:List (BT kk)).flatMap (bf kk)=mB R9.1:=by rw [jx j5,cI,cI,iB,cx]
   exact⟨ax (Value.int .i64) ja.symm,ky.to (eM.trans (kN j5)) ⟨_,_,_,_,_,u6,rfl,ahh,bD.kv (kf (show aF R9.2<bT.length by rw [pO];exact GK)) xV pQ az.nil ((((bD.mono aO ml)).eB kL kM).to j8.symm)⟩⟩
  refine W.lit (e:=bE) (l:=[root,(gJ R9.1.2)]) (css:=[[iV _],[iV _]]) dG cV ng rfl rfl rfl rfl rfl rfl ⟨⟨rfl,by first|exact uO|exact qd⟩,⟨rfl,by first|exact uO|exact qd⟩,trivial⟩ (fun YM aHU DH ato=>(W.nn ?_))
  refine WD.any [5,11] (by kernel_rfl) rfl ⟨WD.ap ?_,WD.ap ?_,trivial⟩
  ·have aHV:=(bD.mono DH ml).mem _ qf
   refine match aHV with|⟨xT,DC,DD,DE,DF,jM,np,_,_,_,_⟩=> ?_
   rw [bg,gC]at jM
   have lC:=kL _ qf
   rw [bg,gC]at lC
   have xU:(fY kk R9.1.1).lvl=(kk:Int):=kh
   refine W.jy (fun G1 fC dW=>iz (bY.fV (bY.mono DH lD) fC (eU (((aI _ _).cons _).cons _) dW) (iI (i:=1) dW rfl)) _ xT jM lC) qX rfl (W.nn (d9 [6,7] ?_))
   refine WD.tk 8 rfl (gw (vs:=kB) (((((aI _ _).trans (cH _ _)).cons _).cons _).subset np) cV rfl rfl rfl (by simp)) (WD.tk 9 rfl (Ok.int (n:=((kk+1:Nat):Int)) (dZ rfl rfl aa) aa) (WD.a1 11 rfl (W.re (e:=cy) (l:=[(fQ R9.1.2)]) (css:=[[sV _]]) dL gi wy rfl rfl rfl rfl rfl rfl ⟨rfl,trivial⟩ (fun aQD atp atq=>(W.perm (ag (ag ah)).symm ?_)))))
   have aHW:=atq.form
   refine match aHW with|⟨atr,ats,aDc⟩=> ?_
   subst aDc
   refine W.nil (WD.n9 Le.rfl (((bB.trans (cH _ _)).k9).k9) (WD.tk 18 rfl (aY (L:=[iV _,lV _ _ _,lV _ _ _,lV _ _ _]) vX vW rfl rfl rfl) (WD.a1 19 rfl (W.box (L:=[iV _,lV _ _ _,lV _ _ _,lV _ _ _]) rfl rfl (fun ake=>(W.nil (WD.n9 Le.rfl ((((bB.trans (cH _ _)).k9).k9).cons _) (d9 [20] ?_))))))))
   refine g9 9 ?_
   have GL:=fO (u:=(((bT,R9.2):List (Option Nat)×List Bool)).2) (by show 0<(de R9.2).length;have h9:=Ac wc;omega)
   refine W.call (Mp:=tg) (kg (bY.mono DH lD) ake) rfl (ag (ag (ag (bJ ah)))) ?_
   intro aQE aHX att ahj aHY
   refine match aHY with|⟨VH,ahk⟩=> ?_
   refine W.perm (ag (ag (ag ah))).symm ?_
   rw [iF GL]at VH ahk
   subst VH
   try dsimp only at ahk
   refine g9 13 ?_
   refine WC.sub (M':=((ake,ar 67 [aK (kk+1),lV atr ([(fQ R9.1.2)]).length ats,lV (some ⟨YM,0,none⟩) 2 2,lV none 0 0])::((aP,ar 62 [aC ba,aK (aF (((bT,R9.2):List (Option Nat)×List Bool)).2),iV fan,iV leaf])::(att++(atp++(kO++[])))))) ((((bi (bi (bi (bB.trans (cH _ _)) _) _) _).k9).cons _).k9) (WC.perm (M':=((aP,ar 62 [aC ba,aK (aF (((bT,R9.2):List (Option Nat)×List Bool)).2),iV fan,iV leaf])::((ake,ar 67 [aK (kk+1),lV atr ([(fQ R9.1.2)]).length ats,lV (some ⟨YM,0,none⟩) 2 2,lV none 0 0])::(att++(atp++(kO++[])))))) ((((ah.cons _).trans ah).cons _).trans ((List.Perm.swap _ _ _).trans (ah.cons _))) (WC.ret ?_))
   refine⟨.inr rfl,[_],⟨rfl,trivial⟩,_,((bi (bi (aI _ _) _) _).k9).k9,?_⟩
   have hE:=lB gn
   have ja:=ax Prod.fst hE
   have eM:=ax Prod.snd hE
   dsimp only at ja eM
   rw [m9]at eM
   have kM:∀j:Nat,R9.2[j]?=some true→(bT.set (aF R9.2) (some ake))[j]?=bT[j]?:=fun j hj=>gK GL hj
   have xV:=aE.to (atq.mono ahj) (ax (fun s=>[s]) Bg)
   have pQ:=az.cast (ato.mono ahj) (show _=([R9.1.1,w9.2]:List (BT kk)).map BT.slot by rw [cA,cA,lG,gC,xM])
   have j8:([R9.1.1,w9.2]:List (BT kk)).flatMap (bf kk)=mB R9.1:=by rw [jx j5,cI,cI,iB,cx]
   exact⟨ax (Value.int .i64) ja.symm,ky.to (eM.trans (kN j5)) ⟨_,_,_,_,_,u6,rfl,ahk,bD.kv (kf (show aF R9.2<bT.length by rw [pO];exact GL)) xV pQ az.nil ((((bD.mono aO ml)).eB kL kM).to j8.symm)⟩⟩
  refine W.re (e:=cy) (l:=[(fQ R9.1.2)]) (css:=[[sV _]]) dL gi wy rfl rfl rfl rfl rfl rfl ⟨rfl,trivial⟩ (fun aQF atu atv=>(W.perm (ag (ag ah)).symm ?_))
  have aHZ:=atv.form
  refine match aHZ with|⟨atw,atx,aDd⟩=> ?_
  subst aDd
  refine W.nil (WD.n9 Le.rfl (((bB.trans (cH _ _)).k9).k9) (WD.a1 5 rfl ?_))
  have aH0:=(bD.mono DH ml).mem _ qf
  refine match aH0 with|⟨xT,DC,DD,DE,DF,jM,np,_,_,_,_⟩=> ?_
  rw [bg,gC]at jM
  have lC:=kL _ qf
  rw [bg,gC]at lC
  have xU:(fY kk R9.1.1).lvl=(kk:Int):=kh
  refine W.jy (fun G1 fC dW=>iz (bY.fV (bY.mono DH lD) fC (eU ((((aI _ _).trans (cH _ _)).cons _).cons _) dW) (iI (i:=1) dW rfl)) _ xT jM lC) qX rfl (W.nil (WD.n9 Le.rfl (((bB.trans (cH _ _)).k9).k9) (d9 [6,7] ?_)))
  refine WD.tk 8 rfl (gw (vs:=kB) (((((aI _ _).trans (cH _ _)).cons _).cons _).subset np) cV rfl rfl rfl (by simp)) (WD.tk 9 rfl (Ok.int (n:=((kk+1:Nat):Int)) (dZ rfl rfl aa) aa) (WD.tk 18 rfl (aY (L:=[iV _,lV _ _ _,lV _ _ _,lV _ _ _]) vX vW rfl rfl rfl) (WD.a1 19 rfl (W.box (L:=[iV _,lV _ _ _,lV _ _ _,lV _ _ _]) rfl rfl (fun akf=>(W.nil (WD.n9 Le.rfl ((((bB.trans (cH _ _)).k9).k9).cons _) (d9 [20] ?_))))))))
  refine g9 9 ?_
  have GM:=fO (u:=(((bT,R9.2):List (Option Nat)×List Bool)).2) (by show 0<(de R9.2).length;have h9:=Ac wc;omega)
  refine W.call (Mp:=tg) (kg (bY.mono DH lD) akf) rfl (ag (ag (ag (bJ ah)))) ?_
  intro aH1 aH2 ahl ahm aty
  refine match aty with|⟨VI,RK⟩=> ?_
  refine W.perm (ag (ag (ag ah))).symm ?_
  rw [iF GM]at VI RK
  subst VI
  try dsimp only at RK
  refine g9 13 ?_
  refine WC.sub (M':=((akf,ar 67 [aK (kk+1),lV atw ([(fQ R9.1.2)]).length atx,lV (some ⟨YM,0,none⟩) 2 2,lV none 0 0])::((aP,ar 62 [aC ba,aK (aF (((bT,R9.2):List (Option Nat)×List Bool)).2),iV fan,iV leaf])::(ahl++(atu++(kO++[])))))) ((((bi (bi (bi (bB.trans (cH _ _)) _) _) _).k9).cons _).k9) (WC.perm (M':=((aP,ar 62 [aC ba,aK (aF (((bT,R9.2):List (Option Nat)×List Bool)).2),iV fan,iV leaf])::((akf,ar 67 [aK (kk+1),lV atw ([(fQ R9.1.2)]).length atx,lV (some ⟨YM,0,none⟩) 2 2,lV none 0 0])::(ahl++(atu++(kO++[])))))) ((((ah.cons _).trans ah).cons _).trans ((List.Perm.swap _ _ _).trans (ah.cons _))) (WC.ret ?_))
  refine⟨.inr rfl,[_],⟨rfl,trivial⟩,_,((bi (bi (aI _ _) _) _).k9).k9,?_⟩
  have hE:=lB gn
  have ja:=ax Prod.fst hE
  have eM:=ax Prod.snd hE
  dsimp only at ja eM
  rw [m9]at eM
  have kM:∀j:Nat,R9.2[j]?=some true→(bT.set (aF R9.2) (some akf))[j]?=bT[j]?:=fun j hj=>gK GM hj
  have xV:=aE.to (atv.mono ahm) (ax (fun s=>[s]) Bg)
  have pQ:=az.cast (ato.mono ahm) (show _=([R9.1.1,w9.2]:List (BT kk)).map BT.slot by rw [cA,cA,lG,gC,xM])
  have j8:([R9.1.1,w9.2]:List (BT kk)).flatMap (bf kk)=mB R9.1:=by rw [jx j5,cI,cI,iB,cx]
  exact⟨ax (Value.int .i64) ja.symm,ky.to (eM.trans (kN j5)) ⟨_,_,_,_,_,u6,rfl,RK,bD.kv (kf (show aF R9.2<bT.length by rw [pO];exact GM)) xV pQ az.nil ((((bD.mono aO ml)).eB kL kM).to j8.symm)⟩⟩
 refine g9 7 ?_
 refine WC.sub (M':=((aP,ar 62 [aC ba,iV root,iV fan,iV leaf])::(tg++(kO++[])))) (((bi (bi (bB.trans (cH _ _)) _) _).k9).cons _) (WC.ret ?_)
 refine⟨.inr rfl,[_],⟨rfl,trivial⟩,_,(bi (aI _ _) _).k9,?_⟩
 have hE:=lB gn
 have ja:=ax Prod.fst hE
 have eM:=ax Prod.snd hE
 dsimp only at ja eM
 rw [m9]at eM
 have z7:R9.1.2=none:=Lh YK fun w hw=>by
   obtain⟨b9,h9⟩:=Du (fY kk w.2) (by rw [jx hw];exact ib _ cD)
   rw [bg]at h9;exact h9.1
 exact⟨ax (Value.int .i64) ja.symm,ky.to (eM.trans (DA z7)) ⟨_,_,_,_,_,ah,gC.symm,lD,(ml).to (Ri z7)⟩⟩

theorem ano{st:List (Option Nat)×List Bool}(cJ:bY fu 60 4 3 106 ba G st Ma){root:Int}{leaf:Int}(k:af){y:BT 0}(lA:bD 67 9 st.1 (bf 0 y) G Mn)(hT:mC fan leaf (⟨0,y,st.2⟩:k8))(m7:root=y.slot)(ee:k.b.size≤16):
    Fc Tryz.prog 28 [aC aP,sV k.b] G ((aP,ar 62 [aC ba,iV root,iV fan,iV leaf])::(Ma++(Mn))) (fun v G' M'=>v=.tuple #[]∧ky (fun ba=>bY fu 60 4 3 106 ba) 62 67 9 aP fan leaf G' (qe fan leaf k (⟨0,y,st.2⟩:k8)) M'):=by
 have dI:=hT.ok
 have eV:=hT.us
 have iR:=hT.nd
 have xS:=hT.kd
 have hkk:=hT.high
 dsimp only at dI eV iR hkk
 have Fz:=hT.len
 dsimp only at Fz
 have RB:da st.2 y.slot=true:=by have h9:=eV _ cD;rw [bg]at h9;exact h9
 obtain⟨aAO,aAP,aAQ⟩:=j9 RB
 have eG:0=0∨2≤(if 0=0 then(0:Int)else 2):=by first|exact .inl rfl|(right;rw [if_neg aa];omega)
 have Ln:=Jd (fan:=fan) (leaf:=leaf) (key:=k) xS.1 xS.2.2.1 ee 0 st.2 eG c7 (jA k) dI
 have hrd:=Dm (fan:=fan) (leaf:=leaf) (key:=k) xS.1 xS.2.2.1 ee 0 st.2 eG c7 (jA k) dI eV iR
 obtain⟨R9,m9⟩:∃R,jU fan leaf k 0 y st.2=R:=⟨_,rfl⟩
 rw [m9]at Ln hrd
 obtain⟨g1,g2,g3⟩:=Ln
 obtain⟨asI,d1,p1⟩:=hrd
 have VJ:=p1.nodup_iff.1 iR
 rw [kX]at VJ
 have kL:kE R9.2 (bf 0 R9.1):=mh.2 fun s hs=>(d1.iff s).2 ⟨mh.1 eV s (p1.mem_iff.2 (fK _ hs)),fun h9=>VJ.2.2 s hs s h9 rfl⟩
 have hE9:qe fan leaf k ⟨0,y,st.2⟩=tf 0 R9.1 R9.2:=by unfold qe;rw [m9]
 have gC:R9.1.slot=root:=by rw [g3,m7]
 have VK:da R9.2 root=true:=by have h9:=kL _ cD;rw [bg,gC]at h9;exact h9
 obtain⟨aH3,aH4,aH5⟩:=j9 VK
 have aH6:R9.2.length≤4096:=by rw [d1.len];exact Fz
 have uO:i64 root:=⟨aa,aa⟩
 refine Fc.go [] Tryz.func28 Tryz.ntmps28 rfl (fun w0=>(WC.perm (M':=((aP,ar 62 [aC ba,iV root,iV fan,iV leaf])::(Ma++(Mn++[])))) (by simp) (g9 8 ?_)))
 refine W.call (Mp:=((aP,ar 62 [aC ba,iV root,iV fan,iV leaf])::(Ma++Mn))) (Mr:=[]) (Bk 0 cJ root k lA _ Dz c7 (jA k) dI eG eV iR m7 xS ee) rfl ((((gB ah).trans ah).cons _).trans ah) ?_
 intro v5 G2 H6 lJ q3
 rw [m9]at q3
 refine match q3 with|⟨aFL,atz,atA,aDe,atB,atC,aNz,CI⟩=> ?_
 subst CI
 refine W.perm (M':=((aP,ar 62 [aC ba,iV root,iV fan,iV leaf])::(atz++atA))++[]) (pD _ aDe.symm) (W.perm (M':=((aP,ar 62 [aC ba,iV root,iV fan,iV leaf])::(atz++(atA++[])))) ((((gB ah).trans ah).cons _).trans ah).symm (g9 9 ?_))
 have q7:=atC.mem _ cD
 refine match q7 with|⟨xT,DC,DD,DE,DF,jM,np,_,_,acS,_⟩=> ?_
 rw [bg,gC]at jM
 have q9:=acS.form
 refine match q9 with|⟨aH7,aH8,GN⟩=> ?_
 subst GN
 have xU:(fY 0 R9.1).lvl=((0:Nat):Int):=kh
 refine W.jy (fun G1 fC dW=>iz (bY.fV atB fC (eU ((aI _ _).cons _) dW) (iI (i:=0) dW rfl)) _ xT jM VK) qX rfl (g9 8 ?_)
 refine W.ok (gw (vs:=kB) ((((aI _ _).trans (cH _ _)).cons _).subset np) cV rfl rfl rfl (by simp)) (g9 2 ?_)
 refine W.sd 23 (fun AJ wA=> ?_) (fun AJ wA=> ?_)
 ·exact absurd wA aa
 refine g9 11 ?_
 refine⟨.inl rfl,[],trivial,_,(bi (aI _ _) _).k9,?_⟩
 exact⟨rfl,ky.to hE9 ⟨_,_,_,_,_,ah,gC.symm,atB,atC⟩⟩

theorem anp{st:List (Option Nat)×List Bool}(cJ:bY fu 60 4 3 106 ba G st Ma){root:Int}{leaf:Int}(k:af){y:BT (kk+1)}(lA:bD 67 9 st.1 (bf (kk+1) y) G Mn)(hT:mC fan leaf (⟨(kk+1),y,st.2⟩:k8))(m7:root=y.slot)(ee:k.b.size≤16):
    Fc Tryz.prog 28 [aC aP,sV k.b] G ((aP,ar 62 [aC ba,iV root,iV fan,iV leaf])::(Ma++(Mn))) (fun v G' M'=>v=.tuple #[]∧ky (fun ba=>bY fu 60 4 3 106 ba) 62 67 9 aP fan leaf G' (qe fan leaf k (⟨(kk+1),y,st.2⟩:k8)) M'):=by
 have dI:=hT.ok
 have eV:=hT.us
 have iR:=hT.nd
 have xS:=hT.kd
 have hkk:=hT.high
 dsimp only at dI eV iR hkk
 have Fz:=hT.len
 dsimp only at Fz
 have RB:da st.2 y.slot=true:=by have h9:=eV _ cD;rw [bg]at h9;exact h9
 obtain⟨aAO,aAP,aAQ⟩:=j9 RB
 have eG:(kk+1)=0∨2≤(if(kk+1)=0 then(0:Int)else 2):=by first|exact .inl rfl|(right;rw [if_neg aa];omega)
 have Ln:=Jd (fan:=fan) (leaf:=leaf) (key:=k) xS.1 xS.2.2.1 ee (kk+1) st.2 eG c7 (jA k) dI
 have hrd:=Dm (fan:=fan) (leaf:=leaf) (key:=k) xS.1 xS.2.2.1 ee (kk+1) st.2 eG c7 (jA k) dI eV iR
 obtain⟨R9,m9⟩:∃R,jU fan leaf k (kk+1) y st.2=R:=⟨_,rfl⟩
 rw [m9]at Ln hrd
 obtain⟨g1,g2,g3⟩:=Ln
 obtain⟨asI,d1,p1⟩:=hrd
 have VJ:=p1.nodup_iff.1 iR
 rw [kX]at VJ
 have kL:kE R9.2 (bf (kk+1) R9.1):=mh.2 fun s hs=>(d1.iff s).2 ⟨mh.1 eV s (p1.mem_iff.2 (fK _ hs)),fun h9=>VJ.2.2 s hs s h9 rfl⟩
 have hE9:qe fan leaf k ⟨(kk+1),y,st.2⟩=tf (kk+1) R9.1 R9.2:=by unfold qe;rw [m9]
 have gC:R9.1.slot=root:=by rw [g3,m7]
 have VK:da R9.2 root=true:=by have h9:=kL _ cD;rw [bg,gC]at h9;exact h9
 obtain⟨aH3,aH4,aH5⟩:=j9 VK
 have aH6:R9.2.length≤4096:=by rw [d1.len];exact Fz
 have uO:i64 root:=⟨aa,aa⟩
 refine Fc.go [] Tryz.func28 Tryz.ntmps28 rfl (fun w0=>(WC.perm (M':=((aP,ar 62 [aC ba,iV root,iV fan,iV leaf])::(Ma++(Mn++[])))) (by simp) (g9 8 ?_)))
 refine W.call (Mp:=((aP,ar 62 [aC ba,iV root,iV fan,iV leaf])::(Ma++Mn))) (Mr:=[]) (Bk (kk+1) cJ root k lA _ Dz c7 (jA k) dI eG eV iR m7 xS ee) rfl ((((gB ah).trans ah).cons _).trans ah) ?_
 intro v14 G11 ajd Fi q12
 rw [m9]at q12
 refine match q12 with|⟨ahn,YN,akg,ayK,Om,On,aH9,z4⟩=> ?_
 subst z4
 refine W.perm (M':=((aP,ar 62 [aC ba,iV root,iV fan,iV leaf])::(YN++akg))++[]) (pD _ ayK.symm) (W.perm (M':=((aP,ar 62 [aC ba,iV root,iV fan,iV leaf])::(YN++(akg++[])))) ((((gB ah).trans ah).cons _).trans ah).symm (g9 9 ?_))
 have RC:=On.mem _ cD
 refine match RC with|⟨xT,DC,DD,DE,DF,jM,np,_,_,acS,_⟩=> ?_
 rw [bg,gC]at jM
 have Ny:=acS.form
 refine match Ny with|⟨aH7,aH8,acy⟩=> ?_
 subst acy
 have xU:(fY (kk+1) R9.1).lvl=(((kk+1):Nat):Int):=kh
 have hKr:(fY (kk+1) R9.1).K.length=(ay R9.1).length:=dt ..
 refine W.jy (fun G1 fC dW=>iz (bY.fV Om fC (eU ((aI _ _).cons _) dW) (iI (i:=0) dW rfl)) _ xT jM VK) qX rfl (g9 8 ?_)
 refine W.ok (gw (vs:=kB) ((((aI _ _).trans (cH _ _)).cons _).subset np) cV rfl rfl rfl (by simp)) (g9 2 ?_)
 refine W.sd 23 (fun AJ wA=> ?_) (fun AJ wA=> ?_)
 ·refine g9 7 ?_
  refine W.ok (gw (vs:=AD) ((((aI _ _).trans (cH _ _)).cons _).subset np) HJ rfl rfl rfl (by simp)) (g9 7 ?_)
  refine WC.cd (fun ye Lx=> ?_) (fun ye Lx=> ?_)
  ·refine WC.seq (WC.dw iD.k9 (d9 [0,1,2,3,4,5,6,7] ?_))
   refine WD.a1 8 rfl (W.call (Mp:=YN) (akh Om root uO) rfl (ag ah) ?_)
   intro v22 G19 CN pZ DI
   refine match DI with|⟨_,atD⟩=> ?_
   refine W.perm (ag ah).symm ?_
   rw [CZ (st:=(ahn,R9.2)) VK]at atD
   try dsimp only at atD
   refine W.nn (g9 7 ?_)
   refine W.ok (gw (vs:=AD) ((((aI _ _).trans (cH _ _)).cons _).subset np) HJ rfl rfl rfl (by simp)) ((acS.mono pZ).a2 (i:=0) aa (fun aQG aQH=>(W.ok (bd (i:=0) dG cV (acS.mono pZ) rfl rfl ⟨aa,aa⟩) (g9 4 ?_))))
   refine match (bD.Rg (bD.mono pZ On))with|⟨dM,Dp,Dq,Dr,jV,B_n,uo,z2,fk,eX,fH,acj⟩=> ?_
   subst uo
   refine W.perm (M':=((dM,ar 67 [aK (kk+1),Dp,Dq,Dr])::((aP,ar 62 [aC ba,iV ((fY (kk+1) R9.1).K[0]'aa),iV fan,iV leaf])::(CN++(jV++(B_n++[])))))) (nV (pmB ((gB ah).cons _))).symm (W.sub (M':=((aP,ar 62 [aC ba,iV ((fY (kk+1) R9.1).K[0]'aa),iV fan,iV leaf])::(CN++(B_n++[])))) (((bi ((bi bB _).trans (cH _ _)) _).k9).cons _) (W.nil ?_))
   refine⟨.inl rfl,[],trivial,_,(bi (aI _ _) _).k9,?_⟩
   have Cm:(ay R9.1).length=1:=by omega
   have hgk:(ay R9.1).getD 0 default=(ay R9.1)[0]'aa:=fw aa
   have j8:(ay R9.1).flatMap (bf kk)=bf kk ((ay R9.1).getD 0 default):=(ax (fun l=>List.flatMap (bf kk) l) (ann Cm)).trans (by show bf kk _++[]=_;rw [cx])
   have Ip:=VJ.1
   rw [kD,cA,nN,bg]at Ip
   have aIa:∀n∈(ay R9.1).flatMap (bf kk),n.slot.toNat≠root.toNat:=fun n hn e=>by
     have h9:=agP kL (dk _ hn:n∈bf (kk+1) R9.1)
     exact Ip.1 (by rw [gC,show root=n.slot by omega];exact kn hn)
   exact⟨rfl,ky.to (hE9.trans ((if_pos Cm).trans (by rw [gC]))) ⟨_,_,_,_,_,ah,((jX BT.slot (l:=ay R9.1) (i:=0) (h:=by rw [dt];omega)).trans (ax BT.slot hgk.symm)),atD,(acj.ne aIa).to j8⟩⟩
  refine g9 1 ?_
  refine⟨.inl rfl,[],trivial,_,(bi (aI _ _) _).k9,?_⟩
  have atE:¬(ay R9.1).length=1:=by omega
  exact⟨rfl,ky.to (hE9.trans (if_neg atE)) ⟨_,_,_,_,_,ah,gC.symm,Om,On⟩⟩
 refine g9 11 ?_
 refine⟨.inl rfl,[],trivial,_,(bi (aI _ _) _).k9,?_⟩
 have atE:¬(ay R9.1).length=1:=by omega
 exact⟨rfl,ky.to (hE9.trans (if_neg atE)) ⟨_,_,_,_,_,ah,gC.symm,Om,On⟩⟩

end Go.Proofs.YthhpfadbojfdnaaGreat

namespace Go.Fw
open Go Go.RowKit
abbrev k8.rows (t:k8):List aG:=BT.rows t.k t.y
def Ae (o:bx):bG:=aD.on (o.msg 1) o.key
def th (fan leaf:Int) (ps:List aG) (t:k8):k8:=ps.foldl (fun t p=>qe fan leaf p.key t) t
def tj (fan leaf:Int) (o:bx) (t:k8):X7×k8:=
 if ¬o.R then(⟨3,false,af.nil,[]⟩,t)
 else if o.kind=5 then(⟨0,(bz t.rows o.key).isSome,(bz t.rows o.key).getD af.nil,[]⟩,t)
 else if o.kind=6 then(⟨0,false,af.nil,fe t.rows o.span o.lim⟩,t)
 else if o.kind=4 then(⟨0,false,af.nil,[]⟩,th fan leaf (fe t.rows o.span 262144) t)
 else if o.kind=3 then(⟨0,false,af.nil,[]⟩,qe fan leaf o.key t)
 else(⟨(yI fan leaf o.key (Ae o) t).1,false,af.nil,[]⟩,(yI fan leaf o.key (Ae o) t).2)
section
variable {fan leaf:Int} {o:bx} {t:k8}
theorem YO(h:¬o.R):tj fan leaf o t=(⟨3,false,af.nil,[]⟩,t):=if_pos h
theorem YP(h:o.R)(h5:o.kind=5):tj fan leaf o t=(⟨0,(bz t.rows o.key).isSome,(bz t.rows o.key).getD af.nil,[]⟩,t):=by rw [tj,if_neg (by simpa using h),if_pos h5]
theorem YQ(h:o.R)(h6:o.kind=6):tj fan leaf o t=(⟨0,false,af.nil,fe t.rows o.span o.lim⟩,t):=by rw [tj,if_neg (by simpa using h),if_neg aa,if_pos h6]
theorem YR(h:o.R)(h4:o.kind=4):tj fan leaf o t=(⟨0,false,af.nil,[]⟩,th fan leaf (fe t.rows o.span 262144) t):=by rw [tj,if_neg (by simpa using h),if_neg aa,if_neg aa,if_pos h4]
theorem YS(h:o.R)(h3:o.kind=3):tj fan leaf o t=(⟨0,false,af.nil,[]⟩,qe fan leaf o.key t):=by rw [tj,if_neg (by simpa using h),if_neg aa,if_neg aa,if_neg aa,if_pos h3]
theorem YT(h:o.R)(h5:¬o.kind=5)(h6:¬o.kind=6)(h4:¬o.kind=4)(h3:¬o.kind=3):tj fan leaf o t=(⟨(yI fan leaf o.key (Ae o) t).1,false,af.nil,[]⟩,(yI fan leaf o.key (Ae o) t).2):=by rw [tj,if_neg (by simpa using h),if_neg h5,if_neg h6,if_neg h4,if_neg h3]
theorem xF.to{G:GH}{cs:List Value}{a b:X7}(h:xF G cs a)(e:b=a):xF G cs b:=e▸h
theorem aho{ps:List aG}{j:Nat}(hj:j<ps.length):th fan leaf (ps.take (j+1)) t=qe fan leaf ps[j].key (th fan leaf (ps.take j) t):=by
 unfold th
 rw [iA hj,Eh];rfl
theorem MP:∀ {l:List aG},gW l→∀k:af,(l.filter fun p=>p.key.lt k)++(l.filter fun p=>k.lt p.key)=l.filter fun p=> !(decide (p.key=k))
 |[],_,_=>rfl
 |a::l,h,k=>by
  have h1:∀b∈l,a.key.lt b.key=true:=(rN.1 h).1
  have h2:gW l:=(rN.1 h).2
  by_cases ha:a.key.lt k=true
  ·have hk:k.lt a.key=false:=af.lt_asymm ha
   have ig:a.key≠k:=RL ha
   rw [oz (p:=fun p:aG=>p.key.lt k) ha,nM (p:=fun p:aG=>k.lt p.key) (by rw [hk];simp),oz (p:=fun p:aG=> !(decide (p.key=k))) (by simp [ig]),pC,MP h2 k]
  ·have ha2:a.key.lt k=false:=by simpa using ha
   have h3:∀b∈l,k.lt b.key=true:=fun b hb=>af.lt_of_le_of_lt ha2 (h1 b hb)
   have e1:(l.filter fun p=>p.key.lt k)=[]:=Bn fun b hb=>af.lt_asymm (h3 b hb)
   have e2:(l.filter fun p=>k.lt p.key)=l:=wZ fun b hb=>h3 b hb
   have e3:(l.filter fun p=> !(decide (p.key=k)))=l:=wZ fun b hb=>by
    have:b.key≠k:=fun e=>RL (h3 b hb) e.symm
    simp [this]
   rw [nM (p:=fun p:aG=>p.key.lt k) (by rw [ha2];simp),e1,iU]
   by_cases he:a.key=k
   ·rw [nM (p:=fun p:aG=>k.lt p.key) (by rw [he,af.lt_irrefl];simp),nM (p:=fun p:aG=> !(decide (p.key=k))) (by simp [he]),e2,e3]
   ·have:k.lt a.key=true:=ahp ha2 (fun e=>he e.symm)
    rw [oz (p:=fun p:aG=>k.lt p.key) this,oz (p:=fun p:aG=> !(decide (p.key=k))) (by simp [he]),e2,e3]
variable {l:List aG}
theorem Ly(h:gW l)(k:af):bW l k pz=l.filter fun p=> !(decide (p.key=k)):=by
 have tU:bG.apply pz (bz l k)=none:=by simp [bG.apply,pz]
 rw [j3,tU]
 show(l.filter _++[])++_=_
 rw [cx,MP h k]
theorem RM:∀ {ps:List aG} {t:k8},mC fan leaf t→(∀p∈ps,p.key.b.size≤16)→mC fan leaf (th fan leaf ps t)∧(th fan leaf ps t).rows=t.rows.filter fun p=> !(ps.any fun q=>decide (p.key=q.key))
 |[],t,h,_=>⟨h,(wZ fun p _=>rfl).symm⟩
 |q::ps,t,h,hk=>by
  obtain⟨a1,a2⟩:=aj4 h (hk q (tO ..))
  obtain⟨b1,b2⟩:=RM a1 fun p hp=>hk p (dk _ hp)
  refine⟨b1,?_⟩
  show(th fan leaf ps (qe fan leaf q.key t)).rows=_
  rw [b2,show(qe fan leaf q.key t).rows=_ from a2,Ly h.rows.o8,tM]
  congr 1
  funext p
  rw [List.any_cons,Bool.not_or,Hv]
theorem VL{α:Type}{f:α→List aG}{g:α→List c6} :∀ {l:List α},(∀c∈l,(f c).length≤64*(g c).length)→(l.flatMap f).length≤64*(l.flatMap g).length
 |[],_=>kW _
 |c::l,h=>by
  have h1:=h c (tO ..)
  have h2:=VL (l:=l) fun d hd=>h d (dk _ hd)
  rw [cI,cI,bP,bP]
  omega
theorem acT(hl:leaf≤64):∀ {k:Nat} {y:BT k} {lo:Int} {s:Span},s.norm=s→BT.ok fan leaf k lo (oV fan leaf k) s y→(BT.rows k y).length≤64*(bf k y).length
 |0,y,lo,s,hs,h=>by
  have h1:((di y).length:Int)≤leaf:=h.1.2
  show(di y).length≤64*1
  omega
 |k+1,y,lo,s,hs,h=>by
  have hlen:=h.2.len
  have:((ay y).flatMap (BT.rows k)).length≤64*((ay y).flatMap (bf k)).length:=VL fun c hc=>by
   obtain⟨i,hi,rfl⟩:=cj hc
   obtain⟨v,_,v1,_,v3,_⟩:=h.2.at hs (i:=i) aa
   exact acT hl v1 v3
  rw [kD,jo]
  show((ay y).flatMap (BT.rows k)).length≤_
  omega
theorem mC.Qz{t:k8}(h:mC fan leaf t):t.rows.length≤262144:=by
 have h1:=acT h.kd.2.2.2 c7 h.ok
 have h2:=h.count
 have h3:=qO t.u
 have h4:=h.len
 show(BT.rows t.k t.y).length≤262144
 omega
theorem VM(h:l.length≤262144){s:Span} :fe l s 262144=l.filter fun p=>s.has p.key:=by
 unfold fe
 refine fI ?_
 have:=fy (fun p:aG=>s.has p.key) l
 show _≤262144
 omega
theorem atF{t:k8}(h:mC fan leaf t){s:Span} :mC fan leaf (th fan leaf (fe t.rows s 262144) t)∧(th fan leaf (fe t.rows s 262144) t).rows=t.rows.filter fun p=> !s.has p.key:=by
 rw [VM h.Qz]
 obtain⟨a1,a2⟩:=RM (ps:=t.rows.filter fun p=>s.has p.key) h fun p hp=>((dr.1 h.rows).1 p (eO.1 hp).1).1
 refine⟨a1,a2.trans (qA fun p hp=> ?_)⟩
 congr 1
 cases hs:s.has p.key
 ·refine List.any_eq_false.2 fun q hq=> ?_
  have:=(eO.1 hq).2
  simp only [fJ]
  intro e
  rw [e,this]at hs;cases hs
 ·exact List.any_eq_true.2 ⟨p,eO.2 ⟨hp,hs⟩,by simp⟩
theorem aki(h:o.R)(h4:¬o.kind=4)(h6:o.kind≤4):Ae o=if 3≤o.kind then⟨3,af.nil⟩else⟨o.kind,o.val⟩:=by
 have hk:o.key.b.size<140737488355328:=by have:=h.1.2.2.1;omega
 have hs:(o.msg 1).span.has o.key=true:=by
  rw [aD.span,if_neg (show ¬(o.msg 1).kind=4 from h4)]
  show Span.has ⟨o.key,o.key.next,false⟩ o.key=true
  rw [mW hk];simp
 have h1:=h.1.1
 unfold Ae aD.on
 rw [hs]
 show(if true=false∨o.kind<1∨4<o.kind then _ else _)=_
 rw [if_neg (by simp;omega)]
 rfl
theorem acU(h:o.R)(h4:¬o.kind=4)(l:List aG):takeN l (o.msg 1)=bW l o.key (Ae o):=by
 unfold takeN
 rw [if_neg (show ¬(o.msg 1).kind=4 from h4)]
 rfl
theorem ahq(h:mC fan leaf t):mC fan leaf (tj fan leaf o t).2∧((tj fan leaf o t=(⟨4,false,af.nil,[]⟩,t)∧o.R∧(o.kind=1∨o.kind=2)∧nW fan leaf o.key (Ae o) t=false)∨((tj fan leaf o t).1=(qU t.rows o).2∧(tj fan leaf o t).2.rows=(qU t.rows o).1)):=by
 by_cases hR:o.R
 ·have wD:=hR.1.1
  have hk6:=hR.1.2.1
  have ee:=hR.1.2.2.1
  by_cases h5:o.kind=5
  ·rw [YP hR h5,arW hR h5];exact⟨h,.inr ⟨rfl,rfl⟩⟩
  ·by_cases h6:o.kind=6
   ·rw [YQ hR h6,arX hR h6];exact⟨h,.inr ⟨rfl,rfl⟩⟩
   ·rw [agA hR h5 h6]
    by_cases h4:o.kind=4
    ·rw [YR hR h4]
     obtain⟨a1,a2⟩:=atF h (s:=o.span)
     refine⟨a1,.inr ⟨rfl,a2.trans ?_⟩⟩
     unfold takeN
     rw [if_pos (show(o.msg 1).kind=4 from h4)]
     have:(o.msg 1).span=o.span:=by unfold aD.span bx.span;rw [if_pos (show(o.msg 1).kind=4 from h4),if_pos (.inl h4)];rfl
     rw [this]
    ·have hE:=aki hR h4 aa
     by_cases h3:o.kind=3
     ·rw [YS hR h3]
      obtain⟨a1,a2⟩:=aj4 h ee
      refine⟨a1,.inr ⟨rfl,a2.trans ?_⟩⟩
      rw [acU hR h4,hE,if_pos aa];rfl
     ·rw [YT hR h5 h6 h4 h3]
      rw [if_neg aa]at hE
      have tG:(Ae o).kind=1∨(Ae o).kind=2:=by rw [hE];show o.kind=1∨o.kind=2;omega
      cases hr:nW fan leaf o.key (Ae o) t
      ·rw [Ol hr]
       exact⟨h,.inl ⟨rfl,hR,aa,rfl⟩⟩
      ·have hg:xJ (Ae o):=fun x hx=>by
        unfold bG.apply
        rcases tG with h9|h9
        ·rw [if_pos h9];rfl
        ·rw [if_neg aa,if_neg aa,if_pos h9];rfl
       obtain⟨a1,a2⟩:=ayI h hg tG ee (by rw [hE];exact hR.1.2.2.2.2) hr
       rw [lB hr]
       exact⟨a1,.inr ⟨rfl,a2.trans (acU hR h4 _).symm⟩⟩
 ·rw [YO hR,arV hR];exact⟨h,.inr ⟨rfl,rfl⟩⟩
theorem anq(hR:o.R)(h4:¬o.kind=4)(h3:¬o.kind=3)(h5:o.kind≤4):xJ (Ae o)∧((Ae o).kind=1∨(Ae o).kind=2)∧(Ae o).val.b.size≤16:=by
 have wD:=hR.1.1
 have hE:=aki hR h4 h5
 rw [if_neg aa]at hE
 have tG:(Ae o).kind=1∨(Ae o).kind=2:=by rw [hE];show o.kind=1∨o.kind=2;omega
 refine⟨fun x hx=> ?_,tG,by rw [hE];exact hR.1.2.2.2.2⟩
 unfold bG.apply
 rcases tG with h9|h9
 ·rw [if_pos h9];rfl
 ·rw [if_neg aa,if_neg aa,if_pos h9];rfl
end
end Go.Fw
namespace Go.Proofs.YthhpfadbojfdnaaGreat
open Go Go.Fw Go.RowKit
attribute [local irreducible] Ok W WC
variable {G:GH} {Ms:MH} {aP:Nat} {fan:Int} {t:k8}
theorem anr{leaf:Int}(h:ky (fun ba=>bY fu 60 4 3 106 ba) 62 67 9 aP fan leaf G t Ms):∃ba root cells,root=t.y.slot∧∀G1,Le G G1→(∀p∈Ms,G1 p.1=some p.2)→yh aP ba root fan leaf cells t.u G1∧Nz cells (bf t.k t.y) G1:=by
  obtain⟨ba,root,cells,Ma,Mn,hP,hr,ha,hn⟩:=h
  refine⟨ba,root,cells,hr,fun G1 h1 h2=> ?_⟩
  have h3:=fun(p:Nat×Obj) hp=>h2 p (hP.mem_iff.2 hp)
  exact⟨bY.fV ha h1 (fun p hp=>h3 p (dk _ (fK _ hp))) (h3 _ (tO ..)),hn.fV h1 fun p hp=>h3 p (dk _ (ib _ hp))⟩
theorem bpM.mono{G:GH}{aP:Nat}{fan leaf:Int}{t:k8}{Ms:MH}{G':GH}(hl:Le G G')(h:ky (fun ba=>bY fu 60 4 3 106 ba) 62 67 9 aP fan leaf G t Ms):ky (fun ba=>bY fu 60 4 3 106 ba) 62 67 9 aP fan leaf G' t Ms:=by
  obtain⟨ba,root,cells,Ma,Mn,hP,hr,ha,hn⟩:=h
  exact⟨ba,root,cells,Ma,Mn,hP,hr,ha.mono hl,hn.mono hl⟩
theorem acV{leaf:Int}(h:ky (fun ba=>bY fu 60 4 3 106 ba) 62 67 9 aP fan leaf G t Ms):∃ba root cells,root=t.y.slot∧(aP,Obj.cells (List.toArray [aC ba,iV root,iV fan,iV leaf]) 62 (0,0))∈Ms∧(∀G1,Le G G1→(∀p∈Ms,G1 p.1=some p.2)→yh aP ba root fan leaf cells t.u G1∧Nz cells (bf t.k t.y) G1)∧
    ∀n∈bf t.k t.y,∃b vp vk vr Mp,jm cells n.slot b∧(b,Obj.cells (List.toArray [iV n.lvl,vp,vk,vr]) 67 (0,0))∈Ms∧(∀p∈Mp,p∈Ms)∧aE cy 9 G vp n.P Mp∧az bE G vk n.K∧az aU G vr n.R:=by
  obtain⟨ba,root,cells,Ma,Mn,hP,hr,ha,hn⟩:=h
  refine⟨ba,root,cells,hr,hP.mem_iff.2 (tO ..),fun G1 h1 h2=> ?_,fun n hn9=> ?_⟩
  · have h3:=fun(p:Nat×Obj) hp=>h2 p (hP.mem_iff.2 hp)
    exact⟨bY.fV ha h1 (fun p hp=>h3 p (dk _ (fK _ hp))) (h3 _ (tO ..)),hn.fV h1 fun p hp=>h3 p (dk _ (ib _ hp))⟩
  obtain⟨b,vp,vk,vr,Mp,h1,h2,h3,h4⟩:=hn.mem n hn9
  have h5:=fun(p:Nat×Obj) (hp:p∈Mn)=>hP.mem_iff.2 (dk _ (ib _ hp):p∈_)
  exact⟨b,vp,vk,vr,Mp,h1,h5 _ h2,fun p hp=>h5 p (h3.subset hp),h4⟩
theorem atG{leaf:Int}(h:ky (fun ba=>bY fu 60 4 3 106 ba) 62 67 9 aP fan leaf G t Ms)(hT:mC fan leaf t)(k:af)(ek:Int)(ev:af)(tG:ek=1∨ek=2)(ee:k.b.size≤16)(rq:ev.b.size≤16)(Dn:xJ ⟨ek,ev⟩):
    Fc Tryz.prog 30 [aC aP,sV k.b,.agg (List.toArray [iV ek,sV ev.b])] G Ms (fun v G' M'=>v=iV (yI fan leaf k ⟨ek,ev⟩ t).1∧ky (fun ba=>bY fu 60 4 3 106 ba) 62 67 9 aP fan leaf G' (yI fan leaf k ⟨ek,ev⟩ t).2 M'):=by
  obtain⟨ba,root,cells,Ma,Mn,hP,hr,ha,hn⟩:=h
  exact Fc.perm hP.symm (asP (st:=(cells,t.u)) ha k ek ev hn hT hr tG ee rq Dn)
theorem acW:∀ {G:GH} {aP:Nat} {fan leaf:Int} {t:k8} {Ms:MH} (h:ky (fun ba=>bY fu 60 4 3 106 ba) 62 67 9 aP fan leaf G t Ms) (hT:mC fan leaf t) (k:af) (ee:k.b.size≤16),
    Fc Tryz.prog 28 [aC aP,sV k.b] G Ms (fun v G' M'=>v=.tuple #[]∧ky (fun ba=>bY fu 60 4 3 106 ba) 62 67 9 aP fan leaf G' (qe fan leaf k t) M')
  | G,aP,fan,leaf,⟨0,y,u⟩,Ms,h,hT,k,ee=>by
    obtain⟨ba,root,cells,Ma,Mn,hP,hr,ha,hn⟩:=h
    exact Fc.perm hP.symm (ano (st:=(cells,u)) ha k hn hT hr ee)
  | G,aP,fan,leaf,⟨kk+1,y,u⟩,Ms,h,hT,k,ee=>by
    obtain⟨ba,root,cells,Ma,Mn,hP,hr,ha,hn⟩:=h
    exact Fc.perm hP.symm (anp (st:=(cells,u)) ha k hn hT hr ee)
theorem Lz{leaf:Int}(h:ky (fun ba=>bY fu 60 4 3 106 ba) 62 67 9 aP fan leaf G t Ms)(hT:mC fan leaf t)(df dh:af)(so:Bool)(lim:Int)(Jj:lim≤1000000)(i:Int)(hi:i=t.y.slot):
    Fc Tryz.prog 27 [aC aP,iV i,.agg (List.toArray [sV df.b,sV dh.b,.bool so]),iV lim,lV none 0 0] G (Ms++[]) (fun v G' M'=>∃Mq,M'=Ms++Mq∧∀G9,aE aU 50 G9 v (fe t.rows ⟨df,dh,so⟩ lim) Mq):=by
  obtain⟨ba,root,cells,hr,hv⟩:=anr h
  obtain⟨c1,c2,c3,c4⟩:=hT.kd
  refine Fc.akj (Q:=fun v Mq=>∀G9,aE aU 50 G9 v (fe t.rows ⟨df,dh,so⟩ lim) Mq) aGD fun G1 h1 h2=> ?_
  obtain⟨g1,g2⟩:=hv G1 h1 h2
  refine(RN t.k g1 i df dh so lim aE.nil t.y _ _ _ c7 hT.ok g2 hT.us hi ⟨aa,aa,by unfold oV;split<;>omega⟩ Jj).mono fun v G2 M2 zR h3 G9=> ?_
  rw [atH]at h3
  exact ahr.own h3
theorem ans{leaf:Int}(h:ky (fun ba=>bY fu 60 4 3 106 ba) 62 67 9 aP fan leaf G t Ms)(hT:mC fan leaf t)(k:af):
    Fc Tryz.prog 25 [aC aP,sV k.b] G (Ms++[]) (fun v G' M'=>∃Mq,M'=Ms++Mq∧∃L:List (Option Nat),(∀G9,aE fu 60 G9 v L Mq)∧∃h:L.length=t.k+1,∃b l vp vk vr,(b,Obj.cells (List.toArray [iV l,vp,vk,vr]) 67 (0,0))∈Ms∧az aU G vr (pS k t.k t.y)∧L[t.k]'aa=some b):=by
  have h0:=h
  obtain⟨ba,root,cells,Ma,Mn,hP,hr,ha,hn⟩:=h
  obtain⟨b,l,vp,vk,vr,m1,m2,m3,m4⟩:=hn.leaf (key:=k) c7 hT.ok
  refine Fc.akj (Q:=fun v Mq=>∃L:List (Option Nat),(∀G9,aE fu 60 G9 v L Mq)∧∃h:L.length=t.k+1,∃b l vp vk vr,(b,Obj.cells (List.toArray [iV l,vp,vk,vr]) 67 (0,0))∈Ms∧az aU G vr (pS k t.k t.y)∧L[t.k]'aa=some b) az5 fun G1 h1 h2=> ?_
  have h3:=fun(p:Nat×Obj) hp=>h2 p (hP.mem_iff.2 hp)
  have g1:=bY.fV ha h1 (fun p hp=>h3 p (dk _ (fK _ hp))) (h3 _ (tO ..))
  have g2:=hn.fV h1 fun p hp=>h3 p (dk _ (ib _ hp))
  refine(Vx g1 k t.k t.y _ _ _ c7 hT.ok g2 hT.us hr (Nat.le_of_lt hT.high)).mono fun v G2 M2 zR h4=> ?_
  exact⟨_,fun G9=>acC.own h4,by rw [dt,oW],b,l,vp,vk,vr,hP.mem_iff.2 (dk _ (ib _ m1)),m2,m4⟩
variable {eN:MH}
theorem atI{leaf:Int}(ij:ky (fun ba=>bY fu 60 4 3 106 ba) 62 67 9 aP fan leaf G t eN)(pk:Int)(aL:af)(bK:af)(po:Bool)(pv:af)(pl:Int)(hT:mC fan leaf t):
    Fc Tryz.prog 10 [aC aP,.agg #[iV pk,sV aL.b,sV bK.b,.bool po,sV pv.b,iV pl]] G eN (fun v G' M'=>(∃cs,v=.agg (List.toArray cs)∧xF G' cs (tj fan leaf (⟨pk,aL,bK,po,pv,pl⟩:bx) t).1)∧ky (fun ba=>bY fu 60 4 3 106 ba) 62 67 9 aP fan leaf G' (tj fan leaf (⟨pk,aL,bK,po,pv,pl⟩:bx) t).2 M'):=by
 obtain⟨aIb,Jk,atJ,acX,akk,aIc,aId⟩:=acV ij
 have aAZ:=hT.Qz
 have RB:da t.u t.y.slot=true:=by have h9:=hT.us _ cD;rw [bg]at h9;exact h9
 have aIe:=hT.high
 refine Fc.go [.cell 4 40] Tryz.func10 Tryz.ntmps10 rfl (fun w0=>(WC.perm (M':=(eN++[])) (by simp) (g9 2 ?_)))
 refine W.box (L:=[iV _,sV _,sV _,.bool _,sV _,iV _]) rfl rfl (fun b1=>(W.alloc T0 (fun b2=>(g9 6 ?_))))
 refine W.ok (fx az1 rfl rfl) (g9 9 ?_)
 refine W.aH (DJ _ _ _ _ _ _) rfl (g9 9 ?_)
 refine WC.cn (fun rX lI=> ?_) (fun rX lI=> ?_)
 ·try dsimp only at lI
  have hR:¬bx.R (⟨pk,aL,bK,po,pv,pl⟩:bx):=fun hq=>by rw [if_pos hq]at lI;exact lI rfl
  refine g9 3 ?_
  refine W.ok (aY (L:=[iV _,.bool _,sV _,lV _ _ _]) az0 T0 rfl rfl rfl) (g9 5 ?_)
  refine⟨.inr rfl,[_],⟨⟨_,_,_,_,_,rfl,cY (i:=0) rfl,Ct,(by simp),rfl,rfl⟩,trivial⟩,_,((aI _ _).cons _).cons _,?_⟩
  have hE:=YO (fan:=fan) (leaf:=leaf) (t:=t) hR
  have ja:=ax Prod.fst hE
  have eM:=ax Prod.snd hE
  have h3e:(if bx.R (⟨pk,aL,bK,po,pv,pl⟩:bx)then(0:Int)else 3)=3:=if_neg hR
  rw [←h3e]at ja
  exact⟨⟨_,rfl,xF.to ⟨_,_,rfl,az.nil,(by rw [h3e];exact(⟨by decide,by decide⟩:i64 3))⟩ ja⟩,ky.to eM ij⟩
 try dsimp only at lI
 have hR:bx.R (⟨pk,aL,bK,po,pv,pl⟩:bx):=by
   by_cases hq:bx.R (⟨pk,aL,bK,po,pv,pl⟩:bx)
   ·exact hq
   rw [if_neg hq]at lI;omega
 have atK:=hR.1.2.2.1
 have hk6:=hR.1.2.1
 have wD:=hR.1.1
 dsimp only at atK hk6 wD
 have aQI:aL.b.size<140737488355328:=by omega
 refine g9 16 ?_
 refine WC.cd (fun h37 p37=> ?_) (fun h37 p37=> ?_)
 ·try dsimp only at p37
  refine g9 5 ?_
  refine W.call (Mp:=eN++[]) (Mr:=((b2,ar 40 [iV 0,.bool false,sV ⟨#[]⟩,lV none 0 0])::((b1,ar 35 [iV pk,sV aL.b,sV bK.b,.bool po,sV pv.b,iV pl])::[]))) (ans ij hT aL) rfl (pN (show mq ((eN++[])++((b2,ar 40 [iV 0,.bool false,sV ⟨#[]⟩,lV none 0 0])::((b1,ar 35 [iV pk,sV aL.b,sV bK.b,.bool po,sV pv.b,iV pl])::[])))=mq ((b2,ar 40 [iV 0,.bool false,sV ⟨#[]⟩,lV none 0 0])::((b1,ar 35 [iV pk,sV aL.b,sV bK.b,.bool po,sV pv.b,iV pl])::(eN++[])))by first|(simp only [gZ,fD,fE];done)|(simp only [gZ,fD,fE];ac_rfl))) ?_
  intro v6 G3 Ms5 TV q4
  refine match q4 with|⟨ahs,GN,aA0,aDf,vS,b_l,aHy,aHz,aHA,aHB,asR,acD,aIf⟩=> ?_
  subst GN
  refine W.perm (M':=((b2,ar 40 [iV 0,.bool false,sV ⟨#[]⟩,lV none 0 0])::((b1,ar 35 [iV pk,sV aL.b,sV bK.b,.bool po,sV pv.b,iV pl])::(ahs++(eN++[]))))) (pN (show mq ((b2,ar 40 [iV 0,.bool false,sV ⟨#[]⟩,lV none 0 0])::((b1,ar 35 [iV pk,sV aL.b,sV bK.b,.bool po,sV pv.b,iV pl])::(ahs++(eN++[]))))=mq ((eN++ahs)++((b2,ar 40 [iV 0,.bool false,sV ⟨#[]⟩,lV none 0 0])::((b1,ar 35 [iV pk,sV aL.b,sV bK.b,.bool po,sV pv.b,iV pl])::[])))by first|(simp only [gZ,fD,fE];done)|(simp only [gZ,fD,fE];ac_rfl))) ?_
  have aht:=aDf G3
  have q10:=acD.form
  refine match q10 with|⟨dz,dA,FV⟩=> ?_
  subst FV
  have aj6:=EM (fan:=fan) (leaf:=leaf) (key:=aL) c7 (jA aL) hT.ok
  have aQJ:=aj6.1.o8
  have yg:=aht.form
  refine match yg with|⟨akl,akm,z3⟩=> ?_
  subst z3
  refine g9 3 ?_
  refine WC.dw (bB.k9.cons _) (d9 [0,1,2,3] ?_)
  refine aht.a1 (i:=t.k) aa (fun aqk=>(WD.tk 4 rfl (aV (i:=t.k) zl tA aht rfl rfl ⟨aa,aa⟩) (WD.tk 5 rfl (Ok.to (v:=Value.pointer ((aA0[t.k]'aa).map fun b=>⟨b,0,none⟩)) (dQ (b:=false) (j:=1) (vs:=[.pointer _]) tA aqk (ag ah) rfl rfl rfl (by simp)) (show Value.pointer ((aA0[t.k]'aa).map fun b=>⟨b,0,none⟩)=aC b_l by rw [aIf];rfl)) (d9 [6,7] ?_))))
  refine WD.tk 8 rfl (gw (vs:=AD) ((((aI _ _).trans (cH _ _)).cons _).subset asR) OR rfl rfl rfl (by simp)) (d9 [9,10] ?_)
  refine WD.a1 11 rfl (W.aH (aay (acD.mono TV) _ (by assumption)) rfl (W.nn (d9 [12,13,14,15,16,17,18] ?_)))
  refine WD.done (by kernel_rfl) (pI (jH (g9 7 ?_)))
  refine⟨.inr rfl,[_],⟨⟨_,_,_,_,_,rfl,cY (i:=0) rfl,Ct,(by simp),rfl,rfl⟩,trivial⟩,_,(((aI _ _).trans (cH _ _)).cons _).cons _,?_⟩
  have hE:=YP (fan:=fan) (leaf:=leaf) (t:=t) hR p37
  have ja:=ax Prod.fst hE
  have eM:=ax Prod.snd hE
  rw [show t.rows=BT.rows t.k t.y from rfl,←aj6.2.2]at ja
  exact⟨⟨_,rfl,xF.to ⟨_,_,rfl,az.nil,⟨by dsimp only;omega,by dsimp only;omega⟩⟩ ja⟩,ky.to eM (bpM.mono TV ij)⟩
 try dsimp only at p37
 refine g9 6 ?_
 refine WC.cd (fun h60 p60=> ?_) (fun h60 p60=> ?_)
 ·try dsimp only at p60
  have aIg:=(hR.2.2.2.1 p60)
  dsimp only at aIg
  refine WC.dw (bB.k9.cons _) (d9 [0,1,2,3] ?_)
  refine WD.tk 4 rfl (gw (vs:=kB) (((aI _ _).cons _).subset akk) cV rfl rfl rfl (by simp)) (d9 [5,7,8] ?_)
  refine WD.a1 6 rfl (W.aH (Bo _ _ _ _ _ _ (by first|assumption|omega|(dsimp only;omega))) rfl (W.nn (WD.a1 9 rfl (W.call (Mp:=eN++[]) (Mr:=((b2,ar 40 [iV 0,.bool false,sV ⟨#[]⟩,lV none 0 0])::((b1,ar 35 [iV pk,sV aL.b,sV bK.b,.bool po,sV pv.b,iV pl])::[]))) (Lz ij hT (bx.span (⟨pk,aL,bK,po,pv,pl⟩:bx)).lo (bx.span (⟨pk,aL,bK,po,pv,pl⟩:bx)).hi (bx.span (⟨pk,aL,bK,po,pv,pl⟩:bx)).bQ pl aa Jk acX) rfl (pN (show mq ((eN++[])++((b2,ar 40 [iV 0,.bool false,sV ⟨#[]⟩,lV none 0 0])::((b1,ar 35 [iV pk,sV aL.b,sV bK.b,.bool po,sV pv.b,iV pl])::[])))=mq ((b2,ar 40 [iV 0,.bool false,sV ⟨#[]⟩,lV none 0 0])::((b1,ar 35 [iV pk,sV aL.b,sV bK.b,.bool po,sV pv.b,iV pl])::(eN++[])))by first|(simp only [gZ,fD,fE];done)|(simp only [gZ,fD,fE];ac_rfl))) ?_))))
  intro v21 G18 aQK FE q19
  refine match q19 with|⟨Oo,Af,ayL⟩=> ?_
  subst Af
  refine W.perm (M':=((b2,ar 40 [iV 0,.bool false,sV ⟨#[]⟩,lV none 0 0])::((b1,ar 35 [iV pk,sV aL.b,sV bK.b,.bool po,sV pv.b,iV pl])::(Oo++(eN++[]))))) (pN (show mq ((b2,ar 40 [iV 0,.bool false,sV ⟨#[]⟩,lV none 0 0])::((b1,ar 35 [iV pk,sV aL.b,sV bK.b,.bool po,sV pv.b,iV pl])::(Oo++(eN++[]))))=mq ((eN++Oo)++((b2,ar 40 [iV 0,.bool false,sV ⟨#[]⟩,lV none 0 0])::((b1,ar 35 [iV pk,sV aL.b,sV bK.b,.bool po,sV pv.b,iV pl])::[])))by first|(simp only [gZ,fD,fE];done)|(simp only [gZ,fD,fE];ac_rfl))) ?_
  have YU:aE aU 50 G18 v21 (fe t.rows (bx.span (⟨pk,aL,bK,po,pv,pl⟩:bx)) pl) Oo:=ayL G18
  have aIh:=YU.bq
  have DK:=YU.form
  refine match DK with|⟨aQL,aQM,xW⟩=> ?_
  subst xW
  refine W.nil (WD.n9 FE (((bB.trans (cH _ _)).k9).cons _) (d9 [10] ?_))
  refine WD.a1 11 rfl (W.du YU (ag (ag ah)) (fun G28 atL aqD=>(g9 1 ?_)))
  refine W.nn (WD.done (by kernel_rfl) (pI (jH (g9 7 ?_))))
  refine⟨.inr rfl,[_],⟨⟨_,_,_,_,_,rfl,cY (i:=0) rfl,Ct,(by simp),rfl,rfl⟩,trivial⟩,_,((aI _ _).cons _).cons _,?_⟩
  have hE:=YQ (fan:=fan) (leaf:=leaf) (t:=t) hR p60
  have ja:=ax Prod.fst hE
  have eM:=ax Prod.snd hE
  exact⟨⟨_,rfl,xF.to ⟨_,_,rfl,aqD,⟨by dsimp only;omega,by dsimp only;omega⟩⟩ ja⟩,ky.to eM (bpM.mono aO ij)⟩
 try dsimp only at p60
 refine g9 6 ?_
 refine WC.cd (fun h73 p73=> ?_) (fun h73 p73=> ?_)
 ·try dsimp only at p73
  have YV:∀p∈(fe t.rows (bx.span (⟨pk,aL,bK,po,pv,pl⟩:bx)) 262144),p.key.b.size≤16:=fun p hp=>((dr.1 hT.rows).1 p (eO.1 (gu hp)).1).1
  refine WC.seq (WC.dw (bB.k9.k9) (d9 [0,1,2,3] ?_))
  refine WD.tk 4 rfl (gw (vs:=kB) ((((aI _ _).cons _).cons _).subset akk) cV rfl rfl rfl (by simp)) (d9 [5,9] ?_)
  refine WD.a1 6 rfl (W.aH (Bo _ _ _ _ _ _ (by first|assumption|omega|(dsimp only;omega))) rfl (W.nn (WD.a1 7 rfl (W.call (Mp:=eN++[]) (Mr:=((b2,ar 40 [iV 0,.bool false,sV ⟨#[]⟩,lV none 0 0])::((b1,ar 35 [iV pk,sV aL.b,sV bK.b,.bool po,sV pv.b,iV pl])::[]))) (Lz ij hT (bx.span (⟨pk,aL,bK,po,pv,pl⟩:bx)).lo (bx.span (⟨pk,aL,bK,po,pv,pl⟩:bx)).hi (bx.span (⟨pk,aL,bK,po,pv,pl⟩:bx)).bQ 262144 aa Jk acX) rfl (pN (show mq ((eN++[])++((b2,ar 40 [iV 0,.bool false,sV ⟨#[]⟩,lV none 0 0])::((b1,ar 35 [iV pk,sV aL.b,sV bK.b,.bool po,sV pv.b,iV pl])::[])))=mq ((b2,ar 40 [iV 0,.bool false,sV ⟨#[]⟩,lV none 0 0])::((b1,ar 35 [iV pk,sV aL.b,sV bK.b,.bool po,sV pv.b,iV pl])::(eN++[])))by first|(simp only [gZ,fD,fE];done)|(simp only [gZ,fD,fE];ac_rfl))) ?_))))
  intro YW Jl oC tH LA
  refine match LA with|⟨Oq,tp,ayM⟩=> ?_
  subst tp
  refine W.perm (M':=((b2,ar 40 [iV 0,.bool false,sV ⟨#[]⟩,lV none 0 0])::((b1,ar 35 [iV pk,sV aL.b,sV bK.b,.bool po,sV pv.b,iV pl])::(Oq++(eN++[]))))) (pN (show mq ((b2,ar 40 [iV 0,.bool false,sV ⟨#[]⟩,lV none 0 0])::((b1,ar 35 [iV pk,sV aL.b,sV bK.b,.bool po,sV pv.b,iV pl])::(Oq++(eN++[]))))=mq ((eN++Oq)++((b2,ar 40 [iV 0,.bool false,sV ⟨#[]⟩,lV none 0 0])::((b1,ar 35 [iV pk,sV aL.b,sV bK.b,.bool po,sV pv.b,iV pl])::[])))by first|(simp only [gZ,fD,fE];done)|(simp only [gZ,fD,fE];ac_rfl))) ?_
  have YX:aE aU 50 Jl YW (fe t.rows (bx.span (⟨pk,aL,bK,po,pv,pl⟩:bx)) 262144) Oq:=ayM Jl
  have aIi:=YX.bq
  have q38:=YX.form
  refine match q38 with|⟨aA1,aA2,Dt⟩=> ?_
  subst Dt
  refine W.nil (WD.n9 tH (((bB.trans (cH _ _)).k9).k9) (d9 [8] ?_))
  refine g9 3 ?_
  refine WC.du (YX) (ag (ag ah)) (fun G39 jL VN=> ?_)
  refine WC.loop (X:=(Nat)×MH) (fun j=>[(83,aK j.1),(4,aC b2),(81,lV aA1 ((fe t.rows (bx.span (⟨pk,aL,bK,po,pv,pl⟩:bx)) 262144)).length aA2),(82,aK (((fe t.rows (bx.span (⟨pk,aL,bK,po,pv,pl⟩:bx)) 262144)).length)),(0,aC aP)]) (fun j G Ml=>Ml=((b2,ar 40 [iV 0,.bool false,sV ⟨#[]⟩,lV none 0 0])::((b1,ar 35 [iV pk,sV aL.b,sV bK.b,.bool po,sV pv.b,iV pl])::(j.2++[])))∧ky (fun ba=>bY fu 60 4 3 106 ba) 62 67 9 aP fan leaf G (th fan leaf ((fe t.rows (bx.span (⟨pk,aL,bK,po,pv,pl⟩:bx)) 262144).take j.1) t) j.2∧j.1≤(fe t.rows (bx.span (⟨pk,aL,bK,po,pv,pl⟩:bx)) 262144).length) (fun j=>(fe t.rows (bx.span (⟨pk,aL,bK,po,pv,pl⟩:bx)) 262144).length-j.1) (0,eN) ct ?_ ?_
  ·exact⟨rfl,(by exact(bpM.mono aO ij)),kW _⟩
  rintro⟨j,Km⟩ aIj G40 _ Jm ⟨rfl,g0,hj⟩
  try dsimp only at g0 hj
  have hT9:=(RM (ps:=(fe t.rows (bx.span (⟨pk,aL,bK,po,pv,pl⟩:bx)) 262144).take j) hT fun p hp=>YV p (gu hp)).1
  refine WC.fr (f:=gk aIj [(83,aK j),(4,aC b2),(81,lV aA1 ((fe t.rows (bx.span (⟨pk,aL,bK,po,pv,pl⟩:bx)) 262144)).length aA2),(82,aK (((fe t.rows (bx.span (⟨pk,aL,bK,po,pv,pl⟩:bx)) 262144)).length)),(0,aC aP)]) rfl (g9 6 ?_)
  refine WC.cd (fun h84 p84=> ?_) (fun h84 p84=> ?_)
  ·try dsimp only at p84
   refine g9 6 ?_
   refine(VN.mono Jm).a1 (i:=j) aa (fun aIk=>(g9 2 ?_))
   refine W.alloc nX (fun b44=>(g9 7 ?_))
   refine W.call (Mp:=Km) (acW g0 hT9 (fe t.rows (bx.span (⟨pk,aL,bK,po,pv,pl⟩:bx)) 262144)[j].key (YV _ (bN aa))) rfl (ag (ag (ag ah))) ?_
   intro v48 G45 akn RO q46
   refine match q46 with|⟨_,aIl⟩=> ?_
   refine W.perm (ag (ag (ag ah))).symm (g9 6 ?_)
   refine W.sub (bB.cons _) (g9 2 ?_)
   exact⟨RO,(j+1,akn),ct,⟨rfl,(by have h:=aIl;rw [aho aa];exact h),aa⟩,aa⟩
  try dsimp only at p84
  refine g9 13 ?_
  refine⟨.inr rfl,[_],⟨⟨_,_,_,_,_,rfl,cY (i:=0) rfl,Ct,(by simp),rfl,rfl⟩,trivial⟩,_,((aI _ _).cons _).cons _,?_⟩
  have hE:=YR (fan:=fan) (leaf:=leaf) (t:=t) hR p73
  have ja:=ax Prod.fst hE
  have eM:=ax Prod.snd hE
  have hj9:j=(fe t.rows (bx.span (⟨pk,aL,bK,po,pv,pl⟩:bx)) 262144).length:=by omega
  have YY:=g0
  rw [hj9,rT]at YY
  exact⟨⟨_,rfl,xF.to ⟨_,_,rfl,az.nil,⟨by dsimp only;omega,by dsimp only;omega⟩⟩ ja⟩,ky.to eM YY⟩
 try dsimp only at p73
 refine g9 6 ?_
 refine WC.cd (fun h93 p93=> ?_) (fun h93 p93=> ?_)
 ·try dsimp only at p93
  refine g9 4 ?_
  refine W.call (Mp:=eN) (acW ij hT aL atK) rfl (ag (ag ah)) ?_
  intro v53 G50 aQN VO q51
  refine match q51 with|⟨_,aIm⟩=> ?_
  refine W.perm (ag (ag ah)).symm (g9 10 ?_)
  refine⟨.inr rfl,[_],⟨⟨_,_,_,_,_,rfl,cY (i:=0) rfl,Ct,(by simp),rfl,rfl⟩,trivial⟩,_,((aI _ _).cons _).cons _,?_⟩
  have hE:=YS (fan:=fan) (leaf:=leaf) (t:=t) hR p93
  have ja:=ax Prod.fst hE
  have eM:=ax Prod.snd hE
  exact⟨⟨_,rfl,xF.to ⟨_,_,rfl,az.nil,⟨by dsimp only;omega,by dsimp only;omega⟩⟩ ja⟩,ky.to eM aIm⟩
 try dsimp only at p93
 have IN:pk≤4:=by omega
 refine g9 3 ?_
 refine W.aH (VP pk aL bK po pv pl 1 hR IN aa) rfl (g9 3 ?_)
 refine W.alloc gL (fun b55=>(g9 4 ?_))
 refine WC.dw ((iD.k9.cons _).k9) (d9 [0,1,2,3,4,5] ?_)
 refine WD.a1 6 rfl (W.aH (HQ _ _ _ _ _ _ _ (by first|assumption|omega|(dsimp only;omega))) rfl (W.nn (WD.a1 7 rfl ?_)))
 have q56:=anq (o:=(⟨pk,aL,bK,po,pv,pl⟩:bx)) hR (by dsimp only;omega) (by dsimp only;omega) (by dsimp only;omega)
 refine match q56 with|⟨Dn,tG,rq⟩=> ?_
 refine W.call (Mp:=eN) (atG ij hT aL (Ae (⟨pk,aL,bK,po,pv,pl⟩:bx)).kind (Ae (⟨pk,aL,bK,po,pv,pl⟩:bx)).val tG atK rq Dn) rfl (ag (ag (ag ah))) ?_
 intro v60 G57 ako MR q58
 refine match q58 with|⟨RP,acY⟩=> ?_
 subst RP
 refine W.perm (ag (ag (ag ah))).symm (W.nn (d9 [8,9] ?_))
 refine WD.done (by kernel_rfl) (pI (jH (g9 7 ?_)))
 refine⟨.inr rfl,[_],⟨⟨_,_,_,_,_,rfl,cY (i:=1) rfl,Ct,(by simp),rfl,rfl⟩,trivial⟩,_,(((aI _ _).cons _).cons _).cons _,?_⟩
 have hE:=YT (fan:=fan) (leaf:=leaf) (t:=t) hR p37 p60 p73 p93
 have ja:=ax Prod.fst hE
 have eM:=ax Prod.snd hE
 exact⟨⟨_,rfl,xF.to ⟨_,_,rfl,az.nil,(by dsimp only;unfold yI;split<;>exact⟨by dsimp only;omega,by dsimp only;omega⟩)⟩ ja⟩,ky.to eM acY⟩

theorem KO{l:List aG}(h:l.length≤262144):fe l ⟨af.nil,af.nil,true⟩ 262144=l:=by
  rw [VM h]
  exact wZ fun p _=>jA p.key
theorem ant{leaf:Int}(ij:ky (fun ba=>bY fu 60 4 3 106 ba) 62 67 9 aP fan leaf G t eN)(hT:mC fan leaf t):
    Fc Tryz.prog 14 [aC aP] G eN (fun v G' M'=>az aU G' v t.rows∧ky (fun ba=>bY fu 60 4 3 106 ba) 62 67 9 aP fan leaf G' t M'):=by
 obtain⟨aIb,Jk,atJ,acX,akk,aIc,aId⟩:=acV ij
 have RB:da t.u Jk=true:=by have h9:=hT.us _ cD;rw [bg,←acX]at h9;exact h9
 have aIe:=hT.high
 have aAZ:=hT.Qz
 have Fz:=hT.len
 refine Fc.go [.tmp 2] Tryz.func14 Tryz.ntmps14 rfl (fun w0=>(WC.perm (M':=(eN++[])) (by simp) (g9 9 ?_)))
 refine W.ok (fx az1 rfl rfl) (g9 6 ?_)
 refine WC.dw bB (d9 [0,1,2,3] ?_)
 refine WD.tk 4 rfl (gw (vs:=kB) ((aI _ _).subset akk) cV rfl rfl rfl (by simp)) (WD.a1 5 rfl (W.aH (yu) rfl (W.nn (WD.a1 6 rfl (W.call (Mp:=eN++[]) (Mr:=[]) (Lz ij hT af.nil af.nil true 262144 aa Jk acX) rfl (pN (show mq ((eN++[])++[])=mq (eN++[])by first|(simp only [gZ,fD,fE];done)|(simp only [gZ,fD,fE];ac_rfl))) ?_)))))
 intro v4 G1 Ms3 pX q2
 refine match q2 with|⟨YZ,CI,aDg⟩=> ?_
 subst CI
 refine W.perm (M':=(YZ++(eN++[]))) (pN (show mq (YZ++(eN++[]))=mq ((eN++YZ)++[])by first|(simp only [gZ,fD,fE];done)|(simp only [gZ,fD,fE];ac_rfl))) ?_
 have atM:aE aU 50 G1 v4 (fe t.rows ⟨af.nil,af.nil,true⟩ 262144) YZ:=aDg G1
 have q10:=atM.form
 refine match q10 with|⟨sa7,sc8,FV⟩=> ?_
 subst FV
 refine W.nil (WD.n9 pX (bB.trans (cH _ _)) (d9 [7] ?_))
 refine g9 2 ?_
 refine WC.du atM ah (fun G11 Fi BQ=>(WC.ret ?_))
 refine⟨.inr rfl,[_],⟨rfl,trivial⟩,_,aI _ _,?_⟩
 exact⟨az.cast BQ (KO aAZ),(bpM.mono aO ij)⟩

end Go.Proofs.YthhpfadbojfdnaaGreat

namespace Go.Fw
open Go Go.RowKit
def Y0 (x:aw) (least Ii:Int):Prop:=(x.n.ab.length+x.n.kids.length=0∧(x.n.rows.length:Int)≤Ii∧least≤(x.n.rows.length:Int))∧bc x.n.rows∧∀i (h:i<x.n.rows.length),x.s.has x.n.rows[i].key=true
instance (x : aw) (k m : Int) : Decidable (Y0 x k m) := by unfold Y0; infer_instance
def RQ (x:aw) (least Ii:Int):Prop:=(x.n.rows.length=0∧(x.n.kids.length:Int)≤Ii∧least≤(x.n.kids.length:Int))∧∀i (h:i<x.n.ab.length),x.s.has x.n.ab[i]=true∧x.n.ab[i]≠x.s.lo
instance (x : aw) (k m : Int) : Decidable (RQ x k m) := by unfold RQ; infer_instance
def Jn (c:aX) (fp:Bool) (x:aw):Prop:=if x.n.level=0 then Y0 x (if fp=true then 0 else c.leaf.tdiv 2) c.leaf else RQ x (if fp=true then 2 else c.fan.tdiv 2) c.fan
instance (c : aX) (fp : Bool) (x : aw) : Decidable (Jn c fp x) := by unfold Jn; infer_instance
def acZ (c:aX) (l:List Nd) (ss:List aw):Prop:=Qa l ss∧∀i (h:i<ss.length),Jn c (decide (i=0)) ss[i]
instance (c : aX) (l : List Nd) (ss : List aw) : Decidable (acZ c l ss) := by unfold acZ; infer_instance
noncomputable def wfF (c:aX) (l:List Nd):Nat→Bool→aw→Prop
 |0,fp,x=>x.n.level=0∧Jn c fp x
 |n+1,fp,x=>x.n.level=((n+1:Nat):Int)∧(ft l x).isSome=true∧Jn c fp x∧∀y∈bu l x,wfF c l n false y
def atN (l:List Nd):Prop:=(l.map fun n:Nd=>n.slot).Nodup
noncomputable def ac0 (l:List Nd) (n:Nat) (x:aw):List Int:=(tC l n x).map fun y:aw=>y.n.slot
structure aNA (c:aX) (root:Int) (l:List Nd):Prop where
 found:(cE l root).2=true
 nd:atN l
 lvl:0≤(cE l root).1.level
 wf:wfF c l (cE l root).1.level.toNat true (bC l root)
 pre:(ac0 l (cE l root).1.level.toNat (bC l root)).Nodup
 len:(ac0 l (cE l root).1.level.toNat (bC l root)).length=l.length
section
variable {c:aX} {l:List Nd} {root:Int}
end
section
variable {c:aX} {l:List Nd} {root:Int}
structure aOC (l:List Nd) (n:Nat) (x:aw) (mt mt':List (Int×Bool)):Prop where
 len:mt'.length=mt.length+(ac0 l n x).length
 get:∀s,getM mt' s=if s∈ac0 l n x then some true else getM mt s
noncomputable def akp (l:List Nd) (n:Nat) (x:aw) (j:Nat):List Int:=x.n.slot::(l8 l x j).flatMap (ac0 l n)
structure InK (c:aX) (l:List Nd) (n:Nat) (x:aw) (mt:List (Int×Bool)) (j:Nat) (mt':List (Int×Bool)):Prop where
 len:mt'.length=mt.length+(akp l n x j).length
 get:∀s,getM mt' s=if s∈akp l n x j then some true else getM mt s
 nd:(akp l n x j).Nodup
 no:∀s∈akp l n x j,getM mt s=none
 wf:∀i,i<j→wfF c l n false (aq l x i)
 ok:∀i,i<j→oK l x i=true
end
section
variable {α:Type} {G:GH} {V:Fq α} {P:Program} {t et:TypeId} {m:List (Int×α)}
end
structure Met (l:List Nd) (mt:List (Int×Bool)):Prop where
 nd:(mt.map (·.1)).Nodup
 sub:∀s∈mt.map (·.1),s∈l.map fun n:Nd=>n.slot
 tr:∀s,getM mt s≠some false
section
variable {c:aX} {l:List Nd} {lv slot:Int} {fp:Bool} {x:aw} {mt mt':List (Int×Bool)} {rows aOD:List aG}
end
def aIn (n:c6):Nd:={ Nd.zero with slot:=n.slot,level:=n.lvl,ab:=n.P,kids:=n.K,fp:=true,right:= -1,rows:=n.R }
section
variable {fan leaf:Int} {t:k8}
structure aNB (k:Nat) (y:BT k) (s:Span) (x:aw):Prop where
 n:x.n=aIn (fY k y)
 s:x.s=s
theorem RR{α β γ:Type}{f:α→List β}{g:α→List γ} :∀ {l:List α},(∀c∈l,(f c).length+1≤2*(g c).length)→(l.flatMap f).length+l.length≤2*(l.flatMap g).length
 |[],_=>bZ _
 |c::l,h=>by
  rw [cI,cI,bP,bP,jo]
  have h1:=h c (tO ..)
  have h2:=RR (l:=l) fun d hd=>h d (dk _ hd)
  omega
theorem VQ(hf:4≤fan)(hl:2≤leaf):∀(k:Nat) {y:BT k} {lo hi:Int} {s:Span},s.norm=s→BT.ok fan leaf k lo hi s y→(if k=0 then(1:Int)else 2)≤lo→(bf k y).length+1≤2*(BT.rows k y).length
 |0,y,lo,hi,s,hs,dI,eG=>by
  have h1:=dI.1.1
  rw [if_pos rfl]at eG
  show 1+1≤2*(di y).length
  omega
 |k+1,y,lo,hi,s,hs,dI,eG=>by
  have h1:=dI.1.1
  rw [if_neg aa]at eG
  have h2:=RR (f:=bf k) (g:=BT.rows k) (l:=ay y) fun c hc=>by
   obtain⟨j,hj,rfl⟩:=cj hc
   have hlen:=dI.2.len
   obtain⟨u,hj2,u1,u2,u3,_⟩:=dI.2.at hs (i:=j) aa
   exact VQ hf hl k u1 u3 (by unfold vQ;split<;>omega)
  rw [kD,jo]
  show _≤2*((ay y).flatMap (BT.rows k)).length
  omega
end
def ur:(k:Nat)→BT k→Prop
 |0,y=>∀p∈di y,p.key.b.size≤16
 |k+1,y=>(∀p∈au y,p.b.size≤16)∧∀c∈ay y,ur k c
theorem ac1:∀k:Nat,ur k default
 |0=>fun p hp=>by cases hp
 |k+1=>⟨fun p hp=>absurd (show p∈([]:List af)from hp) ww,fun c hc=>absurd (show c∈([]:List (BT k))from hc) ww⟩
theorem DL{k:Nat}{K:List (BT k)}(h:∀c∈K,ur k c)(i:Nat):ur k (K.getD i default):=by
 rw [fc]
 cases e:K[i]? with
 |none=>exact ac1 k
 |some c=>exact h c (NX e)
theorem ahu:af.nil.b.size≤16:=by decide
theorem akq{P:List af}(h:∀p∈P,p.b.size≤16)(i:Nat):(P.getD i af.nil).b.size≤16:=by
 rw [fc]
 cases e:P[i]? with
 |none=>exact ahu
 |some c=>exact h c (NX e)
theorem VR{l:List aG}(h:∀p∈l,p.key.b.size≤16):(GC l).b.size≤16:=by
 unfold GC
 by_cases e:l.length<2
 ·rw [PK e];exact ahu
 ·rw [sg e]
  show(js _ _).1.b.size≤16
  cases e2:(l[(l.length+1) / 2-1]'aa).key.lt (l[(l.length+1) / 2]'aa).key
  ·rw [L4 e2];exact ahu
  ·exact(sh e2 (h _ (bN _))).2.1
theorem VS{α:Type}{l:List α}{i:Nat}{a b:α}(h:b∈l.set i a):b∈l∨b=a:=qI h
def Pv9 (k:Nat) (r:BT k×Option (af×BT k)):Prop:=ur k r.1∧∀w,r.2=some w→w.1.b.size≤16∧ur k w.2
section
variable {fan leaf:Int} {key:af} {e:bG}
variable {P:List af} {k:Nat}
theorem akr{s t:Int}{K:List (BT k)}(hP:∀p∈P,p.b.size≤16)(hK:∀c∈K,ur k c):Pv9 (k+1) (vP fan s t P K):=by
 unfold vP
 split
 ·exact⟨⟨hP,hK⟩,fun w hw=>by cases hw⟩
 ·refine⟨⟨fun p hp=>hP p (gu hp),fun c hc=>hK c (gu hc)⟩,fun w hw=> ?_⟩
  cases hw
  exact⟨akq hP _,fun p hp=>hP p (pE hp),fun c hc=>hK c (pE hc)⟩
variable {u:List Bool}
theorem ac2{s:Int}{K:List (BT k)} :(u5 fan s P K u).1=vP fan s (aF u:Int) P K:=by
 unfold u5 vP
 split<;>rfl
theorem aks(ee:key.b.size≤16):∀(k:Nat) {y:BT k} (u:List Bool),ur k y→Pv9 k (gq fan leaf key e k y u).1
 |0,y,u,h=>by
  have hw:∀p∈bW (di y) key e,p.key.b.size≤16:=fun p hp=>by
   rcases EN hp with h9|h9
   ·exact h p h9
   ·rw [h9];exact ee
  by_cases h5:((bW (di y) key e).length:Int)≤leaf
  ·rw [xH h5]
   exact⟨hw,fun w hw=>by cases hw⟩
  ·rw [xI h5]
   refine⟨fun p hp=>hw p (gu hp),fun w Nt=> ?_⟩
   cases Nt
   exact⟨VR hw,fun p hp=>hw p (pE hp)⟩
 |k+1,y,u,h=>by
  have ih:=aks ee k u (DL h.2 (ae (au y) key))
  show Pv9 (k+1) (zW fan y (ae (au y) key) (gq fan leaf key e k ((ay y).getD (ae (au y) key) default) u)).1
  generalize gq fan leaf key e k ((ay y).getD (ae (au y) key) default) u=r at*
  unfold zW
  cases hr:r.1.2 with
  |none=>
   refine⟨⟨h.1,fun c hc=> ?_⟩,fun w hw=>by cases hw⟩
   rcases VS hc with h9|h9
   ·exact h.2 c h9
   ·rw [h9];exact ih.1
  |some w=>
   obtain⟨w1,w2⟩:=ih.2 w hr
   dsimp only
   rw [ac2]
   refine akr (fun p hp=> ?_) fun c hc=> ?_
   ·rcases cP.1 hp with h9|h9
    ·exact h.1 p (gu h9)
    ·rcases cP.1 h9 with h9|h9
     ·rw [gh.1 h9];exact w1
     ·exact h.1 p (pE h9)
   ·rcases cP.1 hc with h9|h9
    ·exact h.2 c (gu h9)
    ·rcases cP.1 h9 with h9|h9
     ·rcases dK.1 h9 with h9|h9
      ·rw [h9];exact ih.1
      ·rw [gh.1 h9];exact w2
     ·exact h.2 c (pE h9)
theorem atO:∀(k:Nat) {a b:BT k} {p:af},ur k a→ur k b→p.b.size≤16→Pv9 k (ii fan leaf k a p b)
 |0,a,b,p,ha,hb,hp=>by
  have hR:∀p∈di a++di b,p.key.b.size≤16:=fun p hp=>by
   rcases cP.1 hp with h9|h9
   ·exact ha p h9
   ·exact hb p h9
  show Pv9 0 (y7 leaf a.slot b.slot (di a++di b))
  unfold y7
  split
  ·exact⟨hR,fun w hw=>by cases hw⟩
  ·refine⟨fun p hp=>hR p (gu hp),fun w Nt=> ?_⟩
   cases Nt
   exact⟨VR hR,fun p hp=>hR p (pE hp)⟩
 |k+1,a,b,p,ha,hb,hp=>by
  refine akr (fun q hq=> ?_) fun c hc=> ?_
  ·rcases cP.1 hq with h9|h9
   ·exact ha.1 q h9
   ·rcases dK.1 h9 with h9|h9
    ·rw [h9];exact hp
    ·exact hb.1 q h9
  ·rcases cP.1 hc with h9|h9
   ·exact ha.2 c h9
   ·exact hb.2 c h9
theorem atP{s:Int}{K:List (BT k)}{i:Nat}(hP:∀p∈P,p.b.size≤16)(hK:∀c∈K,ur k c):ur (k+1) (vN fan leaf s P K i u).1:=by
 have hj:=atO (fan:=fan) (leaf:=leaf) k (DL hK i) (DL hK (i+1)) (akq hP i)
 unfold vN
 generalize ii fan leaf k (K.getD i default) (P.getD i af.nil) (K.getD (i+1) default)=r at*
 cases hr:r.2 with
 |none=>
  refine⟨fun p hp=> ?_,fun c hc=> ?_⟩
  ·rcases cP.1 hp with h9|h9
   ·exact hP p (gu h9)
   ·exact hP p (pE h9)
  ·rcases cP.1 hc with h9|h9
   ·exact hK c (gu h9)
   ·rcases cP.1 h9 with h9|h9
    ·rw [gh.1 h9];exact hj.1
    ·exact hK c (pE h9)
 |some w=>
  obtain⟨w1,w2⟩:=hj.2 w hr
  refine⟨fun p hp=> ?_,fun c hc=> ?_⟩
  ·rcases cP.1 hp with h9|h9
   ·exact hP p (gu h9)
   ·rcases cP.1 h9 with h9|h9
    ·rw [gh.1 h9];exact w1
    ·exact hP p (pE h9)
  ·rcases cP.1 hc with h9|h9
   ·exact hK c (gu h9)
   ·rcases cP.1 h9 with h9|h9
    ·rcases dK.1 h9 with h9|h9
     ·rw [h9];exact hj.1
     ·rw [gh.1 h9];exact w2
    ·exact hK c (pE h9)
theorem akt(ee:key.b.size≤16):∀(k:Nat) {y:BT k} (u:List Bool),ur k y→ur k (jU fan leaf key k y u).1
 |0,y,u,h=>fun p hp=>by
  rcases EN (show p∈bW (di y) key pz from hp)with h9|h9
  ·exact h p h9
  ·rw [h9];exact ee
 |k+1,y,u,h=>by
  have ih:=akt ee k u (DL h.2 (ae (au y) key))
  have hs:∀c∈(ay y).set (ae (au y) key) (jU fan leaf key k ((ay y).getD (ae (au y) key) default) u).1,ur k c:=fun c hc=>by
   rcases VS hc with h9|h9
   ·exact h.2 c h9
   ·rw [h9];exact ih
  unfold jU
  split
  ·exact atP h.1 hs
  ·exact⟨h.1,hs⟩
theorem anu{r:Fy k}(h:Pv9 k r.1):ur (xQ r).k (xQ r).y:=by
 cases hr:r.1.2 with
 |none=>rw [DA hr];exact h.1
 |some w=>
  rw [kN hr]
  obtain⟨w1,w2⟩:=h.2 w hr
  refine⟨fun p hp=>by rw [gh.1 hp];exact w1,fun c hc=> ?_⟩
  rcases dK.1 hc with h9|h9
  ·rw [h9];exact h.1
  ·rw [gh.1 h9];exact w2
theorem anv:∀ {k:Nat} {y:BT k} {u:List Bool},ur k y→ur (tf k y u).k (tf k y u).y
 |0,y,u,h=>h
 |k+1,y,u,h=>by
  by_cases e:(ay y).length=1
  ·rw [show tf (k+1) y u=_ from if_pos e];exact DL h.2 0
  ·rw [show tf (k+1) y u=_ from if_neg e];exact h
variable {t:k8}
theorem ayN(ee:key.b.size≤16)(h:ur t.k t.y):ur (yI fan leaf key e t).2.k (yI fan leaf key e t).2.y:=by
 cases hr:nW fan leaf key e t
 ·rw [Ol hr];exact h
 ·rw [lB hr];exact anu (aks ee _ _ h)
theorem aku(ee:key.b.size≤16)(h:ur t.k t.y):ur (qe fan leaf key t).k (qe fan leaf key t).y:=anv (akt ee _ _ h)
theorem ac3:∀ {ps:List aG} {t:k8},(∀p∈ps,p.key.b.size≤16)→ur t.k t.y→ur (th fan leaf ps t).k (th fan leaf ps t).y
 |[],t,_,h=>h
 |p::ps,t,hp,h=>ac3 (ps:=ps) (t:=qe fan leaf p.key t) (fun q hq=>hp q (dk _ hq)) (aku (hp p (tO ..)) h)
theorem aDh{o:bx}(hT:mC fan leaf t)(h:ur t.k t.y):ur (tj fan leaf o t).2.k (tj fan leaf o t).2.y:=by
 by_cases hR:o.R
 ·have hk:=hR.1.2.2.1
  by_cases h5:o.kind=5
  ·rw [YP hR h5];exact h
  ·by_cases h6:o.kind=6
   ·rw [YQ hR h6];exact h
   ·by_cases h4:o.kind=4
    ·rw [YR hR h4]
     exact ac3 (fun p hp=>((dr.1 hT.rows).1 p (eO.1 (gu hp)).1).1) h
    ·by_cases h3:o.kind=3
     ·rw [YS hR h3];exact aku hk h
     ·rw [YT hR h5 h6 h4 h3];exact ayN hk h
 ·rw [YO hR];exact h
end
section
variable {fan leaf:Int} {t:k8}
theorem mC.nodes(h:mC fan leaf t):(bf t.k t.y).length≤2*t.rows.length+1:=by
 have hc:=h.kd
 have dI:=h.ok
 obtain⟨k,y,u⟩:=t
 cases k with
 |zero=>show 1≤_;omega
 |succ k=>
  have h1:(bf (k+1) y).length+1≤2*(BT.rows (k+1) y).length:=VQ hc.1 hc.2.2.1 (k+1) c7 dI (by rw [if_neg aa];show(2:Int)≤if k+1=0 then 0 else 2;rw [if_neg aa];exact eI _)
  show(bf (k+1) y).length≤2*(BT.rows (k+1) y).length+1
  omega
theorem mC.aDi(h:mC fan leaf t):t.k<(bf t.k t.y).length:=YG c7 h.ok
end
section
variable {fan leaf:Int} {key:af} {e:bG}
variable {P:List af} {k:Nat} {u:List Bool}
theorem anw{s:Int}{K:List (BT k)} :(u5 fan s P K u).2.length=u.length:=by
 unfold u5
 split
 ·rfl
 ·exact cg ..
theorem VT:∀(k:Nat) {y:BT k} (u:List Bool),(gq fan leaf key e k y u).2.length=u.length
 |0,y,u=>by
  by_cases h5:((bW (di y) key e).length:Int)≤leaf
  ·rw [xH h5]
  ·rw [xI h5];exact cg ..
 |k+1,y,u=>by
  have ih:=VT k (y:=(ay y).getD (ae (au y) key) default) u
  show(zW fan y (ae (au y) key) (gq fan leaf key e k ((ay y).getD (ae (au y) key) default) u)).2.length=_
  generalize gq fan leaf key e k ((ay y).getD (ae (au y) key) default) u=r at*
  unfold zW
  cases hr:r.1.2 with
  |none=>exact ih
  |some w=>exact anw.trans ih
theorem ahv{s:Int}{K:List (BT k)}{i:Nat} :(vN fan leaf s P K i u).2.length=u.length:=by
 unfold vN
 split
 ·exact cg ..
 ·rfl
theorem VU:∀(k:Nat) {y:BT k} (u:List Bool),(jU fan leaf key k y u).2.length=u.length
 |0,y,u=>rfl
 |k+1,y,u=>by
  have ih:=VU k (y:=(ay y).getD (ae (au y) key) default) u
  unfold jU
  split
  ·exact ahv.trans ih
  ·exact ih
theorem ac4:∀ {k:Nat} {y:BT k} {u:List Bool},(tf k y u).u.length=u.length
 |0,y,u=>rfl
 |k+1,y,u=>by
  by_cases e:(ay y).length=1
  ·rw [show tf (k+1) y u=_ from if_pos e];exact cg ..
  ·rw [show tf (k+1) y u=_ from if_neg e]
variable {t:k8}
theorem anx:(yI fan leaf key e t).2.u.length=t.u.length:=by
 cases hr:nW fan leaf key e t
 ·rw [Ol hr]
 ·rw [lB hr]
  show(xQ (gq fan leaf key e t.k t.y t.u)).u.length=_
  have h9:=VT (fan:=fan) (leaf:=leaf) (key:=key) (e:=e) t.k (y:=t.y) t.u
  cases hs:(gq fan leaf key e t.k t.y t.u).1.2 with
  |none=>rw [DA hs];exact h9
  |some w=>rw [kN hs];exact(cg ..).trans h9
theorem VV:(qe fan leaf key t).u.length=t.u.length:=ac4.trans (VU _ _)
theorem RS:∀ {ps:List aG} {t:k8},(th fan leaf ps t).u.length=t.u.length
 |[],t=>rfl
 |p::ps,t=>(RS (ps:=ps) (t:=qe fan leaf p.key t)).trans VV
theorem atQ{o:bx} :(tj fan leaf o t).2.u.length=t.u.length:=by
 by_cases hR:o.R
 ·by_cases h5:o.kind=5
  ·rw [YP hR h5]
  ·by_cases h6:o.kind=6
   ·rw [YQ hR h6]
   ·by_cases h4:o.kind=4
    ·rw [YR hR h4];exact RS
    ·by_cases h3:o.kind=3
     ·rw [YS hR h3];exact VV
     ·rw [YT hR h5 h6 h4 h3];exact anx
 ·rw [YO hR]
end
structure LB (fan leaf bp:Int) (t:k8):Prop where
 ok:mC fan leaf t
 pv:ur t.k t.y
 len:(t.u.length:Int)=bp
section
variable {fan leaf bp:Int} {t:k8} {o:bx}
theorem LB.do(h:LB fan leaf bp t):LB fan leaf bp (tj fan leaf o t).2:=⟨(ahq h.ok).1,aDh h.ok h.pv,by rw [atQ];exact h.len⟩
theorem ayO{l:List aG} :(qU l o).2.err≠4:=by
 unfold qU
 split
 ·show(3:Int)≠4;decide
 ·split
  ·show(0:Int)≠4;decide
  ·split<;>(show(0:Int)≠4;decide)
theorem atT{key:af}{k:Nat}{y:BT k} :Bl fan leaf key k y≤k+2:=by
 unfold Bl
 have h1:=atU ((iL key k y).map (td fan leaf))
 rw [dt,oW]at h1
 exact h1
theorem LB.full(h:LB fan leaf bp t)(he:(tj fan leaf o t).1.err=4):
  tj fan leaf o t=(⟨4,false,af.nil,[]⟩,t)∧(qU t.rows o).2.err=0∧(o.kind=1∨o.kind=2)∧(bz t.rows o.key).isSome=false∧bp-((kp t.u).length:Int)<(t.k:Int)+1+1:=by
 rcases (ahq (o:=o) h.ok).2 with⟨h1,h2,h3,h4⟩|⟨h1,_⟩
 ·refine⟨h1,?_,h3,?_,?_⟩
  ·rw [agA h2 aa aa]
  ·unfold nW at h4
   rw [rM]at h4
   obtain⟨g1,g2,g3⟩:=EM (fan:=fan) (leaf:=leaf) (key:=o.key) c7 (jA o.key) h.ok.ok
   cases hs:(bz t.rows o.key).isSome
   ·rfl
   ·exfalso
    have h6:=h4.1
    unfold qP at h6
    rw [g3,hs]at h6
    cases h6
  ·unfold nW at h4
   rw [rM]at h4
   have h5:=Au h4.2
   have h6:=atT (fan:=fan) (leaf:=leaf) (key:=o.key) (k:=t.k) (y:=t.y)
   have h7:=qO t.u
   have h8:=h.len
   omega
 ·exfalso
  rw [h1]at he
  exact ayO he
theorem LB.MF(h:LB fan leaf bp t)(he:¬(tj fan leaf o t).1.err=4):(tj fan leaf o t).1=(qU t.rows o).2∧(tj fan leaf o t).2.rows=(qU t.rows o).1:=by
 rcases (ahq (o:=o) h.ok).2 with⟨h1,_⟩|h1
 ·exact absurd (by rw [h1]) he
 ·exact h1
theorem LB.room{n i:Nat}(h:LB fan leaf (4*(n:Int)+8) t)(hi:i≤n)(hr:t.rows.length≤i):¬(tj fan leaf o t).1.err=4:=fun he=>by
 have h1:=(h.full he).2.2.2.2
 have h2:=h.ok.nodes
 have h3:=h.ok.aDi
 have h4:=h.ok.count
 omega
def VW (n:Nat):k8:=⟨0,zY (aF (List.replicate n false):Int) [],(List.replicate n false).set (aF (List.replicate n false)) true⟩
theorem RT{n:Nat}(hn:1≤n):aF (List.replicate n false)<(List.replicate n false).length:=by
 rcases rO (aF (List.replicate n false)) (List.replicate n false).length with h|h
 ·exact h
 ·exfalso
  have h1:=Dk (Nat.le_antisymm (F6 _) h) 0 (by rw [wq];omega)
  rw [List.getElem_replicate]at h1
  cases h1
theorem aDj{n:Nat}(hn:1≤n∧n≤4096)(hc:4≤fan∧fan≤64∧2≤leaf∧leaf≤64):LB fan leaf (n:Int) (VW n)∧(VW n).rows=[]:=by
 have hu:=IZ (RT hn.1)
 have hns:∀s,da (List.replicate n false) s=false:=fun s=>by
  cases h:da (List.replicate n false) s
  ·rfl
  ·obtain⟨k,hk,_,h2⟩:=lX.1 h
   rw [List.getElem_replicate]at h2
   cases h2
 refine⟨⟨⟨⟨⟨eI _,by show((0:Nat):Int)≤leaf;omega⟩,dr.2 ⟨fun p hp=>(by cases hp),List.Pairwise.nil⟩,fun p hp=>(by cases hp)⟩,fun m hm=> ?_,(by show [_].Nodup;simp),fun s hs=> ?_,?_,hc⟩,fun p hp=>(by cases hp),?_⟩,rfl⟩
 ·rw [gh.1 (show m∈[fY 0 (zY (aF (List.replicate n false):Int) [])]from hm)]
  exact(hu.iff _).2 (.inr (gh.2 rfl))
 ·rcases (hu.iff s).1 hs with h9|h9
  ·rw [hns s]at h9;cases h9
  ·exact h9
 ·show(List.set _ _ _).length≤4096
  rw [cg,wq];exact hn.2
 ·show((List.set _ _ _).length:Int)=_
  rw [cg,wq]
end
end Go.Fw
namespace Go.Proofs.YthhpfadbojfdnaaGreat
open Go Go.Fw Go.RowKit
attribute [local irreducible] Ok W WC
variable {G:GH}
theorem VX(fh:Int)(dF:Int)(iS:Int)(cX:Int)(fF:Int):
    Fc Tryz.prog 7 [.agg #[iV fh,iV dF,iV iS,iV cX,iV fF]] G [] (fun v G' M'=>(¬(4≤fh∧fh≤64∧2≤dF∧dF≤64∧1≤cX∧cX≤4096)∧v=.tuple #[.pointer none,iV 2]∧M'=[])∨((4≤fh∧fh≤64∧2≤dF∧dF≤64∧1≤cX∧cX≤4096)∧∃aP,v=.tuple #[aC aP,iV 0]∧ky (fun ba=>bY fu 60 4 3 106 ba) 62 67 9 aP fh dF G' (VW cX.toNat) M')):=by
 refine Fc.go [.tmp 2,.tmp 3] Tryz.func7 Tryz.ntmps7 rfl (fun w0=>(g9 2 ?_))
 refine W.box (L:=[iV _,iV _,iV _,iV _,iV _]) rfl rfl (fun b1=>(g9 11 ?_))
 refine W.sd 10 (fun h9 p9=> ?_) (fun h9 p9=> ?_)
 ·refine g9 23 ?_
  refine WC.sub (M':=[]) (bB.cons _) (g9 3 ?_)
  exact .inl ⟨aa,rfl,rfl⟩
 refine g9 8 ?_
 refine W.sd 15 (fun xa pG=> ?_) (fun xa pG=> ?_)
 ·refine g9 18 ?_
  refine WC.sub (M':=[]) (bB.cons _) (g9 3 ?_)
  exact .inl ⟨aa,rfl,rfl⟩
 refine g9 8 ?_
 refine W.sd 20 (fun Y1 Y2=> ?_) (fun Y1 Y2=> ?_)
 ·refine g9 13 ?_
  refine WC.sub (M':=[]) (bB.cons _) (g9 3 ?_)
  exact .inl ⟨aa,rfl,rfl⟩
 refine g9 9 ?_
 refine WC.cd (fun AI pH=> ?_) (fun AI pH=> ?_)
 ·refine g9 6 ?_
  refine WC.sub (M':=[]) (bB.cons _) (g9 3 ?_)
  exact .inl ⟨aa,rfl,rfl⟩
 refine g9 6 ?_
 refine W.call (Mp:=[]) (anz cX) rfl ah ?_
 intro v5 G2 H6 lJ q3
 refine Or.elim q3 (fun q6=> ?_) (fun q7=> ?_)
 ·refine match q6 with|⟨aQO,GN,FV⟩=> ?_
  subst GN
  subst FV
  refine g9 22 ?_
  refine WC.sub (M':=[]) (bB.cons _) (g9 3 ?_)
  exact .inl ⟨aa,rfl,rfl⟩
 refine match q7 with|⟨hC,ba,HX,hA9⟩=> ?_
 subst HX
 refine W.perm (ag ah).symm ?_
 obtain⟨n9,hn9⟩:∃n,cX.toNat=n:=⟨_,rfl⟩
 rw [hn9]at hA9
 have hn8:1≤n9∧n9≤4096:=by omega
 refine g9 24 ?_
 refine W.ok (aY (L:=[.pointer _,iV _,iV _,iV _]) aGy aGx rfl rfl rfl) (W.box (L:=[.pointer _,iV _,iV _,iV _]) rfl rfl (fun vG=>(g9 7 ?_)))
 refine W.ok (aY (L:=[iV _,lV _ _ _,lV _ _ _,lV _ _ _]) vX vW rfl rfl rfl) (W.box (L:=[iV _,lV _ _ _,lV _ _ _,lV _ _ _]) rfl rfl (fun b12=> ?_))
 have atV:=RT hn8.1
 refine W.call (Mp:=H6) (kg hA9 b12) rfl (ag (ag (ag ah))) ?_
 intro v16 Xa Fk lT yg
 refine match yg with|⟨ac5,Pt⟩=> ?_
 refine W.perm (ag (ag (ag ah))).symm ?_
 rw [iF atV]at ac5 Pt
 subst ac5
 try dsimp only at Pt
 refine g9 17 ?_
 refine WC.sub (M':=((b12,ar 67 [iV 0,lV none 0 0,lV none 0 0,lV none 0 0])::((vG,ar 62 [aC ba,aK (aF (List.replicate n9 false)),iV fh,iV dF])::(Fk++[])))) ((((bi bB _).cons _).k9).k9) (WC.perm (M':=((vG,ar 62 [aC ba,aK (aF (List.replicate n9 false)),iV fh,iV dF])::((b12,ar 67 [iV 0,lV none 0 0,lV none 0 0,lV none 0 0])::(Fk++[])))) ((((ah.cons _).trans ah).cons _).trans ((List.Perm.swap _ _ _).trans (ah.cons _))) (WC.ret ?_))
 refine⟨.inr rfl,[_,_],⟨rfl,rfl,trivial⟩,_,bB,?_⟩
 refine .inr ⟨⟨aa,aa,aa,aa,hC.1,hC.2⟩,_,rfl,?_⟩
 rw [hn9]
 refine⟨ba,_,_,Fk,[(b12,ar 67 [iV 0,lV none 0 0,lV none 0 0,lV none 0 0])],?_,rfl,Pt,bD.Dl (kf (by rw [wq];rw [wq]at atV;exact atV)) aE.nil az.nil az.nil⟩
 refine List.Perm.cons _ ?_
 rw [cx]
 exact tN (l₁:=[_])

theorem Nn(fh:Int)(dF:Int)(iS:Int)(cX:Int)(fF:Int){dH:Value}{l:List A7}(aQ:az X8 G dH l):
    Fc Tryz.prog 3 [.agg #[iV fh,iV dF,iV iS,iV cX,iV fF],dH] G [] (fun v _ _=>v=.bool (true)):=by
 obtain⟨dz,dA,rfl⟩:=aQ.form
 have hl:=aQ.bq
 refine Fc.go [.tmp 4] Tryz.func3 Tryz.ntmps3 rfl (fun w0=>(g9 2 ?_))
 refine W.box (L:=[iV _,iV _,iV _,iV _,iV _]) rfl rfl (fun b1=>(g9 7 ?_))
 refine W.call (Mp:=[]) (anA aQ) rfl ah ?_
 intro v5 G2 H6 lJ q3
 refine match q3 with|⟨⟨rf9,CI,arF⟩,DB⟩=> ?_
 subst CI
 subst DB
 refine g9 3 ?_
 refine WC.cond rfl (fun zu=> ?_) (fun zu=> ?_)
 ·refine g9 2 ?_
  refine W.aH (yK) rfl (g9 6 ?_)
  rfl
 have Yl:aAw l:=arF (by simpa using zu)
 obtain⟨j8,hfo,hff⟩:=Yl
 refine g9 5 ?_
 refine W.call (Mp:=[]) (VY fh dF iS cX fF) rfl ah ?_
 intro v11 G8 Pq H9 q9
 refine Or.elim q9 (fun q12=> ?_) (fun q13=> ?_)
 ·refine match q12 with|⟨hnc,Rj,z4⟩=> ?_
  subst Rj
  subst z4
  refine g9 15 ?_
  refine W.ok (Xn rfl rfl aa) (g9 1 ?_)
  refine W.ok (aY (L:=[iV _,iV _,iV _,iV _,iV _]) apT aiZ rfl rfl rfl) (W.call (Mp:=[]) (VX fh dF 0 (4*(l.length:Int)+8) 0) rfl ah ?_)
  intro v19 G16 aAh aA3 q17
  refine Or.elim q17 (fun DI=> ?_) (fun Kr=> ?_)
  ·refine match DI with|⟨aQP,Aa,Af⟩=> ?_
   subst Aa
   subst Af
   refine g9 17 ?_
   refine W.aH (yK) rfl (g9 6 ?_)
   rfl
  refine match Kr with|⟨hCp,b_p,xe,hBp⟩=> ?_
  subst xe
  refine W.perm (ag ah).symm (g9 17 ?_)
  refine W.aH (yK) rfl (g9 6 ?_)
  rfl
 refine match q13 with|⟨hC,aP,bA,vg,YY⟩=> ?_
 subst vg
 refine W.perm (ag ah).symm (g9 15 ?_)
 refine W.ok (Xn rfl rfl aa) (g9 1 ?_)
 refine W.ok (aY (L:=[iV _,iV _,iV _,iV _,iV _]) apT aiZ rfl rfl rfl) (W.call (Mp:=[]) (VX fh dF 0 (4*(l.length:Int)+8) 0) rfl ah ?_)
 intro v29 G26 LS Pm DK
 refine Or.elim DK (fun LA=> ?_) (fun q31=> ?_)
 ·exact absurd (by obtain⟨⟨f1,f2⟩,⟨l1,l2⟩,_⟩:=hC;dsimp only at f1 f2 l1 l2;omega) LA.1
 refine match q31 with|⟨hCp,b_p,aIo,hBp⟩=> ?_
 subst aIo
 refine W.perm (ag ah).symm (g9 29 ?_)
 have Xm:LB fh dF (4*(l.length:Int)+8) (VW (4*(l.length:Int)+8).toNat)∧(VW (4*(l.length:Int)+8).toNat).rows=[]:=by obtain⟨⟨f1,f2⟩,⟨l1,l2⟩,_⟩:=hC;dsimp only at f1 f2 l1 l2;have h9:=aDj (fan:=fh) (leaf:=dF) (n:=(4*(l.length:Int)+8).toNat) aa ⟨f1,f2,l1,l2⟩;rw [show(((4*(l.length:Int)+8).toNat:Nat):Int)=(4*(l.length:Int)+8)by omega]at h9;exact h9
 refine g9 7 ?_
 refine WC.perm (M':=((b1,ar 23 [iV fh,iV dF,iV iS,iV cX,iV fF])::(Pq++(LS++[])))) (((bO _ ((bO _ ah).trans ah)).trans (bJ ah)).cons _) ?_
 refine WC.loop (X:=(Nat×(List Nd×af)×k8)×MH×MH) (fun x=>[(41,aK x.1.1),(39,lV dz l.length dA),(40,aK ((l).length)),(5,aC aP),(7,aC b_p)]) (fun x G Ml=>Ml=((b1,ar 23 [iV fh,iV dF,iV iS,iV cX,iV fF])::(x.2.1++(x.2.2++[])))∧oR 98 4 3 149 100 56 aP bA (⟨fh,dF,iS,cX,fF⟩:aX) G (x.1.2.1) x.2.1∧ky (fun ba=>bY fu 60 4 3 106 ba) 62 67 9 b_p fh dF G (x.1.2.2) x.2.2∧x.1.1≤l.length∧x.1.2.2.rows.length≤x.1.1∧(∃T,Tree (⟨fh,dF,iS,cX,fF⟩:aX) x.1.2.1.1 T)∧Grown (⟨fh,dF,iS,cX,fF⟩:aX) (x.1.1:Int) x.1.2.1.1∧LB fh dF (4*(l.length:Int)+8) x.1.2.2∧x.1.2.2.rows=bM x.1.2.1.1) (fun x=>l.length-x.1.1) (((0,([lZ 0],af.nil),VW (4*(l.length:Int)+8).toNat):Nat×(List Nd×af)×k8),Pq,LS) ct ?_ ?_
 ·exact⟨rfl,(by exact(oR.mono Pm YY)),(by exact hBp),kW _,(by dsimp only;rw [Xm.2];exact kW _),⟨_,U9 hC⟩,Q1,Xm.1,Xm.2.trans abU.symm⟩
 rintro⟨⟨k,⟨L,cu⟩,t⟩,wB,Jo⟩ atW G33 _ lq ⟨rfl,gj,pA,hk,aA4,hTr,hg,hK,hmm⟩
 try dsimp only at gj pA hk aA4 hTr hg hK hmm
 obtain⟨T8,t9⟩:=hTr
 have hPm:bc t.rows:=hK.ok.rows
 have aIp:=fun o:bx=>(aCX (o:=o) hPm).2
 refine WC.fr (f:=gk atW [(41,aK k),(39,lV dz l.length dA),(40,aK ((l).length)),(5,aC aP),(7,aC b_p)]) rfl (g9 6 ?_)
 refine WC.cd (fun h42 p42=> ?_) (fun h42 p42=> ?_)
 ·try dsimp only at p42
  refine g9 6 ?_
  have q38:=(aQ.mono (((lJ.trans H9).trans Pm).trans lq)).at (i:=k) aa
  refine match q38 with|⟨_,aIq,⟨Dt,aIr,aIs⟩⟩=> ?_
  subst Dt
  refine g9 2 ?_
  refine W.alloc aGt (fun b39=>(g9 8 ?_))
  refine W.call (Mp:=wB) (Ag gj t9 l[k].o.kind l[k].o.key l[k].o.hi l[k].o.bQ l[k].o.val l[k].o.lim (k:Int) hg aa) rfl (ag (ag ah)) ?_
  intro v43 G40 DM Jm q41
  refine match q41 with|⟨a9,l9,hD9,⟨aOE,Jp,Y3,Y4,ac6,aDk,ayP⟩,aIt⟩=> ?_
  subst Jp
  subst ac6
  refine W.perm (ag (ag ah)).symm ?_
  obtain⟨T9,t10⟩:=hD9.t
  have aOF:=t10.C2.1
  refine W.alloc T0 (fun b47=>(g9 3 ?_))
  refine WC.perm (M':=((b47,ar 40 [iV (a9).err,.bool (a9).has,sV (a9).val.b,lV Y3 (a9).rows.length Y4])::((b39,ar 37 [iV ((l)[k]).o.kind,sV ((l)[k]).o.key.b,sV ((l)[k]).o.hi.b,.bool ((l)[k]).o.bQ,sV ((l)[k]).o.val.b,iV ((l)[k]).o.lim,iV ((l)[k]).fl])::((b1,ar 23 [iV fh,iV dF,iV iS,iV cX,iV fF])::(Jo++(DM++[])))))) (((((bO _ ah).trans (bJ ah)).cons _).cons _).cons _) ?_
  refine WC.join (X:=(k8)×MH) (fun t2=>[(5,aC aP),(10,aC b39),(39,lV dz l.length dA),(40,aK ((l).length)),(41,aK k),(7,aC b_p)]) (fun t2 G Ml=>Ml=((b47,ar 40 [iV (a9).err,.bool (a9).has,sV (a9).val.b,lV Y3 (a9).rows.length Y4])::((b39,ar 37 [iV ((l)[k]).o.kind,sV ((l)[k]).o.key.b,sV ((l)[k]).o.hi.b,.bool ((l)[k]).o.bQ,sV ((l)[k]).o.val.b,iV ((l)[k]).o.lim,iV ((l)[k]).fl])::((b1,ar 23 [iV fh,iV dF,iV iS,iV cX,iV fF])::(t2.2++(DM++[])))))∧ky (fun ba=>bY fu 60 4 3 106 ba) 62 67 9 b_p fh dF G (t2.1) t2.2∧t2.1.rows.length≤k+1∧LB fh dF (4*(l.length:Int)+8) t2.1∧t2.1.rows=bM l9) ?_ ?_
  ·refine WC.seq (WC.dw ((iD.k9.k9).k9) (d9 [0,1,2,3] ?_))
   refine WD.sp 52 rfl (fun RU=> ?_) (fun RU=> ?_)
   ·have zb:=aqO RU
    try dsimp only at zb
    refine d9 [4,5,6,7] ?_
    refine WD.aA5 [8] (by kernel_rfl) rfl ⟨⟨_,rfl,.inr ⟨_,52,_,_,rfl,rfl,rfl,RU,rfl⟩,?_⟩,trivial⟩
    have hN9:=hD9.MF zb
    have hM9:=hK.MF (o:=l[k].o) (hK.room aa aA4)
    refine W.call (Mp:=Jo) (atI (bpM.mono Jm pA) l[k].o.kind l[k].o.key l[k].o.hi l[k].o.bQ l[k].o.val l[k].o.lim hK.ok) rfl (ag (ag (ag ah))) ?_
    intro v51 G48 LV CM Xo
    refine match Xo with|⟨⟨aOG,DN,_,_,Jq,aDl,ayQ⟩,Um⟩=> ?_
    subst DN
    subst Jq
    refine W.perm (ag (ag (ag ah))).symm ?_
    have hK3:=hK.do (o:=l[k].o)
    refine W.nn (WD.aA5 [9] (by kernel_rfl) rfl ⟨⟨_,rfl,.inr ⟨_,52,_,_,rfl,rfl,rfl,RU,rfl⟩,(W.aH ((Y5 (show xF _ _ a9 from⟨_,_,rfl,(aDk.mono CM),ayP⟩) (show xF _ _ (tj fh dF l[k].o t).1 from⟨_,_,rfl,aDl,ayQ⟩)).mono (fun v _ _ _ hv=>hv.trans (ax Value.bool (dB (hN9.1.trans (by rw [hM9.1,hmm])))))) rfl (W.nn (d9 [10,11] ?_)))⟩,trivial⟩)
    refine g9 5 ?_
    exact⟨CM,((tj fh dF l[k].o t).2,LV),ct,⟨rfl,(by exact Um),by dsimp only;rw [hM9.2];exact gg (aIp l[k].o) aa,hK3,by dsimp only;rw [hM9.2,hN9.2,hmm]⟩⟩
   have zb:=aqP RU
   try dsimp only at zb
   have hF9:=hD9.full zb
   refine d9 [4,5,6,7,8,9,10,11] ?_
   refine g9 5 ?_
   exact⟨Le.rfl,(t,Jo),ct,⟨rfl,(by exact(bpM.mono Jm pA)),by dsimp only;omega,hK,hmm.trans hF9.2.1.symm⟩⟩
  rintro⟨t2,Jo⟩ aA6 G55 _ B7 ⟨rfl,pA,zR,hK2,o7⟩
  try dsimp only at pA zR hK2 o7
  refine g9 8 ?_
  refine WC.perm (M':=((b47,ar 40 [iV (a9).err,.bool (a9).has,sV (a9).val.b,lV Y3 (a9).rows.length Y4])::((b39,ar 37 [iV ((l)[k]).o.kind,sV ((l)[k]).o.key.b,sV ((l)[k]).o.hi.b,.bool ((l)[k]).o.bQ,sV ((l)[k]).o.val.b,iV ((l)[k]).o.lim,iV ((l)[k]).fl])::((b1,ar 23 [iV fh,iV dF,iV iS,iV cX,iV fF])::(DM++(Jo++[])))))) (((((bO _ ah).trans (bJ ah)).cons _).cons _).cons _) ?_
  refine WC.loop (X:=(Nat×(List Nd×af))×MH) (fun y=>[(63,aK y.1.1),(7,aC b_p),(39,lV dz l.length dA),(40,aK ((l).length)),(41,aK k),(62,iV ((l)[k]).fl),(5,aC aP)]) (fun y G Ml=>Ml=((b47,ar 40 [iV (a9).err,.bool (a9).has,sV (a9).val.b,lV Y3 (a9).rows.length Y4])::((b39,ar 37 [iV ((l)[k]).o.kind,sV ((l)[k]).o.key.b,sV ((l)[k]).o.hi.b,.bool ((l)[k]).o.bQ,sV ((l)[k]).o.val.b,iV ((l)[k]).o.lim,iV ((l)[k]).fl])::((b1,ar 23 [iV fh,iV dF,iV iS,iV cX,iV fF])::(y.2++(Jo++[])))))∧oR 98 4 3 149 100 56 aP bA (⟨fh,dF,iS,cX,fF⟩:aX) G (y.1.2) y.2∧(∃T,Tree (⟨fh,dF,iS,cX,fF⟩:aX) y.1.2.1 T)∧Grown (⟨fh,dF,iS,cX,fF⟩:aX) ((k:Int)+1) y.1.2.1∧bM y.1.2.1=bM l9) (fun y=>l[k].fl.toNat-y.1.1) (((0,(l9,cu)):Nat×(List Nd×af)),DM) ct ?_ ?_
  ·exact⟨rfl,(by exact(oR.mono B7 aIt)),hD9.t,hD9.g,rfl⟩
  rintro⟨⟨j,⟨L2,cu2⟩⟩,wB⟩ aIu G56 _ Jr ⟨rfl,gj,aA7,hg2,atX⟩
  try dsimp only at gj aA7 hg2 atX
  obtain⟨T10,t11⟩:=aA7
  have aOH:=t11.C2.1
  refine WC.fr (f:=gk aIu [(63,aK j),(7,aC b_p),(39,lV dz l.length dA),(40,aK ((l).length)),(41,aK k),(62,iV ((l)[k]).fl),(5,aC aP)]) rfl (g9 6 ?_)
  refine WC.cd (fun h64 p64=> ?_) (fun h64 p64=> ?_)
  ·try dsimp only at p64
   have hfk:=(hfo _ (bN (by omega:k<l.length))).2.2.2
   refine g9 6 ?_
   refine W.call (Mp:=wB) (ac7 gj t11) rfl (ag (ag (ag ah))) ?_
   intro v60 G57 ako MR q58
   refine match q58 with|⟨N9,r9,z7,RP,acY⟩=> ?_
   subst RP
   refine W.perm (ag (ag (ag ah))).symm ?_
   have xX:=agB t11 hg2 z7
   obtain⟨T12,t12⟩:=xX.1
   have aOI:=t12.C2.1
   refine g9 8 ?_
   exact⟨MR,(((j+1,(r9.2.2,aCU r9.2.2 cu2)):Nat×(List Nd×af)),ako),ct,⟨rfl,(by exact acY),xX.1,xX.2.2.1,xX.2.1.trans atX⟩,by dsimp only;omega⟩
  try dsimp only at p64
  refine g9 9 ?_
  refine W.sub ((bB.cons _).cons _) (g9 2 ?_)
  exact⟨aO,(((k+1,(L2,cu2),t2):Nat×(List Nd×af)×k8),wB,Jo),ct,⟨rfl,(by exact gj),(by exact(bpM.mono Jr pA)),by dsimp only;omega,zR,⟨T10,t11⟩,by have h9:=hg2;exact h9,hK2,o7.trans atX.symm⟩,by dsimp only;omega⟩
 try dsimp only at p42
 refine g9 8 ?_
 refine W.call (Mp:=wB) (VZ gj t9) rfl (ag ah) ?_
 intro v66 G63 atY atZ Yt
 refine match Yt with|⟨akv,ahw⟩=> ?_
 have ahw:=ahw.symm
 subst ahw
 refine W.perm (ag ah).symm ?_
 have q69:=akv.form
 refine match q69 with|⟨aIv,aIw,ac8⟩=> ?_
 subst ac8
 refine W.mv (W.call (Mp:=Jo) (ant (bpM.mono atZ pA) hK.ok) rfl (ag (bJ ah)) ?_)
 intro v73 G70 ajj ajk q71
 refine match q71 with|⟨ac9,aQQ⟩=> ?_
 refine W.perm (ag ah).symm ?_
 have q76:=ac9.form
 refine match q76 with|⟨aA8,aA9,Rp⟩=> ?_
 subst Rp
 refine W.aH ((Ki (akv.mono ajk) ac9).mono (fun v _ _ _ hv=>hv.trans (ax Value.bool (dB hmm.symm)))) rfl (g9 2 ?_)
 refine W.aH (yK) rfl (g9 6 ?_)
 rfl

end Go.Proofs.YthhpfadbojfdnaaGreat
