/- Walks of pivots and children with one more, or one fewer. -/
import Derived.Test.YtfhnamngaofccaaGreatQiMl
set_option maxRecDepth 100000
set_option maxHeartbeats 1600000
set_option linter.unusedVariables false
set_option linter.unusedSimpArgs false
set_option linter.unnecessarySimpa false
namespace Go.Proofs.YtfhnamngaofccaaGreat
open Go Go.Fw Go.RowKit
attribute [local irreducible] Ok W WC
variable {G:GH} {de:MH} {eg:MH} {Gi:Value} {qk:Value}
theorem ap7{s:List ah}(ec:aP dg 9 G Gi s de)(i:Nat){u:List ah}(hZ:aP dg 9 G qk u eg)(hi:i≤s.length)(hu:0<u.length)(hw:(s.length+u.length)*16≤140737488355328):
    Fc Tryz.prog 195 [Gi,aT i,qk] G (de++eg) (fun v G' M'=>aP dg 9 G' v ((s.take i++u)++s.drop i) M'):=by
 have hs:=ec.aH
 have hul:=hZ.aH
 have PC:=ec.eD
 refine Fc.go [.tmp 6] Tryz.func195 Tryz.ntmps195 rfl (fun w0=>(WC.perm (M':=(de++(eg++[]))) (by simp) (g9 9 ?_)))
 refine W.ok (ei (i) (s.length) dt ft ec rfl ⟨_,_,rfl,aa⟩ rfl ⟨aa,.inl aa⟩) (g9 16 ?_)
 refine WC.cd (fun fU gX=> ?_) (fun fU gX=> ?_)
 ·exact absurd gX aa
 refine g9 17 ?_
 refine WC.cd (fun m7 m8=> ?_) (fun m7 m8=> ?_)
 ·refine g9 4 ?_
  refine W.cm hZ (dx ai) (fun G1 fL TG=> ?_)
  have q3:=TG.form
  refine match q3 with|⟨_,_,e_2⟩=> ?_
  subst e_2
  refine W.app (e:=dg) dt ft vk rfl Hq rfl rfl ((ec.mono fL)) (TG) ai (hw) (fun v4 Ms5 ho6=>(g9 5 ?_))
  refine⟨.inr rfl,[_],⟨rfl,trivial⟩,Ms5,List.sublist_append_left _ _,?_⟩
  have h:=ho6
  rw [show(s.take i++u)++s.drop i=s++u from by rw [List.take_of_length_le aa,List.drop_eq_nil_of_le aa,List.append_nil]]
  exact h
 refine g9 7 ?_
 refine W.ok (Ok.int (n:=((s.length+u.length:Nat):Int)) (db rfl rfl aa) aa) (W.mv ?_)
 have q7:=ec.B7
 refine match q7 with|⟨awW,HD⟩=> ?_
 refine W.ok (HE (c:=jL Gi) dt HD) (g9 3 ?_)
 refine WC.cd (fun AX u5=> ?_) (fun AX u5=> ?_)
 ·refine g9 4 ?_
  refine W.ok (ei (0) (i) dt ft ec rfl rfl ⟨_,_,rfl,aa⟩ ⟨aa,.inl aa⟩) (g9 2 ?_)
  refine W.ok (Ok.int (n:=((s.length+u.length:Nat):Int)) (db rfl rfl aa) aa) (W.mv (W.ok (Ok.int (n:=((s.length+u.length-i:Nat):Int)) (kG rfl rfl aa) aa) (W.akl (e:=dg) (i:=i) (c:=s.length+u.length-i) dt ft vk rfl Hq Tryz.underlying3 ec ai rfl rfl aa aa aa aa (by rw [show i+(s.length+u.length-i)=s.length+u.length from by omega];exact hw) rfl (fun v40 Ar xF=>(g9 7 ?_)))))
  refine W.ok (er (i) (i+(s.length+u.length-i)) dt ft xF rfl ⟨_,_,rfl,aa⟩ rfl ⟨aa,by have:=fm.eD xF;omega⟩) (W.mv (W.u6 (i) (by simp;omega) dt ft xF ai (Src.zu hZ (dx (dx ai)) aa) rfl rfl aa aa (fun z45 wl xG=>(g9 3 ?_))))
  refine WC.dw eu (d9 [0,1,2] ?_)
  refine WD.tk 3 rfl (Ok.int (n:=((i+u.length:Nat):Int)) (db rfl rfl aa) aa) (WD.tk 4 rfl (er (i+u.length) (i+(s.length+u.length-i)) dt ft xG rfl ⟨_,_,rfl,aa⟩ rfl ⟨aa,by have:=fm.eD xG;omega⟩) (d9 [5,6] ?_))
  refine WD.tk 7 rfl (ei (i) (s.length) dt ft ec rfl ⟨_,_,rfl,aa⟩ rfl ⟨aa,.inl aa⟩) (WD.a1 8 rfl (W.u6 (i+u.length) (by simp;omega) dt ft xG ai (Src.HF (lo:=i) ec (dx ai) aa aa) rfl rfl (by simp;omega) aa (fun z54 As TJ=>(W.nn (g9 10 ?_)))))
  refine⟨.inr rfl,[_],⟨rfl,trivial⟩,As,List.sublist_append_left _ _,?_⟩
  have h:=(TJ.LV (by simp;omega))
  rw [List.append_nil]at h
  exact h
 refine g9 7 ?_
 refine W.ok (Ok.int (n:=((s.length+u.length:Nat):Int)) (db rfl rfl aa) aa) (W.ok (ei 0 (s.length+u.length) dt ft ec rfl rfl ⟨_,_,rfl,aa⟩ ⟨aa,.inr aa⟩) ?_)
 have iC:=fm.extend (m:=u.length) (aP.open ec aa) aa hw aa
 refine g9 10 ?_
 refine W.ok (Ok.int (n:=((i+u.length:Nat):Int)) (db rfl rfl aa) aa) (W.ok (er (i+u.length) (s.length+u.length) dt ft iC rfl ⟨_,_,rfl,aa⟩ rfl ⟨aa,by have:=fm.eD iC;omega⟩) ?_)
 have awX:=fm.eD iC
 refine W.ok (u9 (fn:=Tryz.f204) (tR:=4) (lo:=i+u.length) (hi:=s.length+u.length) Tryz.func204 (by kernel_rfl) (by kernel_rfl) (by kernel_rfl) (by kernel_rfl) dt ft hZ iC ((List.Perm.append_left _ ai).trans (dx ai)) aa aa rfl rfl rfl) (g9 5 ?_)
 refine WC.dw eu (d9 [0,1,2] ?_)
 refine WD.tk 3 rfl (Ok.int (n:=((i+u.length:Nat):Int)) (db rfl rfl aa) aa) (WD.tk 4 rfl (er (i+u.length) (s.length+u.length) dt ft iC rfl ⟨_,_,rfl,aa⟩ rfl ⟨aa,by have:=fm.eD iC;omega⟩) (d9 [5,6] ?_))
 refine WD.tk 7 rfl (er (i) (s.length+u.length) dt ft iC rfl ⟨_,_,rfl,aa⟩ rfl ⟨aa,by have:=fm.eD iC;omega⟩) (WD.a1 8 rfl (W.AZ (i:=i) dt ft iC ai rfl rfl aa (fun z77 adH xH=>(W.nn (g9 6 ?_)))))
 refine W.ok (er (i) (s.length+u.length) dt ft xH rfl ⟨_,_,rfl,aa⟩ rfl ⟨aa,by have:=fm.eD xH;omega⟩) (W.mv (W.u6 (i) (by simp;omega) dt ft xH ai (Src.zu hZ (dx ai) aa) rfl rfl aa aa (fun z82 HC TK=>(g9 10 ?_))))
 refine⟨.inr rfl,[_],⟨rfl,trivial⟩,HC,List.sublist_append_left _ _,?_⟩
 exact(TK.LV aa)

theorem Kf{s:List Int}(ec:aP bY 3 G Gi s de)(i:Nat){u:List Int}(hZ:aP bY 3 G qk u eg)(hi:i≤s.length)(hu:0<u.length)(hw:(s.length+u.length)*8≤140737488355328):
    Fc Tryz.prog 100 [Gi,aT i,qk] G (de++eg) (fun v G' M'=>aP bY 3 G' v ((s.take i++u)++s.drop i) M'):=by
 have hs:=ec.aH
 have hul:=hZ.aH
 have PC:=ec.eD
 refine Fc.go [.tmp 6] Tryz.func100 Tryz.ntmps100 rfl (fun w0=>(WC.perm (M':=(de++(eg++[]))) (by simp) (g9 9 ?_)))
 refine W.ok (ei (i) (s.length) cq ci ec rfl ⟨_,_,rfl,aa⟩ rfl ⟨aa,.inl aa⟩) (g9 16 ?_)
 refine WC.cd (fun fU gX=> ?_) (fun fU gX=> ?_)
 ·exact absurd gX aa
 refine g9 17 ?_
 refine WC.cd (fun m7 m8=> ?_) (fun m7 m8=> ?_)
 ·refine g9 4 ?_
  refine W.cm hZ (dx ai) (fun G8 xB Gr=> ?_)
  have q10:=Gr.form
  refine match q10 with|⟨_,_,e_9⟩=> ?_
  subst e_9
  refine W.app (e:=bY) cq ci kp rfl tq rfl rfl ((ec.mono xB)) (Gr) ai (hw) (fun v11 AJ ap8=>(g9 5 ?_))
  refine⟨.inr rfl,[_],⟨rfl,trivial⟩,AJ,List.sublist_append_left _ _,?_⟩
  have h:=ap8
  rw [show(s.take i++u)++s.drop i=s++u from by rw [List.take_of_length_le aa,List.drop_eq_nil_of_le aa,List.append_nil]]
  exact h
 refine g9 7 ?_
 refine W.ok (Ok.int (n:=((s.length+u.length:Nat):Int)) (db rfl rfl aa) aa) (W.mv ?_)
 have RC:=ec.B7
 refine match RC with|⟨awW,HD⟩=> ?_
 refine W.ok (HE (c:=jL Gi) cq HD) (g9 3 ?_)
 refine WC.cd (fun AX u5=> ?_) (fun AX u5=> ?_)
 ·refine g9 4 ?_
  refine W.ok (ei (0) (i) cq ci ec rfl rfl ⟨_,_,rfl,aa⟩ ⟨aa,.inl aa⟩) (g9 2 ?_)
  refine W.ok (Ok.int (n:=((s.length+u.length:Nat):Int)) (db rfl rfl aa) aa) (W.mv (W.ok (Ok.int (n:=((s.length+u.length-i:Nat):Int)) (kG rfl rfl aa) aa) (W.akl (e:=bY) (i:=i) (c:=s.length+u.length-i) cq ci kp rfl tq Tryz.underlying3 ec ai rfl rfl aa aa aa aa (by rw [show i+(s.length+u.length-i)=s.length+u.length from by omega];exact hw) rfl (fun v40 Ar xF=>(g9 7 ?_)))))
  refine W.ok (er (i) (i+(s.length+u.length-i)) cq ci xF rfl ⟨_,_,rfl,aa⟩ rfl ⟨aa,by have:=fm.eD xF;omega⟩) (W.mv (W.u6 (i) (by simp;omega) cq ci xF ai (Src.zu hZ (dx (dx ai)) aa) rfl rfl aa aa (fun z45 wl xG=>(g9 3 ?_))))
  refine WC.dw eu (d9 [0,1,2] ?_)
  refine WD.tk 3 rfl (Ok.int (n:=((i+u.length:Nat):Int)) (db rfl rfl aa) aa) (WD.tk 4 rfl (er (i+u.length) (i+(s.length+u.length-i)) cq ci xG rfl ⟨_,_,rfl,aa⟩ rfl ⟨aa,by have:=fm.eD xG;omega⟩) (d9 [5,6] ?_))
  refine WD.tk 7 rfl (ei (i) (s.length) cq ci ec rfl ⟨_,_,rfl,aa⟩ rfl ⟨aa,.inl aa⟩) (WD.a1 8 rfl (W.u6 (i+u.length) (by simp;omega) cq ci xG ai (Src.HF (lo:=i) ec (dx ai) aa aa) rfl rfl (by simp;omega) aa (fun z54 As TJ=>(W.nn (g9 10 ?_)))))
  refine⟨.inr rfl,[_],⟨rfl,trivial⟩,As,List.sublist_append_left _ _,?_⟩
  have h:=(TJ.LV (by simp;omega))
  rw [List.append_nil]at h
  exact h
 refine g9 7 ?_
 refine W.ok (Ok.int (n:=((s.length+u.length:Nat):Int)) (db rfl rfl aa) aa) (W.ok (ei 0 (s.length+u.length) cq ci ec rfl rfl ⟨_,_,rfl,aa⟩ ⟨aa,.inr aa⟩) ?_)
 have iC:=fm.extend (m:=u.length) (aP.open ec aa) aa hw aa
 refine g9 10 ?_
 refine W.ok (Ok.int (n:=((i+u.length:Nat):Int)) (db rfl rfl aa) aa) (W.ok (er (i+u.length) (s.length+u.length) cq ci iC rfl ⟨_,_,rfl,aa⟩ rfl ⟨aa,by have:=fm.eD iC;omega⟩) ?_)
 have awX:=fm.eD iC
 refine W.ok (u9 (fn:=Tryz.f137) (tR:=4) (lo:=i+u.length) (hi:=s.length+u.length) Tryz.func137 (by kernel_rfl) (by kernel_rfl) (by kernel_rfl) (by kernel_rfl) cq ci hZ iC ((List.Perm.append_left _ ai).trans (dx ai)) aa aa rfl rfl rfl) (g9 5 ?_)
 refine WC.dw eu (d9 [0,1,2] ?_)
 refine WD.tk 3 rfl (Ok.int (n:=((i+u.length:Nat):Int)) (db rfl rfl aa) aa) (WD.tk 4 rfl (er (i+u.length) (s.length+u.length) cq ci iC rfl ⟨_,_,rfl,aa⟩ rfl ⟨aa,by have:=fm.eD iC;omega⟩) (d9 [5,6] ?_))
 refine WD.tk 7 rfl (er (i) (s.length+u.length) cq ci iC rfl ⟨_,_,rfl,aa⟩ rfl ⟨aa,by have:=fm.eD iC;omega⟩) (WD.a1 8 rfl (W.AZ (i:=i) cq ci iC ai rfl rfl aa (fun z77 adH xH=>(W.nn (g9 6 ?_)))))
 refine W.ok (er (i) (s.length+u.length) cq ci xH rfl ⟨_,_,rfl,aa⟩ rfl ⟨aa,by have:=fm.eD xH;omega⟩) (W.mv (W.u6 (i) (by simp;omega) cq ci xH ai (Src.zu hZ (dx ai) aa) rfl rfl aa aa (fun z82 HC TK=>(g9 10 ?_))))
 refine⟨.inr rfl,[_],⟨rfl,trivial⟩,HC,List.sublist_append_left _ _,?_⟩
 exact(TK.LV aa)

variable {mR:Value}
theorem Yc{a:List ah}(dM:ax dg G mR a):
    Fc Tryz.prog 119 [mR] G [] (fun v G' M'=>aP dg 9 G' v (a) M'):=by
 obtain⟨pb,pd,rfl⟩:=dM.form
 have ha:=dM.bytes
 refine Fc.go [.tmp 2] Tryz.func119 Tryz.ntmps119 rfl (fun w0=>(g9 9 ?_))
 refine W.ok (kx dt rfl rfl) (g9 2 ?_)
 refine WC.cond rfl (fun h4=> ?_) (fun h4=> ?_)
 ·have hn:=ax.isNone dM h4
  subst hn
  refine g9 8 ?_
  exact aP.nil
 refine g9 4 ?_
 refine W.mz (e:=dg) dt ft vk rfl (fun v15 Je Jf=>(W.mv (W.app (e:=dg) dt ft vk rfl Hq rfl rfl (Jf) (dM) ai (by simpa using ha) (fun v18 TP LX=>(g9 4 ?_)))))
 refine⟨.inr rfl,[_],⟨rfl,trivial⟩,TP,List.sublist_append_left _ _,?_⟩
 have h:=LX
 rw [List.nil_append]at h
 exact h

theorem Yd{a:List Int}(dM:ax bY G mR a):
    Fc Tryz.prog 120 [mR] G [] (fun v G' M'=>aP bY 3 G' v (a) M'):=by
 obtain⟨pb,pd,rfl⟩:=dM.form
 have ha:=dM.bytes
 refine Fc.go [.tmp 2] Tryz.func120 Tryz.ntmps120 rfl (fun w0=>(g9 9 ?_))
 refine W.ok (kx cq rfl rfl) (g9 2 ?_)
 refine WC.cond rfl (fun h4=> ?_) (fun h4=> ?_)
 ·have hn:=ax.isNone dM h4
  subst hn
  refine g9 8 ?_
  exact aP.nil
 refine g9 4 ?_
 refine W.mz (e:=bY) cq ci kp rfl (fun v21 al0 al1=>(W.mv (W.app (e:=bY) cq ci kp rfl tq rfl rfl (al1) (dM) ai (by simpa using ha) (fun v24 AH adI=>(g9 4 ?_)))))
 refine⟨.inr rfl,[_],⟨rfl,trivial⟩,AH,List.sublist_append_left _ _,?_⟩
 have h:=adI
 rw [List.nil_append]at h
 exact h

theorem ap9{Lm:Value}{p:List ah}(js:ax dg G Lm p){ox:Value}{c:List Int}(gh:ax bY G ox c)(i:Nat)(k:ah)(nv:Int)(hb1:(p.length+1)*16≤140737488355328)(hb2:(c.length+1)*8≤140737488355328)(hi:i64 ((i:Nat):Int))(hv:i64 nv):
    Fc Tryz.prog 184 [Lm,ox,aT i,sV k.b,iV nv] G [] (fun v G' M'=>M'=[]∧∃r:List ah×List Int,r=mf p c i k nv∧∃u0 u1,v=.tuple #[u0,u1]∧ax dg G' u0 (r.1)∧ax bY G' u1 (r.2)):=by
 obtain⟨adW,adX,rfl⟩:=js.form
 obtain⟨fZ,gd,rfl⟩:=gh.form
 have hp:=js.aH
 have hc:=gh.aH
 have TG:=hv.1
 have RM:=hv.2
 refine Fc.go [.tmp 10,.tmp 11] Tryz.func184 Tryz.ntmps184 rfl (fun w0=>(g9 10 ?_))
 refine W.ay (vr js _ (by first|assumption|exact⟨aa,aa⟩)) rfl (W.alloc dY (fun xy=>(g9 9 ?_)))
 refine W.sd 18 (fun iu fM=> ?_) (fun iu fM=> ?_)
 ·exfalso;omega
 refine g9 10 ?_
 refine W.sd 24 (fun m7 m8=> ?_) (fun m7 m8=> ?_)
 ·refine g9 23 ?_
  refine⟨rfl,_,(Cy (.inl aa)).symm,_,_,rfl,?_,?_⟩
  ·exact ax.nil
  exact ax.nil
 refine g9 5 ?_
 refine W.ay (xz _ _ _ _) rfl (g9 4 ?_)
 refine W.sp 30 rfl (fun wT=> ?_) (fun wT=> ?_)
 ·refine g9 17 ?_
  refine⟨rfl,_,(Cy (.inr (.inl (by simpa using wT)))).symm,_,_,rfl,?_,?_⟩
  ·exact ax.nil
  exact ax.nil
 refine g9 11 ?_
 refine WC.cd (fun nN qT=> ?_) (fun nN qT=> ?_)
 ·refine g9 9 ?_
  refine⟨rfl,_,(Cy (.inr (.inr (ah.ext' qT)))).symm,_,_,rfl,?_,?_⟩
  ·exact ax.nil
  exact ax.nil
 have nO:=zG (p:=p) (i:=i) (k:=k) (by simpa using wT)
 have hb:=IJ (p:=p) (c:=c) (i:=i) (k:=k) (v:=nv) aa (by simpa using wT) (fun e=>qT (congrArg ah.b e))
 refine g9 5 ?_
 refine W.call (Mp:=[]) (Yc js) rfl ai ?_
 rintro v30 T2 tC jM TV
 refine W.perm (ae ai).symm (g9 2 ?_)
 refine W.Av (e:=dg) (l:=[_]) (css:=[[sV _]]) dt ft vk rfl rfl rfl rfl rfl rfl ⟨rfl,trivial⟩ (fun v33 aLA aLB=>(W.perm (ae ai).symm (W.call (Mp:=tC++aLA) (ap7 TV _ aLB (by first|assumption|omega) (by first|assumption|omega|simp) (by first|assumption|omega|(simp;omega))) rfl ((List.Perm.of_eq (List.append_assoc _ _ _)).trans ((List.Perm.append_left _ (ae ai)).trans (ae (dx ai)))) ?_)))
 rintro v37 G36 wm Aw akv
 refine W.perm (ae ai).symm (W.mv (W.call (Mp:=[]) (Yd (gh.mono aS)) rfl ai ?_))
 rintro v41 G40 aom L0 aLC
 refine W.perm (ae ai).symm (W.mv (W.ok (Ok.int (n:=((i+1:Nat):Int)) (db rfl rfl aa) aa) (W.mv (W.Av (e:=bY) (l:=[_]) (css:=[[iV _]]) cq ci kp rfl rfl rfl rfl rfl rfl ⟨⟨rfl,aa,aa⟩,trivial⟩ (fun v44 wl Nr=>(W.perm (ae ai).symm (W.call (Mp:=aom++wl) (Kf aLC _ Nr (by first|assumption|omega) (by first|assumption|omega|simp) (by first|assumption|omega|(simp;omega))) rfl ((List.Perm.of_eq (List.append_assoc _ _ _)).trans ((List.Perm.append_left _ (ae ai)).trans (ae (dx ai)))) ?_)))))))
 rintro v48 G47 FW ae7 amq
 refine W.perm (ae ai).symm (g9 4 ?_)
 refine WC.cm (akv.mono aS) (ae (dx ai)) (fun G51 aeJ Jv=>(WC.cm (amq.mono aeJ) (ae ai) (fun G52 afu Jj=>(g9 2 ?_))))
 refine⟨rfl,_,hb.symm,_,_,rfl,?_,?_⟩
 ·exact(Jv.mono afu)
 exact Jj

variable {bN:Value}
theorem Ye{l:List ah}(az:ax dg G bN l)(i:Nat)(j:Nat)(kn:i≤j∧j≤l.length):
    Fc Tryz.prog 153 [bN,aT i,aT j] G [] (fun v G' M'=>aP dg 9 G' v ((l.take j).drop i) M'):=by
 obtain⟨aW,aX,rfl⟩:=az.form
 have hl:=az.aH
 have uT:l.length*16≤140737488355328:=az.bytes
 obtain⟨hi,hj⟩:=kn
 refine Fc.go [.tmp 6] Tryz.func153 Tryz.ntmps153 rfl (fun w0=>(g9 7 ?_))
 refine W.mz (e:=dg) dt ft vk rfl (fun v53 As aqa=>(g9 3 ?_))
 have aLD:=ax.slice az (lo:=i) (hi:=j) aa aa
 refine W.ok (ok_slice (i) (j) dt ft az rfl ⟨_,_,rfl,aa⟩ ⟨_,_,rfl,aa⟩ ⟨aa,aa⟩) (W.app (e:=dg) dt ft vk rfl Hq rfl rfl (aqa) (aLD) ai (by show(0+((l.take j).drop i).length)*16≤_;simp;omega) (fun v57 AF Nz=>(g9 4 ?_)))
 refine⟨.inr rfl,[_],⟨rfl,trivial⟩,AF,List.sublist_append_left _ _,?_⟩
 exact Nz

variable {l:List Int}
theorem z6(az:ax bY G bN l)(i:Nat)(j:Nat)(kn:i≤j∧j≤l.length):
    Fc Tryz.prog 154 [bN,aT i,aT j] G [] (fun v G' M'=>aP bY 3 G' v ((l.take j).drop i) M'):=by
 obtain⟨aW,aX,rfl⟩:=az.form
 have hl:=az.aH
 have uT:l.length*8≤140737488355328:=az.bytes
 obtain⟨hi,hj⟩:=kn
 refine Fc.go [.tmp 6] Tryz.func154 Tryz.ntmps154 rfl (fun w0=>(g9 7 ?_))
 refine W.mz (e:=bY) cq ci kp rfl (fun v60 afi afv=>(g9 3 ?_))
 have aLE:=ax.slice az (lo:=i) (hi:=j) aa aa
 refine W.ok (ok_slice (i) (j) cq ci az rfl ⟨_,_,rfl,aa⟩ ⟨_,_,rfl,aa⟩ ⟨aa,aa⟩) (W.app (e:=bY) cq ci kp rfl tq rfl rfl (afv) (aLE) ai (by show(0+((l.take j).drop i).length)*8≤_;simp;omega) (fun v64 WL anA=>(g9 4 ?_)))
 refine⟨.inr rfl,[_],⟨rfl,trivial⟩,WL,List.sublist_append_left _ _,?_⟩
 exact anA

theorem acC(a:Int):
    Fc Tryz.prog 136 [iV a] G [] (fun v _ _=>v=.bool (false)):=by
 refine Fc.go [.tmp 2] Tryz.func136 Tryz.ntmps136 rfl (fun w0=>(g9 15 ?_))
 refine congrArg Value.bool ?_
 simp

theorem Yf(a:Int):
    Fc Tryz.prog 99 [iV a] G [] (fun v _ _=>v=.bool (false)):=by
 refine Fc.go [.tmp 2] Tryz.func99 Tryz.ntmps99 rfl (fun w0=>(g9 15 ?_))
 refine congrArg Value.bool ?_
 simp

theorem R6(a:Int)(b:Int):
    Fc Tryz.prog 98 [iV a,iV b] G [] (fun v _ _=>v=.bool (decide (a<b))):=by
 refine Fc.go [.tmp 4] Tryz.func98 Tryz.ntmps98 rfl (fun w0=>(g9 8 ?_))
 refine W.ay (acC _) rfl (g9 18 ?_)
 refine congrArg Value.bool ?_
 rfl

theorem Dj(az:ax bY G bN l)(k:Int)(hs:qe l):
    Fc Tryz.prog 60 [bN,iV k] G [] (fun v _ _=>v=.tuple #[iV (((kf l k:Nat):Int)),.bool (decide (k∈l))]):=by
 obtain⟨aW,aX,rfl⟩:=az.form
 have hlen:=az.aH
 refine Fc.go [.tmp 4,.tmp 5] Tryz.func60 Tryz.ntmps60 rfl (fun w0=>(g9 22 ?_))
 refine WC.loop (X:=Nat×Nat) (fun x=>[(6,aT l.length),(7,aT x.1),(8,aT x.2),(0,lV aW l.length aX),(1,iV k)]) (fun x _ Ml=>Ml=[]∧x.1≤x.2∧x.2≤l.length∧(∀q (h:q<l.length),q<x.1→l[q]<k)∧(∀q (h:q<l.length),x.2≤q→¬l[q]<k)) (fun x=>x.2-x.1) (0,l.length) aZ ?_ ?_
 ·exact⟨rfl,by simp,by simp,(fun q _ h=>by simp at h),(fun q h h'=>by simp at h';omega)⟩
 rintro⟨i,j⟩ DQ G1 _ fL ⟨rfl,hi,hj,h1,h2⟩
 dsimp only at hi hj h1 h2
 refine g9 8 ?_
 refine WC.cd (fun lW nM=> ?_) (fun lW nM=> ?_)
 ·refine g9 8 ?_
  refine W.ok (zr TF xE rfl aa) (W.ok (B6 rfl rfl aa) (W.ok (zt xE TF rfl aa) (g9 7 ?_)))
  refine(az.mono fL).a2 (i:=(i+j) / 2) aa (fun he2 Bt=>(W.ok (aY (i:=(i+j) / 2) cq ci (az.mono fL) rfl rfl ⟨by dsimp only;omega,aa⟩) (g9 2 ?_)))
  refine W.ay (R6 _ _) rfl (g9 2 ?_)
  refine WC.cond rfl (fun pT=> ?_) (fun pT=> ?_)
  ·refine g9 7 ?_
   exact⟨Le.rfl,((i+j) / 2+1,j),aZ,⟨rfl,by dsimp only;omega,by dsimp only;omega,(fun q h hq=>Z9 hs aa (va pT) q h (by dsimp only at hq;omega)),h2⟩,by dsimp only;omega⟩
  refine g9 6 ?_
  exact⟨Le.rfl,(i,(i+j) / 2),aZ,⟨rfl,by dsimp only;omega,by dsimp only;omega,h1,(fun q h hq=>Hu hs aa (sU pT) q h (by dsimp only at hq;omega))⟩,by dsimp only;omega⟩
 refine g9 12 ?_
 refine W.sd 35 (fun nN qT=> ?_) (fun nN qT=> ?_)
 ·refine g9 5 ?_
  refine(az.mono fL).a2 (i:=i) aa (fun he6 hi7=>(g9 9 ?_))
  refine W.sd 42 (fun mT vp=> ?_) (fun mT vp=> ?_)
  ·refine g9 18 ?_
   have Yg:∀q (h:q<l.length),i≤q→¬l[q]<k:=fun q h hq=>h2 q h aa
   have jw:kf l k=i:=rW aa h1 Yg
   have hmm:=Hv aa h1 Yg hs
   refine Aq (by rw [jw]) ?_
   exact(decide_eq_true (hmm.2 ⟨aa,vp⟩)).symm
  refine g9 5 ?_
  refine(az.mono fL).a2 (i:=i) aa (fun VE aJ2=>(g9 4 ?_))
  refine W.ay (Yf _) rfl (g9 15 ?_)
  have Yg:∀q (h:q<l.length),i≤q→¬l[q]<k:=fun q h hq=>h2 q h aa
  have jw:kf l k=i:=rW aa h1 Yg
  have hmm:=Hv aa h1 Yg hs
  refine Aq (by rw [jw]) ?_
  exact(decide_eq_false (fun h=>by obtain⟨_,h9⟩:=hmm.1 h;exact vp h9)).symm
 refine g9 24 ?_
 have Yg:∀q (h:q<l.length),i≤q→¬l[q]<k:=fun q h hq=>h2 q h aa
 have jw:kf l k=i:=rW aa h1 Yg
 have hmm:=Hv aa h1 Yg hs
 refine Aq (by rw [jw]) ?_
 exact(decide_eq_false fun h=>by obtain⟨h9,_⟩:=hmm.1 h;omega).symm

variable {aG:Nat}
theorem afw(x:Int)(n:Int)(gh:iD G aG 0 [iV n]):
    Fc Tryz.prog 182 [iV x,aq aG] G [] (fun v _ _=>v=.bool ((fun z:Int=>decide (z=n)) x)):=by
 refine Fc.go [.tmp 3] Tryz.func182 Tryz.ntmps182 rfl (fun w0=>(g9 8 ?_))
 refine W.ok (DT (vs:=jk) ci gh rfl rfl rfl (by simp)) (g9 6 ?_)
 rfl

variable {bS:MH}
theorem av9(az:aP bY 3 G bN l bS)(n:Int)(gh:iD G aG 0 [iV n]):
    Fc Tryz.prog 193 [bN,.func (.func 182) #[] #[aq aG]] G bS (fun v _ M'=>v=iV (gn (fun z:Int=>decide (z=n)) l)∧bS=M'):=by
 have hl:=az.aH
 refine Fc.go [.tmp 4] Tryz.func193 Tryz.ntmps193 rfl (fun w0=>(WC.perm (M':=(bS++[])) (by simp) (g9 14 ?_)))
 refine WC.loop (X:=Nat) (fun k=>[(8,aT k),(0,bN),(1,.func (.func 182) #[] #[aq aG]),(7,aT ((l).length))]) (fun k _ Ml=>Ml=(bS++[])∧k≤l.length∧∀j (h:j<l.length),j<k→(fun z:Int=>decide (z=n)) l[j]=false) (fun k=>l.length-k) 0 aZ ?_ ?_
 ·exact⟨rfl,aa,fun j _ h=>by omega⟩
 rintro k aWi G14 _ nS ⟨rfl,hk,hj⟩
 refine g9 6 ?_
 refine WC.cd (fun h9 p9=> ?_) (fun h9 p9=> ?_)
 ·refine g9 15 ?_
  refine(az.mono nS).a2 (i:=k) aa (fun TR ax8=>(W.ok (aE (i:=k) cq ci (az.mono nS) rfl rfl ⟨aa,aa⟩) (W.ok (bM (vs:=jk) ci TR ai rfl rfl rfl (by simp)) (W.nc (fst:=[]) (caps:=[aq aG]) rfl (afw _ _ (gh.mono nS)) rfl (g9 2 ?_)))))
  refine WC.cond rfl (fun fU=> ?_) (fun fU=> ?_)
  ·refine g9 12 ?_
   refine⟨.inr rfl,[_],⟨rfl,trivial⟩,bS,List.sublist_append_left _ _,?_⟩
   refine⟨congrArg (Value.int .i64) ?_,rfl⟩
   exact(B8 aa (fU) hj).symm
  refine g9 8 ?_
  exact⟨Le.rfl,k+1,aZ,⟨rfl,aa,fun j h oh=>by
      by_cases e2:j=k
      ·subst e2;exact fU
      ·exact hj j h aa⟩,aa⟩
 refine g9 11 ?_
 refine⟨.inr rfl,[_],⟨rfl,trivial⟩,bS,List.sublist_append_left _ _,?_⟩
 refine⟨congrArg (Value.int .i64) ?_,rfl⟩
 exact(Ca (fun j h=>hj j h aa)).symm

theorem awa(az:aP bY 3 G bN l bS)(n:Int)(gh:iD G aG 0 [iV n]):
    Fc Tryz.prog 181 [bN,.func (.func 182) #[] #[aq aG]] G bS (fun v G' M'=>aP bY 3 G' v (l.filter (fun a=> !(fun z:Int=>decide (z=n)) a)) M'):=by
 have hl:=az.aH
 have hix:=Cb (fun z:Int=>decide (z=n)) l
 refine Fc.go [.tmp 4] Tryz.func181 Tryz.ntmps181 rfl (fun w0=>(WC.perm (M':=(bS++[])) (by simp) (g9 9 ?_)))
 refine W.call (Mp:=bS) (av9 az _ gh) rfl ai ?_
 intro _ G19 AG jV RD
 refine match RD with|⟨Dc,uf⟩=> ?_
 subst Dc
 subst uf
 refine g9 10 ?_
 refine WC.cd (fun dL ji=> ?_) (fun dL ji=> ?_)
 ·try dsimp only at ji
  refine g9 8 ?_
  refine⟨.inr rfl,[_],⟨rfl,trivial⟩,bS,List.sublist_append_left _ _,?_⟩
  have h:=(az.mono jV)
  rw [LW ji]
  exact h
 try dsimp only at ji
 refine g9 11 ?_
 refine WC.loop (X:=(Nat×Nat×List Int)×Value×MH) (fun x=>[(5,aT x.1.1),(6,aT x.1.2.1),(1,.func (.func 182) #[] #[aq aG]),(0,x.2.1)]) (fun x G Ml=>Ml=(x.2.2++[])∧aP bY 3 G x.2.1 (x.1.2.2) x.2.2∧x.1.1<x.1.2.1∧x.1.2.1≤l.length∧x.1.2.2.length=l.length∧x.1.2.2.take x.1.1=(l.take x.1.2.1).filter (fun a=> !(fun z:Int=>decide (z=n)) a)∧x.1.2.2.drop x.1.2.1=l.drop x.1.2.1) (fun x=>l.length-x.1.2.1) (((gn (fun z:Int=>decide (z=n)) l).toNat,(gn (fun z:Int=>decide (z=n)) l).toNat+1,l),bN,bS) aZ ?_ ?_
 ·exact⟨rfl,(by exact(az.mono jV)),by dsimp only;omega,by dsimp only;omega,rfl,HG ji,rfl⟩
 rintro⟨⟨i,j,m⟩,v_0,A0⟩ aka G24 _ xC ⟨rfl,eH,kn,Lj,qL,xJ,wU⟩
 try dsimp only at eH kn Lj qL xJ wU
 have HH:=fun(h:j<l.length)=>DU (by omega:j<m.length) h wU
 refine g9 9 ?_
 refine WC.cd (fun fN pQ=> ?_) (fun fN pQ=> ?_)
 ·try dsimp only at pQ
  refine g9 8 ?_
  refine eH.a2 (i:=j) aa (fun Fp aWj=>(W.ok (aE (i:=j) cq ci eH rfl rfl ⟨by dsimp only,aa⟩) (W.ok (bM (vs:=jk) ci Fp ai rfl rfl rfl (by simp)) (g9 7 ?_))))
  refine W.nc (fst:=[]) (caps:=[aq aG]) rfl (afw _ _ (gh.mono aS)) rfl (g9 3 ?_)
  refine WC.cond rfl (fun iE=> ?_) (fun iE=> ?_)
  ·refine g9 5 ?_
   refine eH.a2 (i:=i) aa (fun L9 aLF=>(W.ok (aE (i:=i) cq ci eH rfl rfl ⟨by dsimp only,aa⟩) (W.dF (i:=i) (o:=0) (vs:=jk) (a':=m[j]) ci rfl rfl rfl rfl rfl (eH) ai aa (by decide) (fun cs h=>by first|(rw [h];rfl)|(rw [h.1];exact⟨rfl,by assumption⟩)) (fun ae5 F6=>(g9 15 ?_)))))
   exact⟨Le.rfl,((i+1,j+1,m.set i m[j]),v_0,ae5),aZ,⟨rfl,(by exact F6),by dsimp only;omega,by dsimp only;omega,by simpa using qL,(zw (p:=(fun a=> !(fun z:Int=>decide (z=n)) a)) kn aa qL xJ wU (by rw [←HH aa];simpa using iE)).1,(zw (p:=(fun a=> !(fun z:Int=>decide (z=n)) a)) kn aa qL xJ wU (by rw [←HH aa];simpa using iE)).2⟩,by dsimp only;omega⟩
  refine g9 9 ?_
  exact⟨Le.rfl,((i,j+1,m),v_0,A0),aZ,⟨rfl,(by exact eH),by dsimp only;omega,by dsimp only;omega,qL,(zx (p:=(fun a=> !(fun z:Int=>decide (z=n)) a)) aa xJ wU (by rw [←HH aa];simpa using iE)).1,(zx (p:=(fun a=> !(fun z:Int=>decide (z=n)) a)) aa xJ wU (by rw [←HH aa];simpa using iE)).2⟩,by dsimp only;omega⟩
 try dsimp only at pQ
 refine g9 9 ?_
 have q36:=eH.akq aa
 refine match q36 with|⟨b38,c38,Kg⟩=> ?_
 subst Kg
 have TQ:=eH.eD
 refine W.ok (ei i m.length cq ci eH rfl ⟨_,_,rfl,by first|omega|(dsimp only;omega)|dsimp only⟩ rfl ⟨aa,.inl aa⟩) (W.PE (e:=bY) (lo:=i) (hi:=m.length) (m:=i) cq ci kp rfl rfl eH ai rfl aa TQ ⟨_,rfl⟩ aa aa (fun wm HI=>(g9 6 ?_)))
 refine W.ok (qM 0 i cq ci rfl rfl ⟨_,_,rfl,by first|omega|(dsimp only;omega)|dsimp only⟩ ⟨aa,by simp only [jL]at TQ;omega⟩) (g9 4 ?_)
 refine⟨.inr rfl,[_],⟨rfl,trivial⟩,wm,List.sublist_append_left _ _,?_⟩
 have h:=HI
 rw [←List.take_of_length_le (l:=l) (i:=j) aa,←xJ]
 exact h

end Go.Proofs.YtfhnamngaofccaaGreat

namespace Go.Fw
open Go Go.RowKit
theorem Kh:∀ {A B:List Int},A.Nodup→(∀a∈A,a∈B)→A.length≤B.length
 |[],_,_,_=>Nat.zero_le _
 |a::A,B,h,hs=>by
  rw [List.nodup_cons]at h
  have hm:=hs a (List.mem_cons_self ..)
  have h1:=Kh (A:=A) (B:=B.erase a) h.2 fun x hx=>(List.mem_erase_of_ne fun e=>h.1 (by rw [←e];exact hx)).2 (hs x (List.mem_cons_of_mem _ hx))
  rw [List.length_erase_of_mem hm]at h1
  have h2:=List.length_pos_of_mem hm
  rw [List.length_cons];omega
section
variable {Th:List Int} {W:ew} {t s how:Int} {k:Nat}
variable {l:List Int}
theorem acD(h:qe l):l.Nodup:=List.Pairwise.imp (fun h9 e=>by omega) h
theorem lO(h:lU W s)(hi:s.toNat<W.length):oj W s=W[s.toNat]:=ts hi
theorem dN(h:lU W s):s.toNat<W.length:=by unfold lU at h;omega
variable {i:Nat}
theorem ku.at(h:ku Th W)(hi:i<W.length):qe W[i].1∧(∀x∈W[i].1,x∈Th)∧i64 W[i].2∧W[i].1.length≤1000:=by
 obtain⟨h1,h2,h3⟩:=h.1 _ (List.getElem_mem hi)
 exact⟨h1,h2,h3,Nat.le_trans (Kh (acD h1) h2) h.2.2.2⟩
theorem ku.set(h:ku Th W){w:List Int}{k:Int}(hs:qe w)(hm:∀x∈w,x∈Th)(hk:i64 k):ku Th (W.set i (w,k)):=by
 refine⟨fun p hp=> ?_,by rw [List.length_set];exact h.2.1,h.2.2⟩
 rcases List.mem_or_eq_of_mem_set hp with h9|h9
 ·exact h.1 p h9
 ·rw [h9];exact⟨hs,hm,hk⟩
theorem Yh(h:¬lU W s):eO W t s=false∧kg W t s=false:=by
 have h1:eO W t s=false:=by unfold eO;rw [decide_eq_false h];rfl
 exact⟨h1,by unfold kg;rw [h1];rfl⟩
theorem C2(h:lU W s):eO W t s=decide (t∈(W[s.toNat]'(dN h)).1)∧kg W t s=(decide (t∈(W[s.toNat]'(dN h)).1)&&decide ((W[s.toNat]'(dN h)).2=2)):=by
 have h1:eO W t s=decide (t∈(W[s.toNat]'(dN h)).1):=by unfold eO;rw [decide_eq_true h,lO h (dN h)];rfl
 exact⟨h1,by unfold kg;rw [h1,lO h (dN h)]⟩
theorem Ki(h:t<0∨¬lU W s):dK W t s how=(2,W):=if_pos h
theorem aqb(h0:¬t<0)(h:lU W s)(hm:t∈(W[s.toNat]'(dN h)).1):dK W t s how=(2,W):=by
 unfold dK
 rw [if_neg (by intro h9;rcases h9 with h9|h9;exact h0 h9;exact h9 h),lO h (dN h),if_pos hm]
theorem afx(h0:¬t<0)(h:lU W s)(hm:¬t∈(W[s.toNat]'(dN h)).1)(hk:(W[s.toNat]'(dN h)).2=2∨(how=2∧(W[s.toNat]'(dN h)).2≠0)):dK W t s how=(7,W):=by
 unfold dK
 rw [if_neg (by intro h9;rcases h9 with h9|h9;exact h0 h9;exact h9 h),lO h (dN h),if_neg hm,if_pos hk]
theorem R7(h0:¬t<0)(h:lU W s)(hm:¬t∈(W[s.toNat]'(dN h)).1)(hk:¬((W[s.toNat]'(dN h)).2=2∨(how=2∧(W[s.toNat]'(dN h)).2≠0))):dK W t s how=(0,W.set s.toNat (LR t (W[s.toNat]'(dN h)).1,how)):=by
 unfold dK
 rw [if_neg (by intro h9;rcases h9 with h9|h9;exact h0 h9;exact h9 h),lO h (dN h),if_neg hm,if_neg hk]
theorem aCz(h:eO W t s=false):hU W t s=(8,W):=by unfold hU;rw [h];rfl
theorem abd(h:eO W t s=true)(hi:lU W s):hU W t s=(0,W.set s.toNat (xv t (W[s.toNat]'(dN hi)).1,if(xv t (W[s.toNat]'(dN hi)).1).length=0 then 0 else(W[s.toNat]'(dN hi)).2)):=by
 unfold hU;rw [if_pos h,lO hi (dN hi)]
theorem Yi(h:eO W t s=true):lU W s:=by
 unfold eO at h
 rw [Bool.and_eq_true]at h
 exact of_decide_eq_true h.1
theorem ku.take(h:ku Th W)(ht:t∈Th)(hh:i64 how):ku Th (dK W t s how).2:=by
 unfold dK
 split
 ·exact h
 ·rename_i h1
  split
  ·exact h
  ·rename_i h2
   split
   ·exact h
   ·have hi:lU W s:=Classical.byContradiction fun h9=>h1 (.inr h9)
    rw [lO hi (dN hi)]at h2⊢
    obtain⟨a1,a2,a3,a4⟩:=h.at (dN hi)
    exact h.set (aj2 a1 h2) (fun x hx=>by rcases aj3.1 hx with h9|h9;rw [h9];exact ht;exact a2 x h9) hh
theorem aqc(h:qe l):qe (xv t l):=h.filter _
theorem ku.rel(h:ku Th W):ku Th (hU W t s).2:=by
 unfold hU
 split
 ·rename_i h1
  have hi:=Yi h1
  rw [lO hi (dN hi)]
  obtain⟨a1,a2,a3,a4⟩:=h.at (dN hi)
  refine h.set (aqc a1) (fun x hx=>a2 x (List.mem_filter.1 hx).1) ?_
  split
  ·exact⟨by decide,by decide⟩
  ·exact a3
 ·exact h
variable {G:GH} {Ms:MH} {T:TypeId} {v:Value} {α:Type}
theorem z7{e:dV α}{l:List α}{x:α}(h:aP e T G v l Ms)(hi:i<l.length)(hx:l[i]=x):∃cs,sH Ms v e.k i cs∧e.R G cs x:=by
 subst hx
 exact h.at hi
theorem aP.yN{e:dV α}{l l':List α}(h:aP e T G v l Ms)(he:l=l'):aP e T G v l' Ms:=he▸h
theorem Ok.yN{E:Env}{f:Fr}{M:MH}{o:Oper}{v':Value}(h:Ok E f G M o v)(e:v=v'):Ok E f G M o v':=e▸h
theorem tbb{a b a' b':Bool}(h1:a=a')(h2:b=b'):Value.tuple #[.bool a,.bool b]=.tuple #[.bool a',.bool b']:=by rw [h1,h2]
def pD:dV ko where
 k:=3
 w:=24
 R:=fun _ cs p=>cs=[.int .i64 p.kM,.int .i64 p.slot,.bool p.write]∧i64 p.kM∧i64 p.slot
 mono:=fun _ h=>h
 len:=fun h=>by rw [h.1];rfl
 one:=fun h u hu=>by
  rw [h.1]at hu;simp at hu
  rcases hu with rfl|rfl|rfl<;>rfl
instance : SS Ti (fun p => [p.1, .int .i64 p.2]) (fun p => (∃ a n c, p.1 = .slice a n c) ∧ i64 p.2) := ⟨fun _ _ _ h => h⟩
instance : SS pD (fun p => [.int .i64 p.kM, .int .i64 p.slot, .bool p.write]) (fun p => i64 p.kM ∧ i64 p.slot) := ⟨fun _ _ _ h => h⟩
variable {j:Nat}
theorem acE{l:List ko}(hj:j<l.length):u4 t (l.take (j+1)) W=(hU (u4 t (l.take j) W) t l[j].slot).2:=by
 unfold u4
 rw [List.take_succ_eq_append_getElem hj,List.foldl_append];rfl
theorem Yj{TI:TypeId} :∀n:Nat,m6 TI (List.replicate n ((.slice none 0 0),0)) (List.replicate n ([],0)) G []
 |0=>rfl
 |n+1=>⟨rfl,[],[],rfl,aP.nil,Yj n⟩
theorem aqd{n:Nat}(hn:n≤4096)(hT:(∀x∈Th,i64 x)∧Th.length≤1000):ku Th (List.replicate n ([],0)):=by
 refine⟨fun p hp=> ?_,by rw [List.length_replicate];exact hn,hT⟩
 rw [(List.mem_replicate.1 hp).2]
 exact⟨List.Pairwise.nil,fun x hx=>(by cases hx),by decide,by decide⟩
variable {p:List Int×Int}
theorem Dk{k:Int} :(Gg k p).length=p.1.length:=List.length_map ..
theorem OU{k:Int}(hj:j<p.1.length):(Gg k p).take (j+1)=(Gg k p).take j++[⟨p.1[j],k,decide (p.2=2)⟩]:=by
 have h:j<(Gg k p).length:=by rw [Dk];exact hj
 rw [List.take_succ_eq_append_getElem h]
 congr 2
 exact List.getElem_map ..
def k8 (W:ew) (k j:Nat):List ko:=m5 W k++(Gg (k:Int) (W.getD k ([],0))).take j
theorem Yk:k8 W k 0=m5 W k:=by unfold k8;rw [List.take_zero,List.append_nil]
theorem Kj{k:Nat}(hk:k<W.length):k8 W k (W[k].1.length)=m5 W (k+1):=by
 unfold k8
 rw [rX W hk,ts hk,List.take_of_length_le (by rw [Dk];exact Nat.le_refl _)]
variable {f:ko→Bool}
theorem Yl{k:Nat}(hk:k<W.length)(hj:j<W[k].1.length)(hf:f ⟨W[k].1[j],(k:Int),decide (W[k].2=2)⟩=true):(k8 W k (j+1)).filter f=(k8 W k j).filter f++[⟨W[k].1[j],(k:Int),decide (W[k].2=2)⟩]:=by
 unfold k8
 rw [ts hk,OU hj,←List.append_assoc,List.filter_append,List.filter_cons_of_pos hf];rfl
theorem aqe{k:Nat}(hk:k<W.length)(hj:j<W[k].1.length)(hf:f ⟨W[k].1[j],(k:Int),decide (W[k].2=2)⟩=false):(k8 W k (j+1)).filter f=(k8 W k j).filter f:=by
 unfold k8
 rw [ts hk,OU hj,←List.append_assoc,List.filter_append,List.filter_cons_of_neg (by rw [hf];decide),List.filter_nil,List.append_nil]
theorem OV(h:ku Th W):∀k,k≤W.length→(m5 W k).length≤1000*k
 |0,_=>Nat.le_refl _
 |k+1,hk=>by
  rw [rX W aa,List.length_append,Dk]
  have h1:=OV h k aa
  have h2:=(h.at (i:=k) aa).2.2.2
  omega
theorem Kk(h:ku Th W){k:Nat}(hk:k<W.length)(f:ko→Bool):((k8 W k j).filter f).length≤1000*(k+1):=by
 have h1:=List.length_filter_le f (k8 W k j)
 have h2:=OV h k aa
 have h3:=(h.at (i:=k) hk).2.2.2
 have h4:(k8 W k j).length≤(m5 W k).length+W[k].1.length:=by
  unfold k8
  rw [List.length_append,List.length_take,ts hk,Dk];omega
 omega
end
end Go.Fw
namespace Go.Proofs.YtfhnamngaofccaaGreat
open Go Go.Fw Go.RowKit
attribute [local irreducible] Ok W WC
variable {G:GH} {L:List (Value×Int)} {Lw:ew} {fW:MH} {Mw:MH} {Th:List Int} {bx:Nat} {v_L:Value}
theorem aiO(iz:aP Ti 123 G v_L L fW)(th:Int)(s:Int)(lc:m6 3 L Lw G Mw)(hW:ku Th Lw):
    Fc Tryz.prog 35 [aq bx,iV th,iV s] G ((bx,aj 119 [v_L])::(fW++(Mw))) (fun v G' M'=>v=.tuple #[.bool (eO Lw th s),.bool (kg Lw th s)]∧dC 119 123 3 Th bx G' Lw M'):=by
 obtain⟨eT,eU,rfl⟩:=iz.form
 have hlw:=lc.len
 have hl4:=hW.2.1
 have Ym:=iz.aH
 refine Fc.go [.tmp 6,.tmp 7] Tryz.func35 Tryz.ntmps35 rfl (fun w0=>(WC.perm (M':=((bx,aj 119 [lV eT L.length eU])::(fW++(Mw++[])))) (by simp) (g9 10 ?_)))
 refine W.ok (bV Ul rfl rfl) (g9 7 ?_)
 refine W.sd 14 (fun dL ji=> ?_) (fun dL ji=> ?_)
 ·refine g9 19 ?_
  refine⟨.inr rfl,[_,_],⟨rfl,rfl,trivial⟩,((bx,aj 119 [lV eT L.length eU])::(fW++Mw)),(List.Sublist.append_left (List.sublist_append_left _ _) _).k9,?_⟩
  have lI:¬lU Lw s:=fun h9=>by have h8:=h9.1;have h7:=h9.2;omega
  have Eo:=Yh (t:=th) lI
  exact⟨tbb (Eo.1.symm) (Eo.2.symm),⟨_,_,_,_,by simp,iz,lc,hW⟩⟩
 refine g9 17 ?_
 refine WC.cd (fun mS Ce=> ?_) (fun mS Ce=> ?_)
 ·refine g9 8 ?_
  refine⟨.inr rfl,[_,_],⟨rfl,rfl,trivial⟩,((bx,aj 119 [lV eT L.length eU])::(fW++Mw)),(List.Sublist.append_left (List.sublist_append_left _ _) _).k9,?_⟩
  have lI:¬lU Lw s:=fun h9=>by have h8:=h9.1;have h7:=h9.2;omega
  have Eo:=Yh (t:=th) lI
  exact⟨tbb (Eo.1.symm) (Eo.2.symm),⟨_,_,_,_,by simp,iz,lc,hW⟩⟩
 refine g9 9 ?_
 refine iz.a2 (i:=s.toNat) aa (fun he1 hf2=>(W.ok (aE (i:=s.toNat) xQ sS iz rfl rfl ⟨aa,aa⟩) (g9 1 ?_)))
 refine W.ok (bM (vs:=[_]) qS he1 (ae ai) rfl rfl rfl (by simp)) (W.mv ?_)
 have mN:lU Lw s:=⟨aa,aa⟩
 have q5:=lc.el (i:=s.toNat) aa aa
 refine match q5 with|⟨wM,Mi9,acF,aqf⟩=> ?_
 have q6:=hW.at (i:=s.toNat) aa
 refine match q6 with|⟨afy,ax9,aya,ayb⟩=> ?_
 have aLG:=Tg (Lw[s.toNat]'aa).1 th
 refine W.aj0 (fun G1 hl1 hn1=>(Dj (aqf.awR hl1 fun p hp=>adC (((List.sublist_append_left _ _).trans (List.sublist_append_right _ _)).cons _) hn1 p (acF p hp)) th afy)) axc rfl (g9 11 ?_)
 refine W.sp 38 rfl (fun j8=> ?_) (fun j8=> ?_)
 ·refine g9 11 ?_
  refine iz.a2 (i:=s.toNat) aa (fun he7 hf8=>(W.ok (aE (i:=s.toNat) xQ sS iz rfl rfl ⟨aa,aa⟩) (g9 3 ?_)))
  refine W.ok (bM (vs:=jk) ci he7 (ae ai) rfl rfl rfl (by simp)) (g9 8 ?_)
  refine⟨.inr rfl,[_,_],⟨rfl,rfl,trivial⟩,((bx,aj 119 [lV eT L.length eU])::(fW++Mw)),(List.Sublist.append_left (List.sublist_append_left _ _) _).k9,?_⟩
  have Eo:=C2 (t:=th) mN
  exact⟨tbb (Eo.1.symm) (show decide ((L[s.toNat]'aa).2=2)=kg Lw th s by rw [Eo.2,j8,wM];rfl),⟨_,_,_,_,by simp,iz,lc,hW⟩⟩
 refine g9 15 ?_
 refine⟨.inr rfl,[_,_],⟨rfl,rfl,trivial⟩,((bx,aj 119 [lV eT L.length eU])::(fW++Mw)),(List.Sublist.append_left (List.sublist_append_left _ _) _).k9,?_⟩
 have Eo:=C2 (t:=th) mN
 exact⟨tbb (Eo.1.symm) (show false=kg Lw th s by rw [Eo.2,j8];rfl),⟨_,_,_,_,by simp,iz,lc,hW⟩⟩

theorem acG(iz:aP Ti 123 G v_L L fW)(th:Int)(s:Int)(how:Int)(lc:m6 3 L Lw G Mw)(hW:ku Th Lw)(oS:th∈Th)(OW:i64 how):
    Fc Tryz.prog 61 [aq bx,iV th,iV s,iV how] G ((bx,aj 119 [v_L])::(fW++(Mw))) (fun v G' M'=>v=iV (dK Lw th s how).1∧dC 119 123 3 Th bx G' (dK Lw th s how).2 M'):=by
 obtain⟨eT,eU,rfl⟩:=iz.form
 have hlw:=lc.len
 have hl4:=hW.2.1
 have Ym:=iz.aH
 refine Fc.go [.tmp 8] Tryz.func61 Tryz.ntmps61 rfl (fun w0=>(WC.perm (M':=((bx,aj 119 [lV eT L.length eU])::(fW++(Mw++[])))) (by simp) (g9 9 ?_)))
 refine W.ok (bV Ul rfl rfl) (g9 11 ?_)
 refine W.sd 16 (fun lW nM=> ?_) (fun lW nM=> ?_)
 ·refine g9 22 ?_
  refine⟨.inr rfl,[_],⟨rfl,trivial⟩,((bx,aj 119 [lV eT L.length eU])::(fW++Mw)),(List.Sublist.append_left (List.sublist_append_left _ _) _).k9,?_⟩
  have cI:=Ki (W:=Lw) (t:=th) (s:=s) (how:=how) (by first|(left;omega)|(right;intro h9;have h8:=h9.1;have h7:=h9.2;omega))
  exact⟨congrArg (Value.int .i64) (congrArg Prod.fst cI).symm,dC.cast (congrArg Prod.snd cI) ⟨_,_,_,_,by simp,iz,lc,hW⟩⟩
 refine g9 6 ?_
 refine W.sd 20 (fun AW tz=> ?_) (fun AW tz=> ?_)
 ·refine g9 18 ?_
  refine⟨.inr rfl,[_],⟨rfl,trivial⟩,((bx,aj 119 [lV eT L.length eU])::(fW++Mw)),(List.Sublist.append_left (List.sublist_append_left _ _) _).k9,?_⟩
  have cI:=Ki (W:=Lw) (t:=th) (s:=s) (how:=how) (by first|(left;omega)|(right;intro h9;have h8:=h9.1;have h7:=h9.2;omega))
  exact⟨congrArg (Value.int .i64) (congrArg Prod.fst cI).symm,dC.cast (congrArg Prod.snd cI) ⟨_,_,_,_,by simp,iz,lc,hW⟩⟩
 refine g9 17 ?_
 refine WC.cd (fun pT l9=> ?_) (fun pT l9=> ?_)
 ·refine g9 7 ?_
  refine⟨.inr rfl,[_],⟨rfl,trivial⟩,((bx,aj 119 [lV eT L.length eU])::(fW++Mw)),(List.Sublist.append_left (List.sublist_append_left _ _) _).k9,?_⟩
  have cI:=Ki (W:=Lw) (t:=th) (s:=s) (how:=how) (by first|(left;omega)|(right;intro h9;have h8:=h9.1;have h7:=h9.2;omega))
  exact⟨congrArg (Value.int .i64) (congrArg Prod.fst cI).symm,dC.cast (congrArg Prod.snd cI) ⟨_,_,_,_,by simp,iz,lc,hW⟩⟩
 refine g9 9 ?_
 refine iz.a2 (i:=s.toNat) aa (fun wk aWk=>(W.ok (aE (i:=s.toNat) xQ sS iz rfl rfl ⟨aa,aa⟩) (g9 8 ?_)))
 refine W.ok (bM (vs:=[_]) qS wk (ae ai) rfl rfl rfl (by simp)) (W.mv ?_)
 have mN:lU Lw s:=⟨aa,aa⟩
 have q15:=lc.el (i:=s.toNat) aa aa
 refine match q15 with|⟨wM,Mi9,acF,aqf⟩=> ?_
 have q16:=hW.at (i:=s.toNat) aa
 refine match q16 with|⟨afy,ax9,aya,ayb⟩=> ?_
 have aLG:=Tg (Lw[s.toNat]'aa).1 th
 refine W.aj0 (fun G1 hl1 hn1=>(Dj (aqf.awR hl1 fun p hp=>adC (((List.sublist_append_left _ _).trans (List.sublist_append_right _ _)).cons _) hn1 p (acF p hp)) th afy)) axc rfl (g9 15 ?_)
 refine WC.cond rfl (fun mT=> ?_) (fun mT=> ?_)
 ·refine g9 8 ?_
  refine⟨.inr rfl,[_],⟨rfl,trivial⟩,((bx,aj 119 [lV eT L.length eU])::(fW++Mw)),(List.Sublist.append_left (List.sublist_append_left _ _) _).k9,?_⟩
  have cI:=aqb (how:=how) aa mN (va mT)
  exact⟨congrArg (Value.int .i64) (congrArg Prod.fst cI).symm,dC.cast (congrArg Prod.snd cI) ⟨_,_,_,_,by simp,iz,lc,hW⟩⟩
 refine g9 6 ?_
 refine W.ok (bM (vs:=jk) ci wk (ae ai) rfl rfl rfl (by simp)) (g9 4 ?_)
 refine WC.cd (fun h51 QB=> ?_) (fun h51 QB=> ?_)
 ·refine g9 11 ?_
  refine⟨.inr rfl,[_],⟨rfl,trivial⟩,((bx,aj 119 [lV eT L.length eU])::(fW++Mw)),(List.Sublist.append_left (List.sublist_append_left _ _) _).k9,?_⟩
  have cI:=afx (how:=how) aa mN (sU mT) (by rw [←wM];first|(left;exact QB)|(right;exact⟨vU,p59⟩))
  exact⟨congrArg (Value.int .i64) (congrArg Prod.fst cI).symm,dC.cast (congrArg Prod.snd cI) ⟨_,_,_,_,by simp,iz,lc,hW⟩⟩
 refine g9 4 ?_
 refine W.sd 54 (fun Ev vU=> ?_) (fun Ev vU=> ?_)
 ·refine g9 7 ?_
  refine W.ok (bM (vs:=jk) ci wk (ae ai) rfl rfl rfl (by simp)) (g9 6 ?_)
  refine WC.cn (fun h59 p59=> ?_) (fun h59 p59=> ?_)
  ·refine g9 8 ?_
   refine⟨.inr rfl,[_],⟨rfl,trivial⟩,((bx,aj 119 [lV eT L.length eU])::(fW++Mw)),(List.Sublist.append_left (List.sublist_append_left _ _) _).k9,?_⟩
   have cI:=afx (how:=how) aa mN (sU mT) (by rw [←wM];first|(left;exact QB)|(right;exact⟨vU,p59⟩))
   exact⟨congrArg (Value.int .i64) (congrArg Prod.fst cI).symm,dC.cast (congrArg Prod.snd cI) ⟨_,_,_,_,by simp,iz,lc,hW⟩⟩
  refine g9 4 ?_
  have Em:=lc.split (i:=s.toNat) aa aa
  refine match Em with|⟨_,A9,Dl,B9,Kl,yR,F7⟩=> ?_
  subst Kl
  refine WC.perm (M':=((bx,aj 119 [lV eT L.length eU])::(fW++(A9++(Dl++(B9++[])))))) (List.Perm.of_eq (by first|(simp only [List.append_assoc];done)|(simp only [List.append_assoc];rfl))) (g9 6 ?_)
  refine W.ok (bM (vs:=[_]) qS wk (ae ai) rfl rfl rfl (by simp)) (g9 2 ?_)
  refine W.Av (e:=bY) (l:=[th]) (css:=[[iV _]]) cq ci kp rfl rfl rfl rfl rfl rfl ⟨⟨rfl,hW.2.2.1 _ oS⟩,trivial⟩ (fun v18 TP LX=>(W.perm (ae ai).symm ?_))
  have q24:=LX.form
  refine match q24 with|⟨aWl,aWm,uf⟩=> ?_
  subst uf
  refine W.call (Mp:=Dl++TP) (Kf yR _ LX (by first|assumption|omega) (by first|assumption|omega|simp) (by first|assumption|omega|(simp;omega))) rfl ((List.Perm.of_eq (List.append_assoc _ _ _)).trans ((List.Perm.append_left _ (ae ai)).trans (ae (dx (dx (dx ai)))))) ?_
  rintro v26 G25 afz qf afA
  refine W.perm (ae ai).symm ?_
  have Q4:=afA.form
  refine match Q4 with|⟨aqg,aqh,Dh⟩=> ?_
  subst Dh
  refine g9 3 ?_
  refine W.dF (i:=s.toNat) (o:=0) (vs:=[_]) (a':=(lV aqg ((((Lw[s.toNat]'aa).1).take ((kf (Lw[s.toNat]'aa).1 th))++([th]))++((Lw[s.toNat]'aa).1).drop ((kf (Lw[s.toNat]'aa).1 th))).length aqh,(L[s.toNat]'aa).2)) qS rfl rfl rfl rfl rfl ((iz.mono qf)) (ae (dx ai)) (by first|omega|(rw [List.length_set];omega)) (by decide) (fun cs h=>by obtain⟨h1,h2,h3⟩:=h;rw [h1];exact⟨rfl,⟨_,_,_,rfl⟩,h3⟩) (fun ae5 F6=>(W.perm (ae ai).symm ?_))
  have Qr:=z7 F6 (i:=s.toNat) (by first|(rw [List.length_set];omega)|(rw [List.length_set,List.length_set];omega)) (List.getElem_set_self ..)
  refine match Qr with|⟨_,alW,⟨W5,aWn⟩⟩=> ?_
  subst W5
  refine g9 2 ?_
  refine W.dF (i:=s.toNat) (o:=1) (vs:=[_]) (a':=(lV aqg ((((Lw[s.toNat]'aa).1).take ((kf (Lw[s.toNat]'aa).1 th))++([th]))++((Lw[s.toNat]'aa).1).drop ((kf (Lw[s.toNat]'aa).1 th))).length aqh,how)) ci rfl rfl rfl rfl rfl (F6) (ae ai) (by first|omega|(rw [List.length_set];omega)) (by decide) (fun cs h=>by rw [List.getElem_set_self]at h;obtain⟨h1,h2,h3⟩:=h;rw [h1];exact⟨rfl,h2,OW⟩) (fun sD AK=>(W.perm (ae ai).symm ?_))
  have Jd:=z7 AK (i:=s.toNat) (by first|(rw [List.length_set];omega)|(rw [List.length_set,List.length_set];omega)) (List.getElem_set_self ..)
  refine match Jd with|⟨_,adY,⟨yv,aWo⟩⟩=> ?_
  subst yv
  refine g9 7 ?_
  refine WC.perm (M':=((bx,aj 119 [lV eT L.length eU])::(sD++(A9++(afz++(B9++[])))))) (((List.Perm.append_left _ ((List.Perm.append_left _ ((List.Perm.append_left _ ((List.Perm.append_left _ ai).trans ai)).trans ai)).trans (dx ai))).trans ai).cons _) (WC.ret ?_)
  refine⟨.inr rfl,[_],⟨rfl,trivial⟩,((bx,aj 119 [lV eT L.length eU])::(sD++(A9++(afz++B9)))),(List.Sublist.append_left (List.Sublist.append_left (List.Sublist.append_left (List.sublist_append_left _ _) _) _) _).k9,?_⟩
  have cI:=R7 (how:=how) aa mN (sU mT) (by rw [←wM];intro h9;rcases h9 with h9|h9;exact QB h9;first|exact vU h9.1|exact h9.2 p59)
  exact⟨congrArg (Value.int .i64) (congrArg Prod.fst cI).symm,dC.cast (congrArg Prod.snd cI) ⟨_,_,_,_,by simp,aP.yN AK (List.set_set ..),F7 _ _ _ _ _ qf afA,(by have h9:=hW.take (t:=th) (s:=s) oS OW;rw [cI]at h9;exact h9)⟩⟩
 refine g9 14 ?_
 have Rh:=lc.split (i:=s.toNat) aa aa
 refine match Rh with|⟨_,A9,Dl,B9,Kl,yR,F7⟩=> ?_
 subst Kl
 refine WC.perm (M':=((bx,aj 119 [lV eT L.length eU])::(fW++(A9++(Dl++(B9++[])))))) (List.Perm.of_eq (by first|(simp only [List.append_assoc];done)|(simp only [List.append_assoc];rfl))) (g9 6 ?_)
 refine W.ok (bM (vs:=[_]) qS wk (ae ai) rfl rfl rfl (by simp)) (g9 2 ?_)
 refine W.Av (e:=bY) (l:=[th]) (css:=[[iV _]]) cq ci kp rfl rfl rfl rfl rfl rfl ⟨⟨rfl,hW.2.2.1 _ oS⟩,trivial⟩ (fun v46 OX ayc=>(W.perm (ae ai).symm ?_))
 have q52:=ayc.form
 refine match q52 with|⟨aWp,aWq,aqi⟩=> ?_
 subst aqi
 refine W.call (Mp:=Dl++OX) (Kf yR _ ayc (by first|assumption|omega) (by first|assumption|omega|simp) (by first|assumption|omega|(simp;omega))) rfl ((List.Perm.of_eq (List.append_assoc _ _ _)).trans ((List.Perm.append_left _ (ae ai)).trans (ae (dx (dx (dx ai)))))) ?_
 rintro v54 G53 afB Fv ayd
 refine W.perm (ae ai).symm ?_
 have q60:=ayd.form
 refine match q60 with|⟨aye,ayf,C1⟩=> ?_
 subst C1
 refine g9 3 ?_
 refine W.dF (i:=s.toNat) (o:=0) (vs:=[_]) (a':=(lV aye ((((Lw[s.toNat]'aa).1).take ((kf (Lw[s.toNat]'aa).1 th))++([th]))++((Lw[s.toNat]'aa).1).drop ((kf (Lw[s.toNat]'aa).1 th))).length ayf,(L[s.toNat]'aa).2)) qS rfl rfl rfl rfl rfl ((iz.mono Fv)) (ae (dx ai)) (by first|omega|(rw [List.length_set];omega)) (by decide) (fun cs h=>by obtain⟨h1,h2,h3⟩:=h;rw [h1];exact⟨rfl,⟨_,_,_,rfl⟩,h3⟩) (fun afi afv=>(W.perm (ae ai).symm ?_))
 have QV:=z7 afv (i:=s.toNat) (by first|(rw [List.length_set];omega)|(rw [List.length_set,List.length_set];omega)) (List.getElem_set_self ..)
 refine match QV with|⟨_,aWr,⟨CS,aWs⟩⟩=> ?_
 subst CS
 refine g9 2 ?_
 refine W.dF (i:=s.toNat) (o:=1) (vs:=[_]) (a':=(lV aye ((((Lw[s.toNat]'aa).1).take ((kf (Lw[s.toNat]'aa).1 th))++([th]))++((Lw[s.toNat]'aa).1).drop ((kf (Lw[s.toNat]'aa).1 th))).length ayf,how)) ci rfl rfl rfl rfl rfl (afv) (ae ai) (by first|omega|(rw [List.length_set];omega)) (by decide) (fun cs h=>by rw [List.getElem_set_self]at h;obtain⟨h1,h2,h3⟩:=h;rw [h1];exact⟨rfl,h2,OW⟩) (fun Yn ayg=>(W.perm (ae ai).symm ?_))
 have q72:=z7 ayg (i:=s.toNat) (by first|(rw [List.length_set];omega)|(rw [List.length_set,List.length_set];omega)) (List.getElem_set_self ..)
 refine match q72 with|⟨_,aWt,⟨JO,aWu⟩⟩=> ?_
 subst JO
 refine g9 7 ?_
 refine WC.perm (M':=((bx,aj 119 [lV eT L.length eU])::(Yn++(A9++(afB++(B9++[])))))) (((List.Perm.append_left _ ((List.Perm.append_left _ ((List.Perm.append_left _ ((List.Perm.append_left _ ai).trans ai)).trans ai)).trans (dx ai))).trans ai).cons _) (WC.ret ?_)
 refine⟨.inr rfl,[_],⟨rfl,trivial⟩,((bx,aj 119 [lV eT L.length eU])::(Yn++(A9++(afB++B9)))),(List.Sublist.append_left (List.Sublist.append_left (List.Sublist.append_left (List.sublist_append_left _ _) _) _) _).k9,?_⟩
 have cI:=R7 (how:=how) aa mN (sU mT) (by rw [←wM];intro h9;rcases h9 with h9|h9;exact QB h9;first|exact vU h9.1|exact h9.2 p59)
 exact⟨congrArg (Value.int .i64) (congrArg Prod.fst cI).symm,dC.cast (congrArg Prod.snd cI) ⟨_,_,_,_,by simp,aP.yN ayg (List.set_set ..),F7 _ _ _ _ _ Fv ayd,(by have h9:=hW.take (t:=th) (s:=s) oS OW;rw [cI]at h9;exact h9)⟩⟩

variable {df:MH}
theorem Yo(jK:dC 119 123 3 Th bx G Lw df)(th s:Int):Fc Tryz.prog 35 [aq bx,iV th,iV s] G df (fun v G' M'=>v=.tuple #[.bool (eO Lw th s),.bool (kg Lw th s)]∧dC 119 123 3 Th bx G' Lw M'):=by
  obtain⟨vl,L,fW,Mw,rfl,iz,lc,hW⟩:=jK
  exact aiO iz th s lc hW
theorem OY(jK:dC 119 123 3 Th bx G Lw df)(th s how:Int)(oS:th∈Th)(OW:i64 how):Fc Tryz.prog 61 [aq bx,iV th,iV s,iV how] G df (fun v G' M'=>v=iV (dK Lw th s how).1∧dC 119 123 3 Th bx G' (dK Lw th s how).2 M'):=by
  obtain⟨vl,L,fW,Mw,rfl,iz,lc,hW⟩:=jK
  exact acG iz th s how lc hW oS OW
theorem aiP(jK:dC 119 123 3 Th bx G Lw df)(th:Int)(s:Int)(oS:th∈Th):
    Fc Tryz.prog 36 [aq bx,iV th,iV s] G df (fun v G' M'=>v=iV (dK Lw th s 1).1∧dC 119 123 3 Th bx G' (dK Lw th s 1).2 M'):=by
 refine Fc.go [.tmp 6] Tryz.func36 Tryz.ntmps36 rfl (fun w0=>(WC.perm (M':=(df++[])) (by simp) (g9 10 ?_)))
 refine W.call (Mp:=df) (OY jK th s 1 oS ⟨by decide,by decide⟩) rfl ai ?_
 intro v76 G73 HB CT q74
 refine match q74 with|⟨WU,anm⟩=> ?_
 subst WU
 refine g9 4 ?_
 refine⟨.inr rfl,[_],⟨rfl,trivial⟩,HB,List.sublist_append_left _ _,?_⟩
 exact⟨rfl,anm⟩

theorem Km(jK:dC 119 123 3 Th bx G Lw df)(th:Int)(s:Int)(oS:th∈Th):
    Fc Tryz.prog 37 [aq bx,iV th,iV s] G df (fun v G' M'=>v=iV (dK Lw th s 2).1∧dC 119 123 3 Th bx G' (dK Lw th s 2).2 M'):=by
 refine Fc.go [.tmp 6] Tryz.func37 Tryz.ntmps37 rfl (fun w0=>(WC.perm (M':=(df++[])) (by simp) (g9 10 ?_)))
 refine W.call (Mp:=df) (OY jK th s 2 oS ⟨by decide,by decide⟩) rfl ai ?_
 intro v82 G79 ann aKb q80
 refine match q80 with|⟨WV,ano⟩=> ?_
 subst WV
 refine g9 4 ?_
 refine⟨.inr rfl,[_],⟨rfl,trivial⟩,ann,List.sublist_append_left _ _,?_⟩
 exact⟨rfl,ano⟩

theorem Yp(jK:dC 119 123 3 Th bx G Lw df)(th:Int)(s:Int):
    Fc Tryz.prog 164 [aq bx,iV th,iV s] G df (fun v G' M'=>v=iV (hU Lw th s).1∧dC 119 123 3 Th bx G' (hU Lw th s).2 M'):=by
 refine Fc.go [.tmp 6] Tryz.func164 Tryz.ntmps164 rfl (fun w0=>(WC.perm (M':=(df++[])) (by simp) (g9 2 ?_)))
 refine W.box (L:=[iV _]) rfl rfl (fun b85=>(g9 7 ?_))
 refine W.ok (bV Ul rfl rfl) (g9 11 ?_)
 refine W.call (Mp:=df) (Yo jK th s) rfl (ae ai) ?_
 intro v89 G86 aob aWv q87
 refine match q87 with|⟨anp,ayh⟩=> ?_
 subst anp
 refine W.perm (ae ai).symm (g9 13 ?_)
 refine WC.cond rfl (fun gD=> ?_) (fun gD=> ?_)
 ·have aLH:eO Lw th s=false:=by simpa using gD
  refine g9 5 ?_
  refine WC.sub (M':=(aob++[])) ((List.Sublist.append_left bi _).cons _) (g9 2 ?_)
  refine⟨.inr rfl,[_],⟨rfl,trivial⟩,aob,List.sublist_append_left _ _,?_⟩
  have cI:=aCz aLH
  exact⟨congrArg (Value.int .i64) (congrArg Prod.fst cI).symm,dC.cast (congrArg Prod.snd cI) ayh⟩
 have aqj:eO Lw th s=true:=by simpa using gD
 refine g9 3 ?_
 refine match ayh with|⟨vl,L,fW,Mw,EX,iz,lc,hW⟩=> ?_
 subst EX
 refine WC.perm (M':=((bx,aj 119 [vl])::((b85,aj 3 [iV th])::(fW++(Mw++[]))))) (eX ((oU ai).cons _)).symm ?_
 refine match iz.form with|⟨eT,eU,nH⟩=> ?_
 subst nH
 have hlw:=lc.len
 have hl4:=hW.2.1
 have Ym:=iz.aH
 have mN:=Yi aqj
 have aWw:=dN mN
 have aWx:=mN.1
 have aWy:=mN.2
 refine g9 6 ?_
 refine iz.a2 (i:=s.toNat) aa (fun aLI aWz=>(W.ok (aE (i:=s.toNat) xQ sS iz rfl rfl ⟨aa,aa⟩) (g9 4 ?_)))
 have q96:=lc.el (i:=s.toNat) aa aa
 refine match q96 with|⟨wM,_⟩=> ?_
 have q97:=hW.at (i:=s.toNat) aa
 refine match q97 with|⟨afy,ax9,aya,ayb⟩=> ?_
 have q98:=lc.split (i:=s.toNat) aa aa
 refine match q98 with|⟨_,A9,Dl,B9,Kl,yR,F7⟩=> ?_
 subst Kl
 refine WC.perm (M':=((bx,aj 119 [lV eT L.length eU])::((b85,aj 3 [iV th])::(fW++(A9++(Dl++(B9++[]))))))) (List.Perm.of_eq (by first|(simp only [List.append_assoc];done)|(simp only [List.append_assoc];rfl))) (g9 5 ?_)
 refine W.ok (bM (vs:=[_]) qS aLI (ae (ae ai)) rfl rfl rfl (by simp)) (W.aag (b:=b85) (L:=[iV _]) ((List.Perm.swap _ _ _).trans (ai.cons _)) (fun G99 aLJ aLK=>(W.ok (lY (fst:=[]) (caps:=[.tmp 4]) (vs:=[]) (ws:=[aq b85]) rfl rfl) (W.call (Mp:=Dl) (awa (yR.mono aLJ) _ aLK) rfl (ae (dx (dx ai))) ?_))))
 rintro axU axD By amy EQ
 refine W.perm (ae ai).symm ?_
 have Xc:=EQ.form
 refine match Xc with|⟨Rv,Rw,abX⟩=> ?_
 subst abX
 refine g9 2 ?_
 refine W.dF (i:=s.toNat) (o:=0) (vs:=[_]) (a':=(lV Rv (((Lw[s.toNat]'aa).1).filter (fun a=> !(fun z:Int=>decide (z=(th))) a)).length Rw,(L[s.toNat]'aa).2)) qS rfl rfl rfl rfl rfl ((iz.mono aS)) (ae (dx ai)) (by first|omega|(rw [List.length_set];omega)) (by decide) (fun cs h=>by obtain⟨h1,h2,h3⟩:=h;rw [h1];exact⟨rfl,⟨_,_,_,rfl⟩,h3⟩) (fun aqk acH=>(W.perm (ae ai).symm ?_))
 have aLL:=z7 acH (i:=s.toNat) (by first|(rw [List.length_set];omega)|(rw [List.length_set,List.length_set];omega)) (List.getElem_set_self ..)
 refine match aLL with|⟨_,aCA,⟨acI,aR4⟩⟩=> ?_
 subst acI
 refine g9 8 ?_
 refine W.ok (bM (vs:=lc9) qS aCA (ae ai) rfl rfl rfl (by simp)) (g9 4 ?_)
 refine WC.cd (fun mT vp=> ?_) (fun mT vp=> ?_)
 ·refine g9 4 ?_
  refine W.dF (i:=s.toNat) (o:=1) (vs:=[_]) (a':=(lV Rv (((Lw[s.toNat]'aa).1).filter (fun a=> !(fun z:Int=>decide (z=(th))) a)).length Rw,0)) ci rfl rfl rfl rfl rfl (acH) (ae ai) (by first|omega|(rw [List.length_set];omega)) (by decide) (fun cs h=>by rw [List.getElem_set_self]at h;obtain⟨h1,h2,h3⟩:=h;rw [h1];exact⟨rfl,h2,(⟨by decide,by decide⟩:i64 0)⟩) (fun abM JR=>(W.perm (ae ai).symm ?_))
  have JS:=z7 JR (i:=s.toNat) (by first|(rw [List.length_set];omega)|(rw [List.length_set,List.length_set];omega)) (List.getElem_set_self ..)
  refine match JS with|⟨_,aR5,⟨abN,aR6⟩⟩=> ?_
  subst abN
  refine g9 7 ?_
  refine WC.perm (M':=((bx,aj 119 [lV eT L.length eU])::(abM++(A9++(By++(B9++[])))))) (((List.Perm.append_left _ ((List.Perm.append_left _ ((List.Perm.append_left _ ((List.Perm.append_left _ ai).trans ai)).trans ai)).trans (dx ai))).trans ai).cons _) (WC.ret ?_)
  refine⟨.inr rfl,[_],⟨rfl,trivial⟩,((bx,aj 119 [lV eT L.length eU])::(abM++(A9++(By++B9)))),(List.Sublist.append_left (List.Sublist.append_left (List.Sublist.append_left (List.sublist_append_left _ _) _) _) _).k9,?_⟩
  have cI:=abd aqj mN
  rw [if_pos (show(xv th (Lw[s.toNat]'aa).1).length=0 by have h9:((xv th (Lw[s.toNat]'aa).1).length:Int)=0:=vp;omega)]at cI
  exact⟨congrArg (Value.int .i64) (congrArg Prod.fst cI).symm,dC.cast (congrArg Prod.snd cI) ⟨_,_,_,_,by simp,aP.yN JR (List.set_set ..),F7 _ _ _ _ _ aS EQ,(by have h9:=hW.rel (t:=th) (s:=s);rw [cI]at h9;exact h9)⟩⟩
 refine g9 7 ?_
 refine WC.perm (M':=((bx,aj 119 [lV eT L.length eU])::(aqk++(A9++(By++(B9++[])))))) (((List.Perm.append_left _ ((List.Perm.append_left _ ((List.Perm.append_left _ ((List.Perm.append_left _ ai).trans ai)).trans ai)).trans (dx ai))).trans ai).cons _) (WC.ret ?_)
 refine⟨.inr rfl,[_],⟨rfl,trivial⟩,((bx,aj 119 [lV eT L.length eU])::(aqk++(A9++(By++B9)))),(List.Sublist.append_left (List.Sublist.append_left (List.Sublist.append_left (List.sublist_append_left _ _) _) _) _).k9,?_⟩
 have cI:=abd aqj mN
 rw [if_neg (show ¬(xv th (Lw[s.toNat]'aa).1).length=0 by intro h9;exact vp (show((xv th (Lw[s.toNat]'aa).1).length:Int)=0 by omega)),←wM]at cI
 exact⟨congrArg (Value.int .i64) (congrArg Prod.fst cI).symm,dC.cast (congrArg Prod.snd cI) ⟨_,_,_,_,by simp,acH,F7 _ _ _ _ _ aS EQ,(by have h9:=hW.rel (t:=th) (s:=s);rw [cI]at h9;exact h9)⟩⟩

variable {aG:Nat}
theorem awb(ht:Int)(hs:Int)(hw:Bool)(n:Int)(gh:iD G aG 0 [iV n]):
    Fc Tryz.prog 101 [.agg #[iV ht,iV hs,.bool hw],aq aG] G [] (fun v _ _=>v=.bool (decide (ht=n))):=by
 refine Fc.go [.tmp 3] Tryz.func101 Tryz.ntmps101 rfl (fun w0=>(g9 2 ?_))
 refine W.box (L:=[iV _,iV _,.bool _]) rfl rfl (fun b1=>(g9 7 ?_))
 refine W.ok (DT (vs:=jk) ci gh rfl rfl rfl (by simp)) (g9 6 ?_)
 rfl

theorem aql(ht:Int)(hs:Int)(hw:Bool):
    Fc Tryz.prog 91 [.agg #[iV ht,iV hs,.bool hw]] G [] (fun v _ _=>v=.bool (true)):=by
 refine Fc.go [.tmp 2] Tryz.func91 Tryz.ntmps91 rfl (fun w0=>(g9 2 ?_))
 refine W.box (L:=[iV _,iV _,.bool _]) rfl rfl (fun b2=>(g9 10 ?_))
 rfl

theorem acJ(jK:dC 119 123 3 Th bx G Lw df)(n:Int)(gh:iD G aG 0 [iV n]):
    Fc Tryz.prog 90 [aq bx,.func (.func 101) #[] #[aq aG]] G df (fun v G' M'=>ax pD G' v (qj (fun h:ko=>decide (h.kM=n)) Lw)∧dC 119 123 3 Th bx G' Lw M'):=by
 refine Fc.go [.tmp 4] Tryz.func90 Tryz.ntmps90 rfl (fun w0=>(WC.perm (M':=(df++[])) (by simp) (g9 14 ?_)))
 refine W.ok (bV Ul rfl rfl) (g9 7 ?_)
 refine match jK with|⟨vl,L,fW,Mw,EX,iz,lc,hW⟩=> ?_
 subst EX
 refine WC.perm (M':=((bx,aj 119 [vl])::(fW++(Mw++[])))) ((oU ai).cons _).symm ?_
 refine match iz.form with|⟨eT,eU,nH⟩=> ?_
 subst nH
 have hlw:=lc.len
 have hl4:=hW.2.1
 have Ym:=iz.aH
 refine g9 10 ?_
 refine WC.loop (X:=(Nat×List ko)×Value×MH) (fun x=>[(18,aT x.1.1),(16,lV eT L.length eU),(1,.func (.func 101) #[] #[aq aG]),(17,aT ((L).length)),(5,x.2.1)]) (fun x G Ml=>Ml=((bx,aj 119 [lV eT L.length eU])::(x.2.2++(fW++(Mw++[]))))∧aP pD 83 G x.2.1 (x.1.2) x.2.2∧x.1.1≤Lw.length∧x.1.2=(m5 Lw x.1.1).filter (fun h:ko=>decide (h.kM=n))) (fun x=>Lw.length-x.1.1) (((0,[]):Nat×List ko),lV none 0 0,([]:MH)) aZ ?_ ?_
 ·exact⟨rfl,(by exact aP.nil),Nat.zero_le _,rfl⟩
 rintro⟨⟨k,out⟩,qm,vg⟩ gG3 G3 _ Lv ⟨rfl,fV,hk,wA⟩
 try dsimp only at fV hk wA
 refine WC.fr (f:=dO gG3 [(18,aT k),(16,lV eT L.length eU),(1,.func (.func 101) #[] #[aq aG]),(17,aT ((L).length)),(5,qm)]) rfl (g9 6 ?_)
 refine WC.cd (fun fN pQ=> ?_) (fun fN pQ=> ?_)
 ·try dsimp only at pQ
  refine g9 5 ?_
  have Yq:k<Lw.length:=by omega
  have aqm:=hW.at Yq
  have q4:=(m6.mono Lv lc).split (i:=k) aa aa
  refine match q4 with|⟨wM,A9,Dl,B9,Kl,yR,F7⟩=> ?_
  refine WC.perm (M':=((bx,aj 119 [lV eT L.length eU])::(vg++(fW++(A9++(Dl++(B9++[]))))))) (List.Perm.of_eq (by rw [Kl];first|rfl|(simp only [List.append_assoc];done)|(simp only [List.append_assoc];rfl))) ?_
  refine match yR.form with|⟨Kn,Ko,ev8⟩=> ?_
  have Kp:=yR
  rw [ev8]at Kp
  refine g9 2 ?_
  refine(iz.mono Lv).a2 (i:=k) aa (fun he5 hf6=>(W.ok (aE (i:=k) xQ sS (iz.mono Lv) rfl rfl ⟨aa,aa⟩) (W.ok (Ok.yN (v':=AN true [lV Kn ((Lw[k]'aa).1).length Ko,iV (L[k]'aa).2]) (bM (vs:=[_,_]) sS he5 (ae (dx ai)) rfl rfl rfl (by simp)) (by rw [ev8])) (W.alloc aaq (fun b9=>(g9 13 ?_))))))
  refine WC.loop (X:=(Nat×List ko)×Value×MH) (fun y=>[(26,aT y.1.1),(16,lV eT L.length eU),(24,lV Kn ((Lw[k]'aa).1).length Ko),(7,aq b9),(1,.func (.func 101) #[] #[aq aG]),(6,aT k),(17,aT ((L).length)),(18,aT k),(25,aT ((((Lw[k]'aa).1)).length)),(5,y.2.1)]) (fun y G Ml=>Ml=((b9,aj 123 [lV Kn ((Lw[k]'aa).1).length Ko,iV (L[k]'aa).2])::((bx,aj 119 [lV eT L.length eU])::(y.2.2++(fW++(A9++(Dl++(B9++[])))))))∧aP pD 83 G y.2.1 (y.1.2) y.2.2∧y.1.1≤(Lw[k]'aa).1.length∧y.1.2=(k8 Lw k y.1.1).filter (fun h:ko=>decide (h.kM=n))) (fun y=>(Lw[k]'aa).1.length-y.1.1) (((0,out):Nat×List ko),qm,vg) aZ ?_ ?_
  ·exact⟨rfl,(by exact fV),Nat.zero_le _,by dsimp only;rw [Yk];exact wA⟩
  rintro⟨⟨j,o2⟩,qm,vg⟩ akh G10 _ pe ⟨rfl,fV,hj,xf⟩
  try dsimp only at fV hj xf
  have aqn:=Kk hW Yq (j:=j) (fun h:ko=>decide (h.kM=n))
  rw [←xf]at aqn
  refine WC.fr (f:=dO akh [(26,aT j),(16,lV eT L.length eU),(24,lV Kn ((Lw[k]'aa).1).length Ko),(7,aq b9),(1,.func (.func 101) #[] #[aq aG]),(6,aT k),(17,aT ((L).length)),(18,aT k),(25,aT ((((Lw[k]'aa).1)).length)),(5,qm)]) rfl (g9 6 ?_)
  refine WC.cd (fun pT l9=> ?_) (fun pT l9=> ?_)
  ·try dsimp only at l9
   refine g9 6 ?_
   refine(Kp.mono pe).a2 (i:=j) aa (fun wk aIP=>(W.ok (aE (i:=j) cq ci (Kp.mono pe) rfl rfl ⟨aa,aa⟩) (W.ok (bM (vs:=jk) ci wk (ae (ae (dx (dx (dx ai))))) rfl rfl rfl (by simp)) (g9 10 ?_))))
   refine W.ok (aM (L:=[iV _,iV _,.bool _]) Uk ww rfl rfl rfl) (W.alloc ww (fun qI=>(g9 7 ?_)))
   refine W.nc (fst:=[]) (caps:=[aq aG]) rfl (awb _ _ _ _ (gh.mono aS)) rfl (g9 2 ?_)
   refine WC.cond rfl (fun AY=> ?_) (fun AY=> ?_)
   ·refine g9 3 ?_
    refine W.lit (e:=pD) (l:=[(⟨(Lw[k]'aa).1[j]'aa,(k:Int),decide ((Lw[k]'aa).2=2)⟩:ko)]) (css:=[[iV _,iV _,.bool _]]) Ui Uj ww rfl rfl rfl rfl rfl rfl ⟨⟨by first|rfl|rw [wM],hW.2.2.1 _ (aqm.2.1 _ (List.getElem_mem _)),⟨by dsimp only;omega,by dsimp only;omega⟩⟩,trivial⟩ (fun aWA G16 mK Nq=>(W.app (e:=pD) Ui Uj ww rfl aw3 rfl rfl ((fV.mono mK)) (Nq) (ae (ae (ae ai))) (by show(List.length _+1)*24≤_;omega) (fun v17 wo adM=>(W.perm (ae (ae (ae ai))).symm ?_))))
    have q23:=adM.form
    refine match q23 with|⟨aLM,aLN,Dc⟩=> ?_
    subst Dc
    refine g9 7 ?_
    refine W.sub (bi.cons _) (g9 2 ?_)
    exact⟨mK,(((j+1,o2++[(⟨(Lw[k]'aa).1[j]'aa,(k:Int),decide ((Lw[k]'aa).2=2)⟩:ko)]):Nat×List ko),lV aLM ((o2++[(⟨(Lw[k]'aa).1[j]'aa,(k:Int),decide ((Lw[k]'aa).2=2)⟩:ko)])).length aLN,wo),aZ,⟨rfl,(by exact adM),by dsimp only;omega,by dsimp only at xf⊢;rw [Yl aa aa (AY),←xf]⟩,by dsimp only;omega⟩
   refine g9 6 ?_
   refine W.sub (bi.cons _) (g9 2 ?_)
   exact⟨Le.rfl,(((j+1,o2):Nat×List ko),qm,vg),aZ,⟨rfl,(by exact fV),by dsimp only;omega,by dsimp only at xf⊢;rw [aqe aa aa (AY),←xf]⟩,by dsimp only;omega⟩
  try dsimp only at l9
  refine g9 6 ?_
  refine WC.perm (M':=((b9,aj 123 [lV Kn ((Lw[k]'aa).1).length Ko,iV (L[k]'aa).2])::((bx,aj 119 [lV eT L.length eU])::(vg++(fW++(Mw++[])))))) (List.Perm.of_eq (by rw [Kl];first|rfl|(simp only [List.append_assoc];done)|(simp only [List.append_assoc];rfl))) (g9 3 ?_)
  refine W.sub (bi.cons _) (g9 2 ?_)
  exact⟨pe,(((k+1,o2):Nat×List ko),qm,vg),aZ,⟨rfl,(by exact fV),by dsimp only;omega,by dsimp only at xf⊢;rw [xf,show j=(Lw[k]'aa).1.length by omega,Kj]⟩,by dsimp only;omega⟩
 try dsimp only at pQ
 refine g9 11 ?_
 refine WC.cm fV (ae ai) (fun G24 xC T1=>(WC.ret ?_))
 refine⟨.inr rfl,[_],⟨rfl,trivial⟩,((bx,aj 119 [lV eT L.length eU])::(fW++Mw)),(List.Sublist.append_left (List.sublist_append_left _ _) _).k9,?_⟩
 have hk8:k=Lw.length:=by omega
 subst hk8
 exact⟨ax.cast T1 wA,⟨_,_,_,_,by simp,(iz.mono aS),(m6.mono aS lc),hW⟩⟩

theorem acK(jK:dC 119 123 3 Th bx G Lw df):
    Fc Tryz.prog 90 [aq bx,.func (.func 91) #[] #[]] G df (fun v G' M'=>ax pD G' v (qj (fun _=>true) Lw)∧dC 119 123 3 Th bx G' Lw M'):=by
 refine Fc.go [.tmp 4] Tryz.func90 Tryz.ntmps90 rfl (fun w0=>(WC.perm (M':=(df++[])) (by simp) (g9 14 ?_)))
 refine W.ok (bV Ul rfl rfl) (g9 7 ?_)
 refine match jK with|⟨vl,L,fW,Mw,EX,iz,lc,hW⟩=> ?_
 subst EX
 refine WC.perm (M':=((bx,aj 119 [vl])::(fW++(Mw++[])))) ((oU ai).cons _).symm ?_
 refine match iz.form with|⟨eT,eU,nH⟩=> ?_
 subst nH
 have hlw:=lc.len
 have hl4:=hW.2.1
 have Ym:=iz.aH
 refine g9 10 ?_
 refine WC.loop (X:=(Nat×List ko)×Value×MH) (fun x=>[(18,aT x.1.1),(16,lV eT L.length eU),(1,.func (.func 91) #[] #[]),(17,aT ((L).length)),(5,x.2.1)]) (fun x G Ml=>Ml=((bx,aj 119 [lV eT L.length eU])::(x.2.2++(fW++(Mw++[]))))∧aP pD 83 G x.2.1 (x.1.2) x.2.2∧x.1.1≤Lw.length∧x.1.2=(m5 Lw x.1.1).filter (fun _=>true)) (fun x=>Lw.length-x.1.1) (((0,[]):Nat×List ko),lV none 0 0,([]:MH)) aZ ?_ ?_
 ·exact⟨rfl,(by exact aP.nil),Nat.zero_le _,rfl⟩
 rintro⟨⟨k,out⟩,qm,vg⟩ ak4 G25 _ qf ⟨rfl,fV,hk,wA⟩
 try dsimp only at fV hk wA
 refine WC.fr (f:=dO ak4 [(18,aT k),(16,lV eT L.length eU),(1,.func (.func 91) #[] #[]),(17,aT ((L).length)),(5,qm)]) rfl (g9 6 ?_)
 refine WC.cd (fun fN pQ=> ?_) (fun fN pQ=> ?_)
 ·try dsimp only at pQ
  refine g9 5 ?_
  have Yq:k<Lw.length:=by omega
  have aqm:=hW.at Yq
  have q26:=(m6.mono qf lc).split (i:=k) aa aa
  refine match q26 with|⟨wM,A9,Dl,B9,Kl,yR,F7⟩=> ?_
  refine WC.perm (M':=((bx,aj 119 [lV eT L.length eU])::(vg++(fW++(A9++(Dl++(B9++[]))))))) (List.Perm.of_eq (by rw [Kl];first|rfl|(simp only [List.append_assoc];done)|(simp only [List.append_assoc];rfl))) ?_
  refine match yR.form with|⟨Kn,Ko,ev8⟩=> ?_
  have Kp:=yR
  rw [ev8]at Kp
  refine g9 2 ?_
  refine(iz.mono qf).a2 (i:=k) aa (fun VG aWB=>(W.ok (aE (i:=k) xQ sS (iz.mono qf) rfl rfl ⟨aa,aa⟩) (W.ok (Ok.yN (v':=AN true [lV Kn ((Lw[k]'aa).1).length Ko,iV (L[k]'aa).2]) (bM (vs:=[_,_]) sS VG (ae (dx ai)) rfl rfl rfl (by simp)) (by rw [ev8])) (W.alloc aaq (fun b31=>(g9 13 ?_))))))
  refine WC.loop (X:=(Nat×List ko)×Value×MH) (fun y=>[(26,aT y.1.1),(16,lV eT L.length eU),(24,lV Kn ((Lw[k]'aa).1).length Ko),(7,aq b31),(1,.func (.func 91) #[] #[]),(6,aT k),(17,aT ((L).length)),(18,aT k),(25,aT ((((Lw[k]'aa).1)).length)),(5,y.2.1)]) (fun y G Ml=>Ml=((b31,aj 123 [lV Kn ((Lw[k]'aa).1).length Ko,iV (L[k]'aa).2])::((bx,aj 119 [lV eT L.length eU])::(y.2.2++(fW++(A9++(Dl++(B9++[])))))))∧aP pD 83 G y.2.1 (y.1.2) y.2.2∧y.1.1≤(Lw[k]'aa).1.length∧y.1.2=(k8 Lw k y.1.1).filter (fun _=>true)) (fun y=>(Lw[k]'aa).1.length-y.1.1) (((0,out):Nat×List ko),qm,vg) aZ ?_ ?_
  ·exact⟨rfl,(by exact fV),Nat.zero_le _,by dsimp only;rw [Yk];exact wA⟩
  rintro⟨⟨j,o2⟩,qm,vg⟩ aLO G32 _ VJ ⟨rfl,fV,hj,xf⟩
  try dsimp only at fV hj xf
  have aqn:=Kk hW Yq (j:=j) (fun _=>true)
  rw [←xf]at aqn
  refine WC.fr (f:=dO aLO [(26,aT j),(16,lV eT L.length eU),(24,lV Kn ((Lw[k]'aa).1).length Ko),(7,aq b31),(1,.func (.func 91) #[] #[]),(6,aT k),(17,aT ((L).length)),(18,aT k),(25,aT ((((Lw[k]'aa).1)).length)),(5,qm)]) rfl (g9 6 ?_)
  refine WC.cd (fun pT l9=> ?_) (fun pT l9=> ?_)
  ·try dsimp only at l9
   refine g9 6 ?_
   refine(Kp.mono VJ).a2 (i:=j) aa (fun adO aLP=>(W.ok (aE (i:=j) cq ci (Kp.mono VJ) rfl rfl ⟨aa,aa⟩) (W.ok (bM (vs:=jk) ci adO (ae (ae (dx (dx (dx ai))))) rfl rfl rfl (by simp)) (g9 10 ?_))))
   refine W.ok (aM (L:=[iV _,iV _,.bool _]) Uk ww rfl rfl rfl) (W.alloc ww (fun b37=>(g9 7 ?_)))
   refine W.nc (fst:=[]) (caps:=[]) rfl (aql _ _ _) rfl (g9 6 ?_)
   refine W.lit (e:=pD) (l:=[(⟨(Lw[k]'aa).1[j]'aa,(k:Int),decide ((Lw[k]'aa).2=2)⟩:ko)]) (css:=[[iV _,iV _,.bool _]]) Ui Uj ww rfl rfl rfl rfl rfl rfl ⟨⟨by first|rfl|rw [wM],hW.2.2.1 _ (aqm.2.1 _ (List.getElem_mem _)),⟨by dsimp only;omega,by dsimp only;omega⟩⟩,trivial⟩ (fun axG TX kV Fs=>(W.app (e:=pD) Ui Uj ww rfl aw3 rfl rfl ((fV.mono kV)) (Fs) (ae (ae (ae ai))) (by show(List.length _+1)*24≤_;omega) (fun v39 Ar W6=>(W.perm (ae (ae (ae ai))).symm ?_))))
   have Rh:=W6.form
   refine match Rh with|⟨W7,W8,yJ⟩=> ?_
   subst yJ
   refine g9 7 ?_
   refine W.sub (bi.cons _) (g9 2 ?_)
   exact⟨kV,(((j+1,o2++[(⟨(Lw[k]'aa).1[j]'aa,(k:Int),decide ((Lw[k]'aa).2=2)⟩:ko)]):Nat×List ko),lV W7 ((o2++[(⟨(Lw[k]'aa).1[j]'aa,(k:Int),decide ((Lw[k]'aa).2=2)⟩:ko)])).length W8,Ar),aZ,⟨rfl,(by exact W6),by dsimp only;omega,by dsimp only at xf⊢;rw [Yl aa aa (rfl),←xf]⟩,by dsimp only;omega⟩
  try dsimp only at l9
  refine g9 6 ?_
  refine WC.perm (M':=((b31,aj 123 [lV Kn ((Lw[k]'aa).1).length Ko,iV (L[k]'aa).2])::((bx,aj 119 [lV eT L.length eU])::(vg++(fW++(Mw++[])))))) (List.Perm.of_eq (by rw [Kl];first|rfl|(simp only [List.append_assoc];done)|(simp only [List.append_assoc];rfl))) (g9 3 ?_)
  refine W.sub (bi.cons _) (g9 2 ?_)
  exact⟨VJ,(((k+1,o2):Nat×List ko),qm,vg),aZ,⟨rfl,(by exact fV),by dsimp only;omega,by dsimp only at xf⊢;rw [xf,show j=(Lw[k]'aa).1.length by omega,Kj]⟩,by dsimp only;omega⟩
 try dsimp only at pQ
 refine g9 11 ?_
 refine WC.cm fV (ae ai) (fun G46 akA HR=>(WC.ret ?_))
 refine⟨.inr rfl,[_],⟨rfl,trivial⟩,((bx,aj 119 [lV eT L.length eU])::(fW++Mw)),(List.Sublist.append_left (List.sublist_append_left _ _) _).k9,?_⟩
 have hk8:k=Lw.length:=by omega
 subst hk8
 exact⟨ax.cast HR wA,⟨_,_,_,_,by simp,(iz.mono aS),(m6.mono aS lc),hW⟩⟩

theorem afC(jK:dC 119 123 3 Th bx G Lw df)(th:Int):
    Fc Tryz.prog 62 [aq bx,iV th] G df (fun v G' M'=>ax pD G' v (kT Lw th)∧dC 119 123 3 Th bx G' Lw M'):=by
 refine Fc.go [.tmp 4] Tryz.func62 Tryz.ntmps62 rfl (fun w0=>(WC.perm (M':=(df++[])) (by simp) (g9 2 ?_)))
 refine W.box (L:=[iV _]) rfl rfl (fun b47=>(g9 6 ?_))
 refine W.aag (b:=b47) (L:=[iV _]) ai (fun G48 CR aLQ=>(W.ok (lY (fst:=[]) (caps:=[.tmp 3]) (vs:=[]) (ws:=[aq b47]) rfl rfl) (W.call (Mp:=df) (acJ (dC.mono CR jK) th aLQ) rfl ai ?_)))
 intro v52 G49 Fu yt q50
 refine match q50 with|⟨Kq,aqo⟩=> ?_
 have aFQ:=Kq.aH
 have q57:=Kq.form
 refine match q57 with|⟨aWC,aWD,WE⟩=> ?_
 subst WE
 refine g9 4 ?_
 refine⟨.inr rfl,[_],⟨rfl,trivial⟩,Fu,List.sublist_append_left _ _,?_⟩
 exact⟨Kq,aqo⟩

theorem aqp(jK:dC 119 123 3 Th bx G Lw df):
    Fc Tryz.prog 49 [aq bx] G df (fun v G' M'=>ax pD G' v (qj (fun _=>true) Lw)∧dC 119 123 3 Th bx G' Lw M'):=by
 refine Fc.go [.tmp 2] Tryz.func49 Tryz.ntmps49 rfl (fun w0=>(WC.perm (M':=(df++[])) (by simp) (g9 8 ?_)))
 refine W.call (Mp:=df) (acK jK) rfl ai ?_
 intro v61 G58 aqq B5 QU
 refine match QU with|⟨Kr,aqr⟩=> ?_
 have aFR:=Kr.aH
 have QV:=Kr.form
 refine match QV with|⟨aWE,aWF,CS⟩=> ?_
 subst CS
 refine g9 4 ?_
 refine⟨.inr rfl,[_],⟨rfl,trivial⟩,aqq,List.sublist_append_left _ _,?_⟩
 exact⟨Kr,aqr⟩

theorem ahY(jK:dC 119 123 3 Th bx G Lw df)(th:Int):
    Fc Tryz.prog 144 [aq bx,iV th] G df (fun v G' M'=>dC 119 123 3 Th bx G' (lM Lw th) M'):=by
 refine Fc.go [.tmp 4] Tryz.func144 Tryz.ntmps144 rfl (fun w0=>(WC.perm (M':=(df++[])) (by simp) (g9 9 ?_)))
 refine W.call (Mp:=df) (afC jK th) rfl ai ?_
 intro v70 G67 alT Ja q68
 refine match q68 with|⟨Ks,alU⟩=> ?_
 have aFS:=Ks.aH
 have q75:=Ks.form
 refine match q75 with|⟨afD,afE,Wh⟩=> ?_
 subst Wh
 refine g9 12 ?_
 refine WC.loop (X:=(Nat)×MH) (fun j=>[(13,aT j.1),(1,iV th),(5,lV afD ((kT Lw th)).length afE),(11,lV afD ((kT Lw th)).length afE),(12,aT (((kT Lw th)).length)),(0,aq bx)]) (fun j G Ml=>Ml=(j.2++[])∧dC 119 123 3 Th bx G (u4 th ((kT Lw th).take j.1) Lw) j.2∧j.1≤(kT Lw th).length) (fun j=>(kT Lw th).length-j.1) (0,alT) aZ ?_ ?_
 ·exact⟨rfl,(by exact alU),Nat.zero_le _⟩
 rintro⟨j,A0⟩ aLR G76 _ aqs ⟨rfl,eH,hj⟩
 try dsimp only at eH hj
 refine WC.fr (f:=dO aLR [(13,aT j),(1,iV th),(5,lV afD ((kT Lw th)).length afE),(11,lV afD ((kT Lw th)).length afE),(12,aT (((kT Lw th)).length)),(0,aq bx)]) rfl (g9 6 ?_)
 refine WC.cd (fun gl gm=> ?_) (fun gl gm=> ?_)
 ·try dsimp only at gm
  refine g9 6 ?_
  refine(Ks.mono aqs).a2 (i:=j) aa (fun aKE axQ=>(g9 2 ?_))
  refine W.alloc ww (fun b82=>(g9 8 ?_))
  refine W.call (Mp:=A0) (Yp eH th ((((kT Lw th))[j]).slot)) rfl (ae ai) ?_
  intro v86 G83 OS FY q84
  refine match q84 with|⟨_,aLS⟩=> ?_
  refine W.perm (ae ai).symm (g9 6 ?_)
  refine W.sub (bi.cons _) (g9 2 ?_)
  exact⟨FY,(j+1,OS),aZ,⟨rfl,(by have h:=aLS;rw [acE aa];exact h),aa⟩,aa⟩
 try dsimp only at gm
 refine g9 13 ?_
 refine⟨.inr rfl,[_],⟨rfl,trivial⟩,A0,List.sublist_append_left _ _,?_⟩
 have hj9:j=(kT Lw th).length:=by omega
 have hB9:=eH
 rw [hj9,List.take_length]at hB9
 exact hB9

theorem amh(n:Int)(Th:List Int)(Jk:(∀x∈Th,i64 x)∧Th.length≤1000):
    Fc Tryz.prog 56 [iV n] G [] (fun v G' M'=>(¬(1≤n∧n≤4096)∧v=.tuple #[.pointer none,iV 2]∧M'=[])∨((1≤n∧n≤4096)∧∃b,v=.tuple #[aq b,iV 0]∧dC 119 123 3 Th b G' (List.replicate n.toNat ([],0)) M')):=by
 refine Fc.go [.tmp 2,.tmp 3] Tryz.func56 Tryz.ntmps56 rfl (fun w0=>(g9 12 ?_))
 refine W.sd 6 (fun h5 p5=> ?_) (fun h5 p5=> ?_)
 ·refine g9 15 ?_
  exact .inl ⟨aa,rfl,rfl⟩
 refine g9 7 ?_
 refine WC.cd (fun h8 p8=> ?_) (fun h8 p8=> ?_)
 ·refine g9 9 ?_
  exact .inl ⟨aa,rfl,rfl⟩
 obtain⟨m,rfl⟩:∃m:Nat,n=(m:Int):=⟨n.toNat,aa⟩
 refine g9 5 ?_
 refine W.Jc (e:=Ti) (a0:=(((lV none 0 0),0):Value×Int)) (n:=(m)) xQ sS aaq rfl ayX (⟨rfl,⟨_,_,_,rfl⟩,by decide,by decide⟩) rfl rfl (by first|(show _*32≤140737488355328;omega)|(show _*2≤16777216;omega)) (by first|(show _*32≤140737488355328;omega)|(show _*2≤16777216;omega)) (fun v88 aLT ayi=> ?_)
 have q94:=ayi.form
 refine match q94 with|⟨aLU,aLV,Ya⟩=> ?_
 subst Ya
 refine W.ok (aM (L:=[lV _ _ _]) ay0 ayZ rfl rfl rfl) (W.box (L:=[lV _ _ _]) rfl rfl (fun b95=>(g9 5 ?_)))
 refine⟨.inr rfl,[_,_],⟨rfl,rfl,trivial⟩,((b95,aj 119 [lV aLU ((List.replicate ((m)) (((lV none 0 0),0):Value×Int))).length aLV])::aLT),(List.sublist_append_left _ _).k9,?_⟩
 exact .inr ⟨aa,_,rfl,dC.cast (by simp) ⟨_,_,_,[],by simp,ayi,Yj m,aqd aa Jk⟩⟩

end Go.Proofs.YtfhnamngaofccaaGreat

namespace Go.Fw
open Go Go.RowKit
def ib:Ay (Option Nat):=⟨fun _ v o=>v=.pointer (o.map fun b=>⟨b,0,none⟩),fun _ h=>h⟩
def cH (W:ew) (th s:Int) (wr:Bool):Bool×ew:=
 if eO W th s=true∧(wr=false∨kg W th s=true)then(true,W)
 else(decide ((dK W th s (if wr=true then 2 else 1)).1=0),(dK W th s (if wr=true then 2 else 1)).2)
variable {th:Int} {wr:Bool}
theorem Dm{W:ew}{s:Int}(h:eO W th s=true)(h2:wr=false∨kg W th s=true):cH W th s wr=(true,W):=if_pos ⟨h,h2⟩
theorem lJ{W:ew}{s:Int}(h:¬(eO W th s=true∧(wr=false∨kg W th s=true))):cH W th s wr=(decide ((dK W th s (if wr=true then 2 else 1)).1=0),(dK W th s (if wr=true then 2 else 1)).2):=if_neg h
def fh (W:ew) (th most:Int):Int:=max most ((kT W th).length:Int)
def oR (TT TO TI TH TC:TypeId) (Th:List Int) (bh bc bt:Nat) (vS:Option Addr) (vM:Value) (wt ch:Int) (G:GH) (th most:Int) (W:ew) (Ms:MH):Prop:=
 ∃vw Mt,Ms=(bh,.cells (List.toArray [.pointer (some ⟨bc,0,none⟩),.int .i64 th,.pointer vw,.int .i64 most]) TH (0,0))::((bc,.cells (List.toArray [.pointer vS,.pointer (some ⟨bt,0,none⟩),vM,.int .i64 wt,.int .i64 ch]) TC (0,0))::Mt)∧dC TT TO TI Th bt G W Mt
variable {G:GH}
theorem oR.cast{TT TO TI TH TC:TypeId}{Th:List Int}{bh bc bt:Nat}{vS:Option Addr}{vM:Value}{wt ch:Int}{most aqt:Int}{W W':ew}{Ms:MH}(e1:aqt=most)(e2:W'=W)(h:oR TT TO TI TH TC Th bh bc bt vS vM wt ch G th most W Ms):oR TT TO TI TH TC Th bh bc bt vS vM wt ch G th aqt W' Ms:=e1▸e2▸h
abbrev MQ:=Quotient (List.isSetoid (Nat×Obj))
def mq (M:MH):MQ:=Quotient.mk _ M
def mqA (a b:MQ):MQ:=Quotient.liftOn₂ a b (fun x y=>mq (x++y)) fun _ _ _ _ h k=>Quotient.sound (List.Perm.append h k)
theorem lN(a b:MH):mq (a++b)=mqA (mq a) (mq b):=rfl
def mo (x:Nat×Obj):MQ:=mq [x]
theorem jR(x:Nat×Obj)(b:MH):mq (x::b)=mqA (mo x) (mq b):=rfl
theorem Jn(a:MQ):mqA a (mq [])=a:=by
 induction a using Quotient.inductionOn with
 |h a=>exact congrArg mq (List.append_nil a)
instance : Std.Associative mqA := ⟨fun a b c => by
 induction a using Quotient.inductionOn with
 |h a=>
  induction b using Quotient.inductionOn with
  |h b=>
   induction c using Quotient.inductionOn with
   |h c=>exact congrArg mq (List.append_assoc a b c)⟩
instance : Std.Commutative mqA := ⟨fun a b => by
 induction a using Quotient.inductionOn with
 |h a=>
  induction b using Quotient.inductionOn with
  |h b=>exact Quotient.sound List.perm_append_comm⟩
theorem rj{a b:MH}(h:mq a=mq b):a.Perm b:=Quotient.exact h
theorem Fc.perm{P:Program}{g:FuncId}{vs:List Value}{G:GH}{M M':MH}{Q:Value→GH→MH→Prop}(hp:M'.Perm M)(h:Fc P g vs G M' Q):Fc P g vs G M Q:=by
 refine⟨h.1,fun w hw=> ?_⟩
 have ho:∀b,b∈M'.map (·.1)↔b∈M.map (·.1):=fun b=>(hp.map _).mem_iff
 have e:(fun b=>b∈M'.map (·.1))=fun b=>b∈M.map (·.1):=funext fun b=>propext (ho b)
 have Z8:Real w (fun b=>b∈M'.map (·.1)) G M' w:=by rw [e];exact hw.perm hp
 refine(h.2 w Z8).mono ?_
 rintro x w' ⟨v,G',M1,a1,a2,a3,a4,a5⟩
 rw [e]at a2
 exact⟨v,G',M1,a1,a2,a3,fun b h1 h2=>(a4 b h1 h2).imp id (ho b).1,a5⟩
theorem Fc.frame{P:Program}{g:FuncId}{vs:List Value}{M Mr:MH}{Q:Value→GH→MH→Prop}(h:Fc P g vs G M Q):Fc P g vs G (M++Mr) (fun v G' M'=>∃M1,M'=M1++Mr∧Q v G' M1):=by
 refine⟨h.1,fun w hw=> ?_⟩
 have hs:=hw.sub (M':=M) (List.sublist_append_left _ _)
 have Z8:Real w (fun b=>b∈M.map (·.1)) G M w:=⟨rfl,rfl,rfl,Nat.le_refl _,fun _ _ _=>rfl,hs.ro,hs.mu,hs.o9,hs.nd,fun p hp=>.inr (List.mem_map_of_mem hp)⟩
 refine(h.2 w Z8).mono ?_
 rintro x w' ⟨v,G',M1,a1,a2,a3,a4,a5⟩
 exact⟨v,G',M1++Mr,a1,Real.call hw a2 a4,a3,fun b h1 h2=>(a4 b h1 h2).imp id fun h9=>by rw [List.map_append];exact List.mem_append_left _ h9,M1,rfl,a5⟩
end Go.Fw
namespace Go.Proofs.YtfhnamngaofccaaGreat
open Go Go.Fw Go.RowKit
attribute [local irreducible] Ok W WC
variable {G:GH} {Lw:ew} {df:MH} {Th:List Int} {aG:Nat} {bz:Nat} {bx:Nat} {ch:Int} {most:Int} {th:Int} {vM:Value} {vS:Option Addr} {vw:Option Addr} {wt:Int}
theorem gV(jK:dC 119 123 3 Th bx G Lw df):
    Fc Tryz.prog 38 [aq bz] G ((bz,aj 78 [aq aG,iV th,.pointer vw,iV most])::((aG,aj 70 [.pointer vS,aq bx,vM,iV wt,iV ch])::(df))) (fun v G' M'=>ax pD G' v (kT Lw th)∧oR 119 123 3 78 70 Th bz aG bx vS vM wt ch G' th most Lw M'):=by
 refine Fc.go [.tmp 2] Tryz.func38 Tryz.ntmps38 rfl (fun w0=>(WC.perm (M':=((bz,aj 78 [aq aG,iV th,.pointer vw,iV most])::((aG,aj 70 [.pointer vS,aq bx,vM,iV wt,iV ch])::(df++[])))) (by simp) (g9 9 ?_)))
 refine W.ok (bV wx rfl rfl) (g9 6 ?_)
 refine WC.dw (eu.k9.k9) (d9 [0,1,2,3,4,5,6,7,8,9,10] ?_)
 refine WD.a1 11 rfl (W.call (Mp:=df) (afC jK th) rfl (ae (ae ai)) ?_)
 intro v4 G1 Bu fL q2
 refine match q2 with|⟨R8,LB⟩=> ?_
 refine W.perm (ae (ae ai)).symm ?_
 have aLW:=R8.aH
 have q9:=R8.form
 refine match q9 with|⟨sa6,sc7,QR⟩=> ?_
 subst QR
 refine W.nn (d9 [12] ?_)
 refine g9 3 ?_
 refine⟨.inr rfl,[_],⟨rfl,trivial⟩,((bz,aj 78 [aq aG,iV th,.pointer vw,iV most])::((aG,aj 70 [.pointer vS,aq bx,vM,iV wt,iV ch])::Bu)),((List.sublist_append_left _ _).k9).k9,?_⟩
 exact⟨R8,⟨_,_,rfl,LB⟩⟩

theorem acL(s:Int)(wr:Bool)(jK:dC 119 123 3 Th bx G Lw df)(oS:th∈Th):
    Fc Tryz.prog 10 [aq bz,iV s,.bool wr] G ((bz,aj 78 [aq aG,iV th,.pointer vw,iV most])::((aG,aj 70 [.pointer vS,aq bx,vM,iV wt,iV ch])::(df))) (fun v G' M'=>v=.bool (cH Lw th s wr).1∧oR 119 123 3 78 70 Th bz aG bx vS vM wt ch G' th (if(cH Lw th s wr).1=true then fh (cH Lw th s wr).2 th most else most) (cH Lw th s wr).2 M'):=by
 refine Fc.go [.tmp 6] Tryz.func10 Tryz.ntmps10 rfl (fun w0=>(WC.perm (M':=((bz,aj 78 [aq aG,iV th,.pointer vw,iV most])::((aG,aj 70 [.pointer vS,aq bx,vM,iV wt,iV ch])::(df++[])))) (by simp) (g9 9 ?_)))
 refine W.ok (bV wx rfl rfl) (g9 6 ?_)
 refine WC.dw (eu.k9.k9) (d9 [0,1,2,3,4,5,6,7,8,9,10,11] ?_)
 refine WD.a1 12 rfl (W.call (Mp:=df) (Yo jK th s) rfl (ae (ae ai)) ?_)
 intro v13 G10 AJ pe W2
 refine match W2 with|⟨am2,Ku⟩=> ?_
 subst am2
 refine W.perm (ae (ae ai)).symm (W.nn (d9 [13,14,15,16,17] ?_))
 refine g9 8 ?_
 refine W.sp 30 rfl (fun iE=> ?_) (fun iE=> ?_)
 ·refine g9 18 ?_
  refine W.ok (lY (fst:=[.tmp 43]) (caps:=[]) (vs:=[aq bx]) (ws:=[]) rfl rfl) (g9 9 ?_)
  refine WC.cond rfl (fun ie=> ?_) (fun ie=> ?_)
  ·refine g9 8 ?_
   refine W.ok (lY (fst:=[.tmp 52]) (caps:=[]) (vs:=[aq bx]) (ws:=[]) rfl rfl) (g9 11 ?_)
   refine W.P6 (g:=37) (fst:=[aq bx]) (caps:=[]) (Mp:=AJ) rfl (Km Ku th s oS) rfl (ae (ae ai)) ?_
   intro v19 G16 wo mK Em
   refine match Em with|⟨xK,aqu⟩=> ?_
   subst xK
   refine W.perm (ae (ae ai)).symm (g9 3 ?_)
   refine WC.cn (fun HM tH=> ?_) (fun HM tH=> ?_)
   ·refine g9 9 ?_
    refine W.ok (aM (L:=[iV _,iV _,.bool _]) Uk ww rfl rfl rfl) (W.box (L:=[iV _,iV _,.bool _]) rfl rfl (fun kW=>(g9 10 ?_)))
    refine WC.sub (M':=((bz,aj 78 [aq aG,iV th,aq kW,iV most])::((aG,aj 70 [.pointer vS,aq bx,vM,iV wt,iV ch])::(wo++[])))) ((((List.Sublist.append_left bi _).k9).k9).cons _) (g9 2 ?_)
    refine⟨.inr rfl,[_],⟨rfl,trivial⟩,((bz,aj 78 [aq aG,iV th,aq kW,iV most])::((aG,aj 70 [.pointer vS,aq bx,vM,iV wt,iV ch])::wo)),((List.sublist_append_left _ _).k9).k9,?_⟩
    have lI:¬(eO Lw th s=true∧(wr=false∨kg Lw th s=true)):=by
      intro h9
      first|exact absurd iE (by rw [h9.1];decide)|(rcases h9.2 with h8|h8;exact absurd (ie.symm.trans h8) (by decide);exact absurd nN (by rw [h8];decide))
    have cI:=lJ (s:=s) (wr:=wr) lI
    rw [if_pos ie]at cI
    rw [decide_eq_false tH]at cI
    exact⟨(congrArg (fun p:Bool×ew=>Value.bool p.1) cI).symm,oR.cast (by rw [cI];rfl) (by rw [cI]) ⟨_,_,rfl,aqu⟩⟩
   refine g9 11 ?_
   refine WC.dw (eu.k9.cons _) (d9 [0,1,2,3,5] ?_)
   refine WD.any [4,6] (by kernel_rfl) rfl ⟨WD.ap ?_,WD.ap ?_,trivial⟩
   ·refine g9 1 ?_
    refine W.nn (WD.a1 6 rfl (W.call (Mp:=((bz,aj 78 [aq aG,iV th,.pointer none,iV most])::((aG,aj 70 [.pointer vS,aq bx,vM,iV wt,iV ch])::wo))) (Mr:=[]) (gV (vw:=none) aqu) rfl ((((ai.cons _).trans ai).cons _).trans ai) ?_))
    intro v27 G24 TL xC QT
    refine match QT with|⟨afF,afG,afH,Xo,awc⟩=> ?_
    subst Xo
    have aFT:=afF.aH
    have Q4:=afF.form
    refine match Q4 with|⟨aqg,aqh,Dh⟩=> ?_
    subst Dh
    refine W.perm (M':=((bz,aj 78 [aq aG,iV th,.pointer afG,iV most])::((aG,aj 70 [.pointer vS,aq bx,vM,iV wt,iV ch])::(afH++[])))) ((((ai.cons _).trans ai).cons _).trans ai).symm (W.nn (d9 [7] ?_))
    refine WD.tk 8 rfl (Ok.yN (v':=iV (fh ((dK Lw th s 2).2) th most)) (kv rfl rfl) rfl) (d9 [9,10,11] ?_)
    refine g9 8 ?_
    refine⟨.inr rfl,[_],⟨rfl,trivial⟩,((bz,aj 78 [aq aG,iV th,.pointer afG,iV (fh ((dK Lw th s 2).2) th most)])::((aG,aj 70 [.pointer vS,aq bx,vM,iV wt,iV ch])::afH)),((List.sublist_append_left _ _).k9).k9,?_⟩
    have lI:¬(eO Lw th s=true∧(wr=false∨kg Lw th s=true)):=by
      intro h9
      first|exact absurd iE (by rw [h9.1];decide)|(rcases h9.2 with h8|h8;exact absurd (ie.symm.trans h8) (by decide);exact absurd nN (by rw [h8];decide))
    have cI:=lJ (s:=s) (wr:=wr) lI
    rw [if_pos ie]at cI
    rw [decide_eq_true tH]at cI
    exact⟨(congrArg (fun p:Bool×ew=>Value.bool p.1) cI).symm,oR.cast (by rw [cI];rfl) (by rw [cI]) ⟨_,_,rfl,awc⟩⟩
   refine W.call (Mp:=((bz,aj 78 [aq aG,iV th,.pointer none,iV most])::((aG,aj 70 [.pointer vS,aq bx,vM,iV wt,iV ch])::wo))) (Mr:=[]) (gV (vw:=none) aqu) rfl ((((ai.cons _).trans ai).cons _).trans ai) ?_
   intro v37 G34 CU CV q35
   refine match q35 with|⟨afI,afJ,afK,aol,awd⟩=> ?_
   subst aol
   have aFU:=afI.aH
   have q42:=afI.form
   refine match q42 with|⟨aWG,aWH,tV⟩=> ?_
   subst tV
   refine W.perm (M':=((bz,aj 78 [aq aG,iV th,.pointer afJ,iV most])::((aG,aj 70 [.pointer vS,aq bx,vM,iV wt,iV ch])::(afK++[])))) ((((ai.cons _).trans ai).cons _).trans ai).symm (W.nn (d9 [7] ?_))
   refine WD.a1 4 rfl (g9 1 ?_)
   refine W.nn (WD.tk 8 rfl (Ok.yN (v':=iV (fh ((dK Lw th s 2).2) th most)) (kv rfl rfl) rfl) (d9 [9,10,11] ?_))
   refine g9 8 ?_
   refine⟨.inr rfl,[_],⟨rfl,trivial⟩,((bz,aj 78 [aq aG,iV th,.pointer afJ,iV (fh ((dK Lw th s 2).2) th most)])::((aG,aj 70 [.pointer vS,aq bx,vM,iV wt,iV ch])::afK)),((List.sublist_append_left _ _).k9).k9,?_⟩
   have lI:¬(eO Lw th s=true∧(wr=false∨kg Lw th s=true)):=by
     intro h9
     first|exact absurd iE (by rw [h9.1];decide)|(rcases h9.2 with h8|h8;exact absurd (ie.symm.trans h8) (by decide);exact absurd nN (by rw [h8];decide))
   have cI:=lJ (s:=s) (wr:=wr) lI
   rw [if_pos ie]at cI
   rw [decide_eq_true tH]at cI
   exact⟨(congrArg (fun p:Bool×ew=>Value.bool p.1) cI).symm,oR.cast (by rw [cI];rfl) (by rw [cI]) ⟨_,_,rfl,awd⟩⟩
  refine g9 10 ?_
  refine W.P6 (g:=36) (fst:=[aq bx]) (caps:=[]) (Mp:=AJ) rfl (aiP Ku th s oS) rfl (ae (ae ai)) ?_
  intro v46 G43 wl AD Jd
  refine match Jd with|⟨JD,WB⟩=> ?_
  subst JD
  refine W.perm (ae (ae ai)).symm (g9 3 ?_)
  refine WC.cn (fun HM tH=> ?_) (fun HM tH=> ?_)
  ·refine g9 9 ?_
   refine W.ok (aM (L:=[iV _,iV _,.bool _]) Uk ww rfl rfl rfl) (W.box (L:=[iV _,iV _,.bool _]) rfl rfl (fun b49=>(g9 10 ?_)))
   refine WC.sub (M':=((bz,aj 78 [aq aG,iV th,aq b49,iV most])::((aG,aj 70 [.pointer vS,aq bx,vM,iV wt,iV ch])::(wl++[])))) ((((List.Sublist.append_left bi _).k9).k9).cons _) (g9 2 ?_)
   refine⟨.inr rfl,[_],⟨rfl,trivial⟩,((bz,aj 78 [aq aG,iV th,aq b49,iV most])::((aG,aj 70 [.pointer vS,aq bx,vM,iV wt,iV ch])::wl)),((List.sublist_append_left _ _).k9).k9,?_⟩
   have lI:¬(eO Lw th s=true∧(wr=false∨kg Lw th s=true)):=by
     intro h9
     first|exact absurd iE (by rw [h9.1];decide)|(rcases h9.2 with h8|h8;exact absurd (ie.symm.trans h8) (by decide);exact absurd nN (by rw [h8];decide))
   have cI:=lJ (s:=s) (wr:=wr) lI
   rw [if_neg (by rw [ie];decide)]at cI
   rw [decide_eq_false tH]at cI
   exact⟨(congrArg (fun p:Bool×ew=>Value.bool p.1) cI).symm,oR.cast (by rw [cI];rfl) (by rw [cI]) ⟨_,_,rfl,WB⟩⟩
  refine g9 11 ?_
  refine WC.dw (eu.k9.cons _) (d9 [0,1,2,3,5] ?_)
  refine WD.any [4,6] (by kernel_rfl) rfl ⟨WD.ap ?_,WD.ap ?_,trivial⟩
  ·refine g9 1 ?_
   refine W.nn (WD.a1 6 rfl (W.call (Mp:=((bz,aj 78 [aq aG,iV th,.pointer none,iV most])::((aG,aj 70 [.pointer vS,aq bx,vM,iV wt,iV ch])::wl))) (Mr:=[]) (gV (vw:=none) WB) rfl ((((ai.cons _).trans ai).cons _).trans ai) ?_))
   intro v54 G51 aWI aeJ q52
   refine match q52 with|⟨afL,afM,afN,yI,awe⟩=> ?_
   subst yI
   have aFV:=afL.aH
   have QU:=afL.form
   refine match QU with|⟨aWJ,aWK,JE⟩=> ?_
   subst JE
   refine W.perm (M':=((bz,aj 78 [aq aG,iV th,.pointer afM,iV most])::((aG,aj 70 [.pointer vS,aq bx,vM,iV wt,iV ch])::(afN++[])))) ((((ai.cons _).trans ai).cons _).trans ai).symm (W.nn (d9 [7] ?_))
   refine WD.tk 8 rfl (Ok.yN (v':=iV (fh ((dK Lw th s 1).2) th most)) (kv rfl rfl) rfl) (d9 [9,10,11] ?_)
   refine g9 8 ?_
   refine⟨.inr rfl,[_],⟨rfl,trivial⟩,((bz,aj 78 [aq aG,iV th,.pointer afM,iV (fh ((dK Lw th s 1).2) th most)])::((aG,aj 70 [.pointer vS,aq bx,vM,iV wt,iV ch])::afN)),((List.sublist_append_left _ _).k9).k9,?_⟩
   have lI:¬(eO Lw th s=true∧(wr=false∨kg Lw th s=true)):=by
     intro h9
     first|exact absurd iE (by rw [h9.1];decide)|(rcases h9.2 with h8|h8;exact absurd (ie.symm.trans h8) (by decide);exact absurd nN (by rw [h8];decide))
   have cI:=lJ (s:=s) (wr:=wr) lI
   rw [if_neg (by rw [ie];decide)]at cI
   rw [decide_eq_true tH]at cI
   exact⟨(congrArg (fun p:Bool×ew=>Value.bool p.1) cI).symm,oR.cast (by rw [cI];rfl) (by rw [cI]) ⟨_,_,rfl,awe⟩⟩
  refine W.call (Mp:=((bz,aj 78 [aq aG,iV th,.pointer none,iV most])::((aG,aj 70 [.pointer vS,aq bx,vM,iV wt,iV ch])::wl))) (Mr:=[]) (gV (vw:=none) WB) rfl ((((ai.cons _).trans ai).cons _).trans ai) ?_
  intro v64 G61 axp Md q62
  refine match q62 with|⟨afO,afP,afQ,CS,awf⟩=> ?_
  subst CS
  have aFW:=afO.aH
  have q69:=afO.form
  refine match q69 with|⟨aWL,aWM,WM⟩=> ?_
  subst WM
  refine W.perm (M':=((bz,aj 78 [aq aG,iV th,.pointer afP,iV most])::((aG,aj 70 [.pointer vS,aq bx,vM,iV wt,iV ch])::(afQ++[])))) ((((ai.cons _).trans ai).cons _).trans ai).symm (W.nn (d9 [7] ?_))
  refine WD.a1 4 rfl (g9 1 ?_)
  refine W.nn (WD.tk 8 rfl (Ok.yN (v':=iV (fh ((dK Lw th s 1).2) th most)) (kv rfl rfl) rfl) (d9 [9,10,11] ?_))
  refine g9 8 ?_
  refine⟨.inr rfl,[_],⟨rfl,trivial⟩,((bz,aj 78 [aq aG,iV th,.pointer afP,iV (fh ((dK Lw th s 1).2) th most)])::((aG,aj 70 [.pointer vS,aq bx,vM,iV wt,iV ch])::afQ)),((List.sublist_append_left _ _).k9).k9,?_⟩
  have lI:¬(eO Lw th s=true∧(wr=false∨kg Lw th s=true)):=by
    intro h9
    first|exact absurd iE (by rw [h9.1];decide)|(rcases h9.2 with h8|h8;exact absurd (ie.symm.trans h8) (by decide);exact absurd nN (by rw [h8];decide))
  have cI:=lJ (s:=s) (wr:=wr) lI
  rw [if_neg (by rw [ie];decide)]at cI
  rw [decide_eq_true tH]at cI
  exact⟨(congrArg (fun p:Bool×ew=>Value.bool p.1) cI).symm,oR.cast (by rw [cI];rfl) (by rw [cI]) ⟨_,_,rfl,awf⟩⟩
 refine g9 4 ?_
 refine W.sp 32 rfl (fun ie=> ?_) (fun ie=> ?_)
 ·refine g9 9 ?_
  refine WC.cond rfl (fun nN=> ?_) (fun nN=> ?_)
  ·refine g9 9 ?_
   refine W.ok (lY (fst:=[.tmp 43]) (caps:=[]) (vs:=[aq bx]) (ws:=[]) rfl rfl) (g9 18 ?_)
   refine W.ok (lY (fst:=[.tmp 52]) (caps:=[]) (vs:=[aq bx]) (ws:=[]) rfl rfl) (g9 11 ?_)
   refine W.P6 (g:=37) (fst:=[aq bx]) (caps:=[]) (Mp:=AJ) rfl (Km Ku th s oS) rfl (ae (ae ai)) ?_
   intro v73 G70 Tw an7 q71
   refine match q71 with|⟨amu,aqv⟩=> ?_
   subst amu
   refine W.perm (ae (ae ai)).symm (g9 3 ?_)
   refine WC.cn (fun HM tH=> ?_) (fun HM tH=> ?_)
   ·refine g9 9 ?_
    refine W.ok (aM (L:=[iV _,iV _,.bool _]) Uk ww rfl rfl rfl) (W.box (L:=[iV _,iV _,.bool _]) rfl rfl (fun b76=>(g9 10 ?_)))
    refine WC.sub (M':=((bz,aj 78 [aq aG,iV th,aq b76,iV most])::((aG,aj 70 [.pointer vS,aq bx,vM,iV wt,iV ch])::(Tw++[])))) ((((List.Sublist.append_left bi _).k9).k9).cons _) (g9 2 ?_)
    refine⟨.inr rfl,[_],⟨rfl,trivial⟩,((bz,aj 78 [aq aG,iV th,aq b76,iV most])::((aG,aj 70 [.pointer vS,aq bx,vM,iV wt,iV ch])::Tw)),((List.sublist_append_left _ _).k9).k9,?_⟩
    have lI:¬(eO Lw th s=true∧(wr=false∨kg Lw th s=true)):=by
      intro h9
      first|exact absurd iE (by rw [h9.1];decide)|(rcases h9.2 with h8|h8;exact absurd (ie.symm.trans h8) (by decide);exact absurd nN (by rw [h8];decide))
    have cI:=lJ (s:=s) (wr:=wr) lI
    rw [if_pos ie]at cI
    rw [decide_eq_false tH]at cI
    exact⟨(congrArg (fun p:Bool×ew=>Value.bool p.1) cI).symm,oR.cast (by rw [cI];rfl) (by rw [cI]) ⟨_,_,rfl,aqv⟩⟩
   refine g9 11 ?_
   refine WC.dw (eu.k9.cons _) (d9 [0,1,2,3,5] ?_)
   refine WD.any [4,6] (by kernel_rfl) rfl ⟨WD.ap ?_,WD.ap ?_,trivial⟩
   ·refine g9 1 ?_
    refine W.nn (WD.a1 6 rfl (W.call (Mp:=((bz,aj 78 [aq aG,iV th,.pointer none,iV most])::((aG,aj 70 [.pointer vS,aq bx,vM,iV wt,iV ch])::Tw))) (Mr:=[]) (gV (vw:=none) aqv) rfl ((((ai.cons _).trans ai).cons _).trans ai) ?_))
    intro v81 G78 aWN aWO q79
    refine match q79 with|⟨afR,afS,afT,JX,awg⟩=> ?_
    subst JX
    have aFX:=afR.aH
    have q86:=afR.form
    refine match q86 with|⟨aWP,aWQ,aLX⟩=> ?_
    subst aLX
    refine W.perm (M':=((bz,aj 78 [aq aG,iV th,.pointer afS,iV most])::((aG,aj 70 [.pointer vS,aq bx,vM,iV wt,iV ch])::(afT++[])))) ((((ai.cons _).trans ai).cons _).trans ai).symm (W.nn (d9 [7] ?_))
    refine WD.tk 8 rfl (Ok.yN (v':=iV (fh ((dK Lw th s 2).2) th most)) (kv rfl rfl) rfl) (d9 [9,10,11] ?_)
    refine g9 8 ?_
    refine⟨.inr rfl,[_],⟨rfl,trivial⟩,((bz,aj 78 [aq aG,iV th,.pointer afS,iV (fh ((dK Lw th s 2).2) th most)])::((aG,aj 70 [.pointer vS,aq bx,vM,iV wt,iV ch])::afT)),((List.sublist_append_left _ _).k9).k9,?_⟩
    have lI:¬(eO Lw th s=true∧(wr=false∨kg Lw th s=true)):=by
      intro h9
      first|exact absurd iE (by rw [h9.1];decide)|(rcases h9.2 with h8|h8;exact absurd (ie.symm.trans h8) (by decide);exact absurd nN (by rw [h8];decide))
    have cI:=lJ (s:=s) (wr:=wr) lI
    rw [if_pos ie]at cI
    rw [decide_eq_true tH]at cI
    exact⟨(congrArg (fun p:Bool×ew=>Value.bool p.1) cI).symm,oR.cast (by rw [cI];rfl) (by rw [cI]) ⟨_,_,rfl,awg⟩⟩
   refine W.call (Mp:=((bz,aj 78 [aq aG,iV th,.pointer none,iV most])::((aG,aj 70 [.pointer vS,aq bx,vM,iV wt,iV ch])::Tw))) (Mr:=[]) (gV (vw:=none) aqv) rfl ((((ai.cons _).trans ai).cons _).trans ai) ?_
   intro v91 G88 anE anC q89
   refine match q89 with|⟨afU,afV,afW,aoc,awh⟩=> ?_
   subst aoc
   have aFY:=afU.aH
   have q96:=afU.form
   refine match q96 with|⟨aWR,aWS,XH⟩=> ?_
   subst XH
   refine W.perm (M':=((bz,aj 78 [aq aG,iV th,.pointer afV,iV most])::((aG,aj 70 [.pointer vS,aq bx,vM,iV wt,iV ch])::(afW++[])))) ((((ai.cons _).trans ai).cons _).trans ai).symm (W.nn (d9 [7] ?_))
   refine WD.a1 4 rfl (g9 1 ?_)
   refine W.nn (WD.tk 8 rfl (Ok.yN (v':=iV (fh ((dK Lw th s 2).2) th most)) (kv rfl rfl) rfl) (d9 [9,10,11] ?_))
   refine g9 8 ?_
   refine⟨.inr rfl,[_],⟨rfl,trivial⟩,((bz,aj 78 [aq aG,iV th,.pointer afV,iV (fh ((dK Lw th s 2).2) th most)])::((aG,aj 70 [.pointer vS,aq bx,vM,iV wt,iV ch])::afW)),((List.sublist_append_left _ _).k9).k9,?_⟩
   have lI:¬(eO Lw th s=true∧(wr=false∨kg Lw th s=true)):=by
     intro h9
     first|exact absurd iE (by rw [h9.1];decide)|(rcases h9.2 with h8|h8;exact absurd (ie.symm.trans h8) (by decide);exact absurd nN (by rw [h8];decide))
   have cI:=lJ (s:=s) (wr:=wr) lI
   rw [if_pos ie]at cI
   rw [decide_eq_true tH]at cI
   exact⟨(congrArg (fun p:Bool×ew=>Value.bool p.1) cI).symm,oR.cast (by rw [cI];rfl) (by rw [cI]) ⟨_,_,rfl,awh⟩⟩
  refine g9 11 ?_
  refine WC.dw (eu.k9.cons _) (d9 [0,1,2,3,5] ?_)
  refine WD.any [4,6] (by kernel_rfl) rfl ⟨WD.ap ?_,WD.ap ?_,trivial⟩
  ·refine g9 1 ?_
   refine W.nn (WD.a1 6 rfl (W.call (Mp:=((bz,aj 78 [aq aG,iV th,.pointer none,iV most])::((aG,aj 70 [.pointer vS,aq bx,vM,iV wt,iV ch])::AJ))) (Mr:=[]) (gV (vw:=none) Ku) rfl ((((ai.cons _).trans ai).cons _).trans ai) ?_))
   intro axU G98 aR7 aWT q99
   refine match q99 with|⟨afX,afY,afZ,abL,awi⟩=> ?_
   subst abL
   have aCB:=afX.aH
   have aoN:=afX.form
   refine match aoN with|⟨aR8,aR9,aCC⟩=> ?_
   subst aCC
   refine W.perm (M':=((bz,aj 78 [aq aG,iV th,.pointer afY,iV most])::((aG,aj 70 [.pointer vS,aq bx,vM,iV wt,iV ch])::(afZ++[])))) ((((ai.cons _).trans ai).cons _).trans ai).symm (W.nn (d9 [7] ?_))
   refine WD.tk 8 rfl (Ok.yN (v':=iV (fh Lw th most)) (kv rfl rfl) rfl) (d9 [9,10,11] ?_)
   refine g9 8 ?_
   refine⟨.inr rfl,[_],⟨rfl,trivial⟩,((bz,aj 78 [aq aG,iV th,.pointer afY,iV (fh Lw th most)])::((aG,aj 70 [.pointer vS,aq bx,vM,iV wt,iV ch])::afZ)),((List.sublist_append_left _ _).k9).k9,?_⟩
   have BD:eO Lw th s=true:=by simpa using iE
   have Kv:wr=false∨kg Lw th s=true:=.inr (by simpa using nN)
   have cI:=Dm (s:=s) (wr:=wr) BD Kv
   exact⟨(congrArg (fun p:Bool×ew=>Value.bool p.1) cI).symm,oR.cast (by rw [cI];rfl) (by rw [cI]) ⟨_,_,rfl,awi⟩⟩
  refine W.call (Mp:=((bz,aj 78 [aq aG,iV th,.pointer none,iV most])::((aG,aj 70 [.pointer vS,aq bx,vM,iV wt,iV ch])::AJ))) (Mr:=[]) (gV (vw:=none) Ku) rfl ((((ai.cons _).trans ai).cons _).trans ai) ?_
  intro aWU axV aSa JU aLY
  refine match aLY with|⟨Yr,Ys,Yt,acI,aqw⟩=> ?_
  subst acI
  have aCD:=Yr.aH
  have aLZ:=Yr.form
  refine match aLZ with|⟨aSb,aSc,acM⟩=> ?_
  subst acM
  refine W.perm (M':=((bz,aj 78 [aq aG,iV th,.pointer Ys,iV most])::((aG,aj 70 [.pointer vS,aq bx,vM,iV wt,iV ch])::(Yt++[])))) ((((ai.cons _).trans ai).cons _).trans ai).symm (W.nn (d9 [7] ?_))
  refine WD.a1 4 rfl (g9 1 ?_)
  refine W.nn (WD.tk 8 rfl (Ok.yN (v':=iV (fh Lw th most)) (kv rfl rfl) rfl) (d9 [9,10,11] ?_))
  refine g9 8 ?_
  refine⟨.inr rfl,[_],⟨rfl,trivial⟩,((bz,aj 78 [aq aG,iV th,.pointer Ys,iV (fh Lw th most)])::((aG,aj 70 [.pointer vS,aq bx,vM,iV wt,iV ch])::Yt)),((List.sublist_append_left _ _).k9).k9,?_⟩
  have BD:eO Lw th s=true:=by simpa using iE
  have Kv:wr=false∨kg Lw th s=true:=.inr (by simpa using nN)
  have cI:=Dm (s:=s) (wr:=wr) BD Kv
  exact⟨(congrArg (fun p:Bool×ew=>Value.bool p.1) cI).symm,oR.cast (by rw [cI];rfl) (by rw [cI]) ⟨_,_,rfl,aqw⟩⟩
 refine g9 19 ?_
 refine WC.dw (eu.k9.cons _) (d9 [0,1,2,3,5] ?_)
 refine WD.any [4,6] (by kernel_rfl) rfl ⟨WD.ap ?_,WD.ap ?_,trivial⟩
 ·refine g9 1 ?_
  refine W.nn (WD.a1 6 rfl (W.call (Mp:=((bz,aj 78 [aq aG,iV th,.pointer none,iV most])::((aG,aj 70 [.pointer vS,aq bx,vM,iV wt,iV ch])::AJ))) (Mr:=[]) (gV (vw:=none) Ku) rfl ((((ai.cons _).trans ai).cons _).trans ai) ?_))
  intro aKY aKZ aBq aBr JS
  refine match JS with|⟨Yu,Yv,Yw,ab4,aqx⟩=> ?_
  subst ab4
  have aCE:=Yu.aH
  have aqy:=Yu.form
  refine match aqy with|⟨aSd,aSe,aCF⟩=> ?_
  subst aCF
  refine W.perm (M':=((bz,aj 78 [aq aG,iV th,.pointer Yv,iV most])::((aG,aj 70 [.pointer vS,aq bx,vM,iV wt,iV ch])::(Yw++[])))) ((((ai.cons _).trans ai).cons _).trans ai).symm (W.nn (d9 [7] ?_))
  refine WD.tk 8 rfl (Ok.yN (v':=iV (fh Lw th most)) (kv rfl rfl) rfl) (d9 [9,10,11] ?_)
  refine g9 8 ?_
  refine⟨.inr rfl,[_],⟨rfl,trivial⟩,((bz,aj 78 [aq aG,iV th,.pointer Yv,iV (fh Lw th most)])::((aG,aj 70 [.pointer vS,aq bx,vM,iV wt,iV ch])::Yw)),((List.sublist_append_left _ _).k9).k9,?_⟩
  have BD:eO Lw th s=true:=by simpa using iE
  have Kv:wr=false∨kg Lw th s=true:=.inl ie
  have cI:=Dm (s:=s) (wr:=wr) BD Kv
  exact⟨(congrArg (fun p:Bool×ew=>Value.bool p.1) cI).symm,oR.cast (by rw [cI];rfl) (by rw [cI]) ⟨_,_,rfl,aqx⟩⟩
 refine W.call (Mp:=((bz,aj 78 [aq aG,iV th,.pointer none,iV most])::((aG,aj 70 [.pointer vS,aq bx,vM,iV wt,iV ch])::AJ))) (Mr:=[]) (gV (vw:=none) Ku) rfl ((((ai.cons _).trans ai).cons _).trans ai) ?_
 intro aWV aWW anI aSf aL0
 refine match aL0 with|⟨Yx,Yy,Yz,aCG,aqz⟩=> ?_
 subst aCG
 have aCH:=Yx.aH
 have aL1:=Yx.form
 refine match aL1 with|⟨aSg,aSh,ab5⟩=> ?_
 subst ab5
 refine W.perm (M':=((bz,aj 78 [aq aG,iV th,.pointer Yy,iV most])::((aG,aj 70 [.pointer vS,aq bx,vM,iV wt,iV ch])::(Yz++[])))) ((((ai.cons _).trans ai).cons _).trans ai).symm (W.nn (d9 [7] ?_))
 refine WD.a1 4 rfl (g9 1 ?_)
 refine W.nn (WD.tk 8 rfl (Ok.yN (v':=iV (fh Lw th most)) (kv rfl rfl) rfl) (d9 [9,10,11] ?_))
 refine g9 8 ?_
 refine⟨.inr rfl,[_],⟨rfl,trivial⟩,((bz,aj 78 [aq aG,iV th,.pointer Yy,iV (fh Lw th most)])::((aG,aj 70 [.pointer vS,aq bx,vM,iV wt,iV ch])::Yz)),((List.sublist_append_left _ _).k9).k9,?_⟩
 have BD:eO Lw th s=true:=by simpa using iE
 have Kv:wr=false∨kg Lw th s=true:=.inl ie
 have cI:=Dm (s:=s) (wr:=wr) BD Kv
 exact⟨(congrArg (fun p:Bool×ew=>Value.bool p.1) cI).symm,oR.cast (by rw [cI];rfl) (by rw [cI]) ⟨_,_,rfl,aqz⟩⟩

theorem aiQ(s:Int)(jK:dC 119 123 3 Th bx G Lw df):
    Fc Tryz.prog 148 [aq bz,iV s] G ((bz,aj 78 [aq aG,iV th,.pointer vw,iV most])::((aG,aj 70 [.pointer vS,aq bx,vM,iV wt,iV ch])::(df))) (fun v G' M'=>v=.tuple #[]∧oR 119 123 3 78 70 Th bz aG bx vS vM wt ch G' th most (hU Lw th s).2 M'):=by
 refine Fc.go [] Tryz.func148 Tryz.ntmps148 rfl (fun w0=>(WC.perm (M':=((bz,aj 78 [aq aG,iV th,.pointer vw,iV most])::((aG,aj 70 [.pointer vS,aq bx,vM,iV wt,iV ch])::(df++[])))) (by simp) (g9 3 ?_)))
 refine W.ok (gB wx rfl rfl) (g9 3 ?_)
 refine WC.dw (eu.k9.k9) (d9 [0,1,2,3,4,5,6,7,8,9,10,11] ?_)
 refine WD.a1 12 rfl (W.call (Mp:=df) (Yp jK th s) rfl (ae (ae ai)) ?_)
 intro aL2 aL3 R9 aCI Xd
 refine match Xd with|⟨_,acN⟩=> ?_
 refine W.perm (ae (ae ai)).symm (W.nn (WD.P1 (M':=((bz,aj 78 [aq aG,iV th,.pointer vw,iV most])::((aG,aj 70 [.pointer vS,aq bx,vM,iV wt,iV ch])::(R9++[])))) (by kernel_rfl) bi ai ?_))
 refine⟨.inl rfl,[],trivial,((bz,aj 78 [aq aG,iV th,.pointer vw,iV most])::((aG,aj 70 [.pointer vS,aq bx,vM,iV wt,iV ch])::R9)),((List.sublist_append_left _ _).k9).k9,?_⟩
 exact⟨rfl,⟨_,_,rfl,acN⟩⟩

theorem acO(jK:dC 119 123 3 Th bx G Lw df):
    Fc Tryz.prog 23 [aq bz] G ((bz,aj 78 [aq aG,iV th,.pointer vw,iV most])::((aG,aj 70 [.pointer vS,aq bx,vM,iV wt,iV ch])::(df))) (fun v G' M'=>v=iV most∧oR 119 123 3 78 70 Th bz aG bx vS vM wt ch G' th most Lw M'):=by
 refine Fc.go [.tmp 2] Tryz.func23 Tryz.ntmps23 rfl (fun w0=>(WC.perm (M':=((bz,aj 78 [aq aG,iV th,.pointer vw,iV most])::((aG,aj 70 [.pointer vS,aq bx,vM,iV wt,iV ch])::(df++[])))) (by simp) (g9 9 ?_)))
 refine W.ok (bV wx rfl rfl) (g9 15 ?_)
 refine⟨.inr rfl,[_],⟨rfl,trivial⟩,((bz,aj 78 [aq aG,iV th,.pointer vw,iV most])::((aG,aj 70 [.pointer vS,aq bx,vM,iV wt,iV ch])::df)),((List.sublist_append_left _ _).k9).k9,?_⟩
 exact⟨rfl,⟨_,_,rfl,jK⟩⟩

variable {Ms:MH}
theorem ahZ(h:oR 119 123 3 78 70 Th bz aG bx vS vM wt ch G th most Lw Ms)(s:Int)(wr:Bool)(oS:th∈Th):Fc Tryz.prog 10 [aq bz,iV s,.bool wr] G Ms (fun v G' M'=>v=.bool (cH Lw th s wr).1∧oR 119 123 3 78 70 Th bz aG bx vS vM wt ch G' th (if(cH Lw th s wr).1=true then fh (cH Lw th s wr).2 th most else most) (cH Lw th s wr).2 M'):=by
  obtain⟨vw,Mt,rfl,jK⟩:=h
  exact acL s wr jK oS
theorem ant(h:oR 119 123 3 78 70 Th bz aG bx vS vM wt ch G th most Lw Ms)(s:Int):Fc Tryz.prog 148 [aq bz,iV s] G Ms (fun v G' M'=>v=.tuple #[]∧oR 119 123 3 78 70 Th bz aG bx vS vM wt ch G' th most (hU Lw th s).2 M'):=by
  obtain⟨vw,Mt,rfl,jK⟩:=h
  exact aiQ s jK
theorem ah1(h:oR 119 123 3 78 70 Th bz aG bx vS vM wt ch G th most Lw Ms)  :Fc Tryz.prog 23 [aq bz] G Ms (fun v G' M'=>v=iV most∧oR 119 123 3 78 70 Th bz aG bx vS vM wt ch G' th most Lw M'):=by
  obtain⟨vw,Mt,rfl,jK⟩:=h
  exact acO jK
theorem WX(jK:dC 119 123 3 Th bx G Lw df):
    Fc Tryz.prog 15 [aq aG] G ((aG,aj 70 [.pointer vS,aq bx,vM,iV wt,iV ch])::(df)) (fun v G' M'=>v=.pointer vS∧∃Mt,M'=(aG,aj 70 [.pointer vS,aq bx,vM,iV wt,iV ch])::Mt∧dC 119 123 3 Th bx G' Lw Mt):=by
 refine Fc.go [.tmp 2] Tryz.func15 Tryz.ntmps15 rfl (fun w0=>(WC.perm (M':=((aG,aj 70 [.pointer vS,aq bx,vM,iV wt,iV ch])::(df++[]))) (by simp) (g9 9 ?_)))
 refine W.ok (bV Cl rfl rfl) (g9 15 ?_)
 refine⟨.inr rfl,[_],⟨rfl,trivial⟩,((aG,aj 70 [.pointer vS,aq bx,vM,iV wt,iV ch])::df),(List.sublist_append_left _ _).k9,?_⟩
 exact⟨rfl,_,rfl,jK⟩

theorem WY(jK:dC 119 123 3 Th bx G Lw df):
    Fc Tryz.prog 22 [aq aG] G ((aG,aj 70 [.pointer vS,aq bx,vM,iV wt,iV ch])::(df)) (fun v G' M'=>ax pD G' v (qj (fun _=>true) Lw)∧∃Mt,M'=(aG,aj 70 [.pointer vS,aq bx,vM,iV wt,iV ch])::Mt∧dC 119 123 3 Th bx G' Lw Mt):=by
 refine Fc.go [.tmp 2] Tryz.func22 Tryz.ntmps22 rfl (fun w0=>(WC.perm (M':=((aG,aj 70 [.pointer vS,aq bx,vM,iV wt,iV ch])::(df++[]))) (by simp) (g9 9 ?_)))
 refine W.ok (bV Cl rfl rfl) (g9 11 ?_)
 refine W.call (Mp:=df) (aqp jK) rfl (ae ai) ?_
 intro aWX aWY aCJ aSi aL4
 refine match aL4 with|⟨EY,aCK⟩=> ?_
 refine W.perm (ae ai).symm ?_
 have aCL:=EY.aH
 have aL5:=EY.form
 refine match aL5 with|⟨aSj,aSk,aCM⟩=> ?_
 subst aCM
 refine g9 4 ?_
 refine⟨.inr rfl,[_],⟨rfl,trivial⟩,((aG,aj 70 [.pointer vS,aq bx,vM,iV wt,iV ch])::aCJ),(List.sublist_append_left _ _).k9,?_⟩
 exact⟨EY,_,rfl,aCK⟩

variable {bS:MH} {pu:Prop} {x0:Value} {α:Type}
theorem OZ [Inhabited α]{lt:α→α→Bool}{pS:GH→List α→MH→Prop}{EV:GH→Value→α→Prop}(hK:PJ Tryz.prog lt x0 pS EV pu){l:List α}(az:pS G l bS)(i0:Nat)(n:Nat)(f:Nat)(hf:n≤i0+f)(hn:n≤l.length)(hi:i0≤1000000000000000):
    Fc Tryz.prog 157 [x0,aT i0,aT n] G bS (fun v G' M'=>(∃b,v=.bool b)∧pS G' (fB lt f l i0 n) M'):=by
 have hbd:=hK.PK az
 refine Fc.go [.tmp 6] Tryz.func157 Tryz.ntmps157 rfl (fun w0=>(WC.perm (M':=(bS++[])) (by simp) (g9 13 ?_)))
 refine WC.loop (X:=(Nat×Nat×List α)×MH) (fun x=>[(7,aT x.1.1),(1,aT i0),(2,aT n),(0,x0)]) (fun x G Ml=>Ml=(x.2++[])∧pS G (x.1.2.2) x.2∧fB lt x.1.2.1 x.1.2.2 x.1.1 n=fB lt f l i0 n∧n≤x.1.1+x.1.2.1∧x.1.2.2.length=l.length∧x.1.1≤n+1000000000000000) (fun x=>n-x.1.1) (((i0,f,l):Nat×Nat×List α),bS) aZ ?_ ?_
 ·exact⟨rfl,(by simpa using az),rfl,hf,rfl,by dsimp only;omega⟩
 rintro⟨⟨i,f9,L⟩,A0⟩ DQ G1 _ fL ⟨rfl,eH,hd,hfi,hL,hib⟩
 try dsimp only at eH hd hfi hL hib
 have hbL:L.length≤140737488355328:=by omega
 refine WC.fr (f:=dO DQ [(7,aT i),(1,aT i0),(2,aT n),(0,x0)]) rfl (g9 4 ?_)
 refine W.ok (awj rfl rfl aa) (W.ok (Ok.int (n:=((2*i+1:Nat):Int)) (db rfl rfl aa) aa) (g9 10 ?_))
 refine W.sd 18 (fun iu fM=> ?_) (fun iu fM=> ?_)
 ·try dsimp only at fM
  refine g9 21 ?_
  refine⟨.inr rfl,[_],⟨rfl,trivial⟩,A0,List.sublist_append_left _ _,?_⟩
  refine⟨⟨_,rfl⟩,?_⟩
  have h:=eH
  rw [Fz aa]at hd
  rw [←hd];exact h
 try dsimp only at fM
 refine g9 7 ?_
 refine WC.cd (fun gD lX=> ?_) (fun gD lX=> ?_)
 ·try dsimp only at lX
  exfalso;omega
 try dsimp only at lX
 have hkj:=xr (lt:=lt) (l:=L) (i:=i) (n:=n) aa
 refine g9 8 ?_
 refine WC.join (X:=Unit) (fun u8=>[(9,aT ((ju lt L i n))),(0,x0),(1,aT i0),(2,aT n),(7,aT i)]) (fun u8 _ Ml=>Ml=(A0++[])) ?_ ?_
 ·refine g9 3 ?_
  refine W.ok (Ok.int (n:=((2*i+2:Nat):Int)) (db rfl rfl aa) aa) (g9 9 ?_)
  refine W.sd 28 (fun pT l9=> ?_) (fun pT l9=> ?_)
  ·try dsimp only at l9
   refine g9 7 ?_
   refine W.inv (hK.less (i:=2*i+2) (j:=2*i+1) eH aa aa) rfl rfl ai ?_
   intro _ G2 PG j7 q3
   refine match q3 with|⟨rD,yB⟩=> ?_
   subst rD
   have yB:=yB.symm
   subst yB
   refine g9 3 ?_
   refine WC.cond rfl (fun rO=> ?_) (fun rO=> ?_)
   ·refine g9 5 ?_
    exact⟨j7,(),⟨(by exact iv (congrArg Nat.cast (ato aa rO).symm)),eqv,eqv,eqv,eqv,trivial⟩,rfl⟩
   refine g9 2 ?_
   exact⟨j7,(),⟨(by exact iv (congrArg Nat.cast (adQ (.inr rO)).symm)),eqv,eqv,eqv,eqv,trivial⟩,rfl⟩
  try dsimp only at l9
  refine g9 10 ?_
  exact⟨Le.rfl,(),⟨(by exact iv (congrArg Nat.cast (adQ (.inl aa)).symm)),eqv,eqv,eqv,eqv,trivial⟩,rfl⟩
 rintro u8 gG7 G7 _ DW rfl
 refine g9 6 ?_
 refine W.inv (hK.less (i:=(ju lt L i n)) (j:=i) (hK.mono DW eH) aa aa) rfl rfl ai ?_
 intro _ G8 CM xB q9
 refine match q9 with|⟨ri,aqA⟩=> ?_
 subst ri
 have aqA:=aqA.symm
 subst aqA
 refine g9 3 ?_
 refine WC.cond rfl (fun nr=> ?_) (fun nr=> ?_)
 ·refine g9 15 ?_
  refine⟨.inr rfl,[_],⟨rfl,trivial⟩,A0,List.sublist_append_left _ _,?_⟩
  refine⟨⟨_,rfl⟩,?_⟩
  have h:=(hK.mono (DW.trans xB) eH)
  rw [HV aa (by simpa using nr)]at hd
  rw [←hd];exact h
 refine g9 7 ?_
 refine W.inv (hK.swap (i:=i) (j:=(ju lt L i n)) (hK.mono aS eH) aa aa) rfl rfl ai ?_
 intro _ G13 T0 LZ RC
 refine match RC with|⟨Xi,aok⟩=> ?_
 subst Xi
 refine g9 8 ?_
 exact⟨aS,((((ju lt L i n),f9-1,ir L i (ju lt L i n)):Nat×Nat×List α),T0),aZ,⟨rfl,(by simpa using aok),by dsimp only;rw [←hd,agM hfi aa (by simpa using nr)],by dsimp only;omega,by dsimp only;rw [dR];exact hL,by dsimp only;omega⟩,by dsimp only;omega⟩

theorem aqB [Inhabited α]{lt:α→α→Bool}{pS:GH→List α→MH→Prop}{EV:GH→Value→α→Prop}(hK:PJ Tryz.prog lt x0 pS EV pu){l:List α}(az:pS G l bS)(h0:0<l.length):
    Fc Tryz.prog 135 [x0] G bS (fun v G' M'=>EV G' v (nth l 0)∧pS G' (qd lt l) M'):=by
 have hbd:=hK.PK az
 refine Fc.go [.tmp 2] Tryz.func135 Tryz.ntmps135 rfl (fun w0=>(WC.perm (M':=(bS++[])) (by simp) (g9 8 ?_)))
 refine W.inv (hK.len az) rfl rfl ai ?_
 intro _ G19 AG jV RD
 refine match RD with|⟨uf,acP⟩=> ?_
 subst uf
 have acP:=acP.symm
 subst acP
 refine W.ok (Ok.int (n:=((l.length-1:Nat):Int)) (kG rfl rfl aa) aa) (g9 7 ?_)
 refine W.inv (hK.swap (i:=0) (j:=l.length-1) (hK.mono jV az) aa aa) rfl rfl ai ?_
 intro _ G24 TL xC QT
 refine match QT with|⟨VH,aL6⟩=> ?_
 subst VH
 refine g9 6 ?_
 refine W.call (Mp:=TL) (OZ hK aL6 0 _ l.length aa (by first|omega|(simp only [dR];omega)) aa) rfl ai ?_
 intro _ G30 aWZ aIB q31
 refine match q31 with|⟨⟨_,Kg⟩,aL7⟩=> ?_
 subst Kg
 refine g9 5 ?_
 refine W.inv (hK.pop aL7 (by rw [oY,dR];omega)) rfl rfl ai ?_
 intro v39 G36 wm Aw q37
 refine match q37 with|⟨awk,aeh⟩=> ?_
 refine g9 4 ?_
 refine⟨.inr rfl,[_],⟨rfl,trivial⟩,wm,List.sublist_append_left _ _,?_⟩
 refine⟨(by have h:=awk;rw [(T7 (lt:=lt) h0).2]at h;exact h),?_⟩
 have h:=aeh
 rw [(T7 h0).1]at h;exact h

theorem O0 [Inhabited α]{lt:α→α→Bool}{pS:GH→List α→MH→Prop}{EV:GH→Value→α→Prop}(hK:PJ Tryz.prog lt x0 pS EV pu){l:List α}(az:pS G l bS)(hh:tj lt l)(hb:l.length<1000000):
    Fc Tryz.prog 134 [x0] G bS (fun v G' M'=>v=.tuple #[]∧pS G' (l) M'):=by
 have hbd:=hK.PK az
 refine Fc.go [] Tryz.func134 Tryz.ntmps134 rfl (fun w0=>(WC.perm (M':=(bS++[])) (by simp) (g9 3 ?_)))
 refine W.inv (hK.len az) rfl rfl ai ?_
 intro _ G41 ayj yG q42
 refine match q42 with|⟨C0,acQ⟩=> ?_
 subst C0
 have acQ:=acQ.symm
 subst acQ
 refine g9 6 ?_
 refine W.ok (Ok.int (n:=((l.length / 2:Nat):Int)) (qO rfl rfl aa aa aa) aa) (g9 5 ?_)
 refine WC.loop (X:=(Int)×MH) (fun z=>[(3,iV z.1),(2,aT ((l).length)),(0,x0)]) (fun z G Ml=>Ml=(z.2++[])∧pS G (l) z.2∧ -1≤z.1∧z.1≤l.length) (fun z=>(z.1+1).toNat) (((((l.length / 2:Nat):Int)-1):Int),bS) aZ ?_ ?_
 ·exact⟨rfl,(by simpa using (hK.mono yG az)),aa,aa⟩
 rintro⟨z,A0⟩ aL8 G46 _ akA ⟨rfl,eH,Sa,hz2⟩
 try dsimp only at eH Sa hz2
 refine WC.fr (f:=dO aL8 [(3,iV z),(2,aT ((l).length)),(0,x0)]) rfl (g9 7 ?_)
 refine WC.cd (fun eM jd=> ?_) (fun eM jd=> ?_)
 ·try dsimp only at jd
  obtain⟨m,rfl⟩:∃m:Nat,z=(m:Int):=⟨z.toNat,aa⟩
  refine g9 8 ?_
  refine W.call (Mp:=A0) (OZ hK eH _ _ l.length aa (by first|omega|(simp only [dR];omega)) aa) rfl ai ?_
  intro _ G47 FW ae7 q48
  refine match q48 with|⟨⟨_,VR⟩,aL9⟩=> ?_
  subst VR
  refine g9 9 ?_
  exact⟨ae7,(((m:Int)-1),FW),aZ,⟨rfl,(by have h:=aL9;rw [agN hh]at h;exact h),by dsimp only;omega,by dsimp only;omega⟩,by dsimp only;omega⟩
 try dsimp only at jd
 refine g9 4 ?_
 refine⟨.inl rfl,[],trivial,A0,List.sublist_append_left _ _,?_⟩
 refine⟨rfl,?_⟩
 exact eH

variable {l:List Int} {bN:Value}
theorem aqC(az:aP bY 3 G bN l bS):
    Fc Tryz.prog 254 [bN] G bS (fun v _ M'=>v=iV ((l.length:Int))∧bS=M'):=by
 refine Fc.go [.tmp 2] Tryz.func254 Tryz.ntmps254 rfl (fun w0=>(WC.perm (M':=(bS++[])) (by simp) (g9 13 ?_)))
 refine⟨.inr rfl,[_],⟨rfl,trivial⟩,bS,List.sublist_append_left _ _,?_⟩
 exact⟨rfl,rfl⟩

theorem aiR(az:aP bY 3 G bN l bS)(i:Nat)(j:Nat)(hi:i<l.length)(hj:j<l.length):
    Fc Tryz.prog 255 [bN,aT i,aT j] G bS (fun v _ M'=>v=.bool (decide (nth l i<nth l j))∧bS=M'):=by
 have hl:=az.aH
 refine Fc.go [.tmp 6] Tryz.func255 Tryz.ntmps255 rfl (fun w0=>(WC.perm (M':=(bS++[])) (by simp) (g9 9 ?_)))
 refine az.a2 (i:=i) aa (fun he1 gS=>(W.ok (aE (i:=i) l8 ci az rfl rfl ⟨aa,aa⟩) (W.ok (bM (vs:=jk) ci he1 ai rfl rfl rfl (by simp)) (g9 2 ?_))))
 refine az.a2 (i:=j) aa (fun he5 hi6=>(W.ok (aE (i:=j) l8 ci az rfl rfl ⟨aa,aa⟩) (W.ok (bM (vs:=jk) ci he5 ai rfl rfl rfl (by simp)) (g9 5 ?_))))
 refine⟨.inr rfl,[_],⟨rfl,trivial⟩,bS,List.sublist_append_left _ _,?_⟩
 exact⟨by rw [ke hi,ke hj];rfl,rfl⟩

theorem aiS(az:aP bY 3 G bN l bS)(i:Nat)(j:Nat)(hi:i<l.length)(hj:j<l.length):
    Fc Tryz.prog 256 [bN,aT i,aT j] G bS (fun v G' M'=>v=.tuple #[]∧aP bY 3 G' bN (ir l i j) M'):=by
 have hl:=az.aH
 have ayk:i64 l[i]:=by obtain⟨_,_,_,h⟩:=az.at hi;exact h
 have ayl:i64 l[j]:=by obtain⟨_,_,_,h⟩:=az.at hj;exact h
 have hls:(l.set i l[j]).length=l.length:=List.length_set ..
 refine Fc.go [] Tryz.func256 Tryz.ntmps256 rfl (fun w0=>(WC.perm (M':=(bS++[])) (by simp) (WC.dw eu (d9 [0,1,2,3,4,5] ?_))))
 refine az.a2 (i:=j) aa (fun PA aGR=>(WD.tk 6 rfl (aE (i:=j) l8 ci az rfl rfl ⟨aa,aa⟩) (d9 [8,9] ?_)))
 refine az.a2 (i:=i) aa (fun Tr aGS=>(WD.tk 10 rfl (aE (i:=i) l8 ci az rfl rfl ⟨aa,aa⟩) ?_))
 refine WD.any [7,11] (by kernel_rfl) rfl ⟨WD.ap ?_,WD.ap ?_,trivial⟩
 ·refine W.ok (bM (vs:=jk) ci PA ai rfl rfl rfl (by simp)) (W.nn (WD.a1 11 rfl (W.ok (bM (vs:=jk) ci Tr ai rfl rfl rfl (by simp)) (W.nn (az.a2 (i:=i) aa (fun Vy aW0=>(WD.tk 12 rfl (aE (i:=i) l8 ci az rfl rfl ⟨aa,aa⟩) (WD.a1 13 rfl (W.dF (i:=i) (o:=0) (vs:=jk) (a':=l[j]) ci rfl rfl rfl rfl rfl (az) ai aa (by decide) (fun cs h=>by rw [h.1];exact⟨rfl,ayl⟩) (fun AG O1=>(W.nn (O1.a2 (i:=j) aa (fun aW1 aW2=>(WD.tk 14 rfl (aE (i:=j) l8 ci O1 rfl rfl ⟨aa,aa⟩) (WD.a1 15 rfl (W.dF (i:=j) (o:=0) (vs:=jk) (a':=l[i]) ci rfl rfl rfl rfl rfl (O1) ai aa (by decide) (fun cs h=>by rw [h.1];exact⟨rfl,ayk⟩) (fun afz afA=> ?_)))))))))))))))))
  refine W.nn (WD.done (by kernel_rfl) ?_)
  refine⟨.inl rfl,[],trivial,(afz++[]),bi,?_⟩
  have h:=afA
  refine⟨rfl,?_⟩
  rw [ir,ke hi,ke hj,List.append_nil];exact h
 refine W.ok (bM (vs:=jk) ci Tr ai rfl rfl rfl (by simp)) (W.nn (WD.a1 7 rfl (W.ok (bM (vs:=jk) ci PA ai rfl rfl rfl (by simp)) (W.nn (az.a2 (i:=i) aa (fun L9 aLF=>(WD.tk 12 rfl (aE (i:=i) l8 ci az rfl rfl ⟨aa,aa⟩) (WD.a1 13 rfl (W.dF (i:=i) (o:=0) (vs:=jk) (a':=l[j]) ci rfl rfl rfl rfl rfl (az) ai aa (by decide) (fun cs h=>by rw [h.1];exact⟨rfl,ayl⟩) (fun ae5 F6=>(W.nn (F6.a2 (i:=j) aa (fun alW aW3=>(WD.tk 14 rfl (aE (i:=j) l8 ci F6 rfl rfl ⟨aa,aa⟩) (WD.a1 15 rfl (W.dF (i:=j) (o:=0) (vs:=jk) (a':=l[i]) ci rfl rfl rfl rfl rfl (F6) ai aa (by decide) (fun cs h=>by rw [h.1];exact⟨rfl,ayk⟩) (fun sD AK=> ?_)))))))))))))))))
 refine W.nn (WD.done (by kernel_rfl) ?_)
 refine⟨.inl rfl,[],trivial,(sD++[]),bi,?_⟩
 have h:=AK
 refine⟨rfl,?_⟩
 rw [ir,ke hi,ke hj,List.append_nil];exact h

variable {Tb:TypeId} {c0:Value}
theorem aqD{b_b:Nat}{c1:Value}(az:aP bY 3 G bN l bS)(h0:0<l.length):
    Fc Tryz.prog 257 [.pointer (some ⟨b_b,2,none⟩)] G ((b_b,aj Tb [c0,c1,bN])::(bS)) (fun v G' M'=>v=.iface 3 (iV (nth l (l.length-1)))∧i64 (nth l (l.length-1))∧∃v' iw,M'=(b_b,aj Tb [c0,c1,v'])::iw∧aP bY 3 G' v' (l.take (l.length-1)) iw):=by
 obtain⟨aW,aX,rfl⟩:=az.form
 have hl:=az.aH
 have DM:nth l (l.length-1)=l[l.length-1]:=ke aa
 have aMa:i64 l[l.length-1]:=by obtain⟨_,_,_,h⟩:=az.at (i:=l.length-1) aa;exact h
 refine Fc.go [.tmp 2] Tryz.func257 Tryz.ntmps257 rfl (fun w0=>(WC.perm (M':=((b_b,aj Tb [c0,c1,lV aW l.length aX])::(bS++[]))) (by simp) (g9 11 ?_)))
 refine W.ok (Ok.int (n:=((l.length-1:Nat):Int)) (kG rfl rfl aa) aa) (g9 9 ?_)
 refine az.a2 (i:=l.length-1) aa (fun adY aW4=>(W.ok (aE (i:=l.length-1) l8 ci az rfl rfl ⟨aa,aa⟩) (W.ok (bM (vs:=jk) ci adY (ae ai) rfl rfl rfl (by simp)) (g9 10 ?_))))
 refine W.awl (l.length-1) l8 ci az rfl ⟨_,_,rfl,aa⟩ aa (fun v45 Nr=> ?_)
 have q50:=Nr.form
 refine match q50 with|⟨aMb,aMc,aop⟩=> ?_
 subst aop
 refine g9 7 ?_
 refine W.ok (GU pi3 rfl) (g9 4 ?_)
 refine⟨.inr rfl,[_],⟨rfl,trivial⟩,((b_b,aj Tb [c0,c1,lV aMb (((l).take (l.length-1))).length aMc])::(bS++[])),bi.k9,?_⟩
 exact⟨by rw [DM];rfl,by rw [DM];exact aMa,_,_,congrArg _ (List.append_nil _),Nr⟩


abbrev awm (b:Nat) (Tb:TypeId) (c0 c1:Value) (G:GH) (l:List Int) (M:MH):Prop:=∃v Ms,M=(b,aj Tb [c0,c1,v])::Ms∧aP bY 3 G v l Ms
variable {b:Nat}
theorem yS{c1:Value} :PJ Tryz.prog (fun a b:Int=>decide (a<b)) (.iface 192 (.pointer (some ⟨b,2,none⟩))) (awm b Tb c0 c1) (fun _ u a=>u=.iface 3 (iV a)∧i64 a) False where
  mono:=fun hl ⟨v,Ms,h1,h2⟩=>⟨v,Ms,h1,h2.mono hl⟩
  PK:=fun⟨v,Ms,h1,h2⟩=>h2.aH
  len:=fun {G l M} ⟨v,Ms,h1,h2⟩=>by
    subst h1
    exact Inv.val (e:=143) (by kernel_rfl) (by kernel_rfl) rfl (aqC h2) (fun v' G' M' hl ⟨e1,e2⟩=>⟨e1,by rw [←e2]⟩)
  less:=fun {G l M i j} ⟨v,Ms,h1,h2⟩ hi hj=>by
    subst h1
    exact Inv.val (e:=143) (by kernel_rfl) (by kernel_rfl) rfl (aiR h2 i j hi hj) (fun v' G' M' hl ⟨e1,e2⟩=>⟨e1,by rw [←e2]⟩)
  swap:=fun {G l M i j} ⟨v,Ms,h1,h2⟩ hi hj=>by
    subst h1
    exact Inv.val (e:=143) (by kernel_rfl) (by kernel_rfl) rfl (aiS h2 i j hi hj) (fun v' G' M' hl ⟨e1,e2⟩=>⟨e1,v,M',rfl,e2⟩)
  push:=fun h=>h.elim
  pop:=fun {G l M} ⟨v,Ms,h1,h2⟩ h0=>by
    subst h1
    exact Inv.ptr (g:=257) (by kernel_rfl) (aqD h2 h0) (fun v' G' M' hl ⟨e1,e4,v2,M2,e2,e3⟩=>⟨⟨e1,e4⟩,v2,M2,e2,e3⟩)
variable {fS:MH} {fT:MH} {eg:MH} {b_s:Nat} {f:List Int} {u:List Bool} {ox:Value} {Am:Value} {qk:Value}
theorem O2{c:List Nd}(gh:aP bU 57 G ox c fS)(hZ:aP sR 4 G qk u eg)(uM:aP bY 3 G Am f fT)(i:Int):
    Fc Tryz.prog 118 [aq b_s,iV i] G ((b_s,aj 145 [ox,qk,Am])::(fS++(eg++(fT)))) (fun v G' M'=>v=.bool (ky u i)∧M'=(b_s,aj 145 [ox,qk,Am])::(fS++(eg++fT))):=by
 obtain⟨fZ,gd,rfl⟩:=gh.form
 obtain⟨gO,gQ,rfl⟩:=hZ.form
 obtain⟨jo,jq,rfl⟩:=uM.form
 have hl:=hZ.aH
 refine Fc.go [.tmp 4] Tryz.func118 Tryz.ntmps118 rfl (fun w0=>(WC.perm (M':=((b_s,aj 145 [lV fZ c.length gd,lV gO u.length gQ,lV jo f.length jq])::(fS++(eg++(fT++[]))))) (by simp) (g9 8 ?_)))
 refine W.ok (gB Um rfl rfl) (g9 7 ?_)
 refine W.sd 11 (fun h9 p9=> ?_) (fun h9 p9=> ?_)
 ·refine g9 16 ?_
  refine W.sd 20 (fun AW tz=> ?_) (fun AW tz=> ?_)
  ·refine g9 11 ?_
   refine hZ.a1 (i:=i.toNat) aa (fun he1=>(W.ok (aE (i:=i.toNat) D0 H3 hZ rfl rfl ⟨aa,aa⟩) (g9 1 ?_)))
   refine W.ok (bM (vs:=bc9) H3 he1 (ae (dx ai)) rfl rfl rfl (by simp)) (g9 5 ?_)
   refine⟨.inr rfl,[_],⟨rfl,trivial⟩,((b_s,aj 145 [lV fZ c.length gd,lV gO u.length gQ,lV jo f.length jq])::(fS++(eg++(fT++[])))),bi.k9,?_⟩
   exact⟨congrArg Value.bool (agO aa aa),by simp⟩
  refine g9 12 ?_
  refine⟨.inr rfl,[_],⟨rfl,trivial⟩,((b_s,aj 145 [lV fZ c.length gd,lV gO u.length gQ,lV jo f.length jq])::(fS++(eg++(fT++[])))),bi.k9,?_⟩
  exact⟨congrArg Value.bool (agQ aa),by simp⟩
 refine g9 21 ?_
 refine⟨.inr rfl,[_],⟨rfl,trivial⟩,((b_s,aj 145 [lV fZ c.length gd,lV gO u.length gQ,lV jo f.length jq])::(fS++(eg++(fT++[])))),bi.k9,?_⟩
 exact⟨congrArg Value.bool (agP aa),by simp⟩

variable {wB:List Value} {x:Nd}
theorem aiT{c:List Nd}(gh:aP bU 57 G ox c fS)(hZ:aP sR 4 G qk u eg)(uM:aP bY 3 G Am f fT)(i:Int)(Qm:ba G wB x)(YA:c.length=u.length)(hn:u.length≤4096)(hh:tj A5 f)(hp:f.Perm (iM u)):
    Fc Tryz.prog 97 [aq b_s,iV i,.agg (List.toArray wB)] G ((b_s,aj 145 [ox,qk,Am])::(fS++(eg++(fT)))) (fun v G' M'=>v=iV (qP (c,u) i x).1∧kN bU 57 4 3 145 b_s G' (qP (c,u) i x).2 M'):=by
 obtain⟨wC,wD,wE,wF,wG,wH,wI,wJ,rfl,yk,CL,AA,AB,yl⟩:=Qm
 obtain⟨fZ,gd,rfl⟩:=gh.form
 obtain⟨gO,gQ,rfl⟩:=hZ.form
 obtain⟨jo,jq,rfl⟩:=uM.form
 have hl:=hZ.aH
 have hlc:=gh.aH
 refine Fc.go [.tmp 6] Tryz.func97 Tryz.ntmps97 rfl (fun w0=>(WC.perm (M':=((b_s,aj 145 [lV fZ c.length gd,lV gO u.length gQ,lV jo f.length jq])::(fS++(eg++(fT++[]))))) (by simp) (g9 2 ?_)))
 refine W.box (L:=[iV _,iV _,lV _ _ _,lV _ _ _,sV _,.bool _,iV _,iV _,lV _ _ _,lV _ _ _]) rfl rfl (fun b5=>(g9 7 ?_))
 refine W.ok (bV Um rfl rfl) (g9 10 ?_)
 refine W.call (Mp:=((b_s,aj 145 [lV fZ c.length gd,lV gO u.length gQ,lV jo f.length jq])::(fS++(eg++fT)))) (Mr:=((b5,aj 57 (cj x wC wD wE wF wG wH wI wJ))::[])) (O2 gh hZ uM _) rfl (((ae ((oU ((oU ai).trans ai)).trans ai)).cons _).trans ((List.Perm.swap _ _ _).trans (ai.cons _))) ?_
 intro v9 G6 Ms8 pf q7
 refine match q7 with|⟨akp,ans⟩=> ?_
 subst akp
 subst ans
 refine W.perm (M':=((b_s,aj 145 [lV fZ c.length gd,lV gO u.length gQ,lV jo f.length jq])::((b5,aj 57 (cj x wC wD wE wF wG wH wI wJ))::(fS++(eg++(fT++[])))))) (((ae ((oU ((oU ai).trans ai)).trans ai)).cons _).trans ai).symm (g9 3 ?_)
 refine WC.cond rfl (fun dL=> ?_) (fun dL=> ?_)
 ·refine g9 7 ?_
  refine⟨.inr rfl,[_],⟨rfl,trivial⟩,((b_s,aj 145 [lV fZ c.length gd,lV gO u.length gQ,lV jo f.length jq])::(fS++(eg++(fT++[])))),(bi.cons _).k9,?_⟩
  exact⟨congrArg (Value.int .i64) (congrArg Prod.fst (PN (st:=(c,u)) (by simpa using dL))).symm,kN.cast (st:=(c,u)) ⟨_,⟨_,_,_,_,_,_,rfl,(gh.mono pf),(hZ.mono pf),(uM.mono pf)⟩,YA,hn,hh,hp⟩ (congrArg Prod.snd (PN (st:=(c,u)) (by simpa using dL))).symm (by simp)⟩
 have gz:ky u i=true:=by simpa using dL
 have hil:=Ub gz
 refine g9 3 ?_
 refine WC.dw (eu.k9.k9) (d9 [0,1,2,3,4,5] ?_)
 refine(gh.mono pf).aN (i:=i.toNat) aa (fun _ _ _ _ _ _ _ _ adK aP0 aP1 aP2 aP3 aMd=>(WD.tk 6 rfl (aE (i:=i.toNat) eY cU (gh.mono pf) rfl rfl ⟨aa,aa⟩) (WD.a1 7 rfl (W.dF (i:=i.toNat) (o:=0) (vs:=qn) (a':=x) cU rfl rfl rfl rfl rfl ((gh.mono pf)) (ae (ae ai)) aa (by decide) (fun cs h=>by obtain⟨_,_,_,_,_,_,_,_,rfl,_⟩:=h;exact(fy pf yk CL AA AB yl)) (fun Je Jf=>(W.perm (ae (ae ai)).symm (W.nn (g9 8 ?_))))))))
 refine⟨.inr rfl,[_],⟨rfl,trivial⟩,((b_s,aj 145 [lV fZ c.length gd,lV gO u.length gQ,lV jo f.length jq])::(Je++(eg++(fT++[])))),(bi.cons _).k9,?_⟩
 exact⟨congrArg (Value.int .i64) (congrArg Prod.fst (PM (st:=(c,u)) (by simpa using dL))).symm,kN.cast (st:=(c.set i.toNat x,u)) ⟨_,⟨_,_,_,_,_,_,rfl,Jf,(hZ.mono pf),(uM.mono pf)⟩,(by rw [List.length_set];exact YA),hn,hh,hp⟩ (congrArg Prod.snd (PM (st:=(c,u)) (by simpa using dL))).symm (by simp)⟩

theorem YB{c:List Nd}(gh:aP bU 57 G ox c fS)(hZ:aP sR 4 G qk u eg)(uM:aP bY 3 G Am f fT)(Qm:ba G wB x)(YA:c.length=u.length)(hn:u.length≤4096)(hh:tj A5 f)(hp:f.Perm (iM u)):
    Fc Tryz.prog 96 [aq b_s,.agg (List.toArray wB)] G ((b_s,aj 145 [ox,qk,Am])::(fS++(eg++(fT)))) (fun v G' M'=>v=.tuple #[iV (eI (c,u) x).1.1,iV (eI (c,u) x).1.2]∧kN bU 57 4 3 145 b_s G' (eI (c,u) x).2 M'):=by
 obtain⟨wC,wD,wE,wF,wG,wH,wI,wJ,rfl,yk,CL,AA,AB,yl⟩:=Qm
 obtain⟨fZ,gd,rfl⟩:=gh.form
 obtain⟨gO,gQ,rfl⟩:=hZ.form
 obtain⟨jo,jq,rfl⟩:=uM.form
 have hl:=hZ.aH
 have hlc:=gh.aH
 have hlf:=uM.aH
 refine Fc.go [.tmp 4,.tmp 5] Tryz.func96 Tryz.ntmps96 rfl (fun w0=>(WC.perm (M':=((b_s,aj 145 [lV fZ c.length gd,lV gO u.length gQ,lV jo f.length jq])::(fS++(eg++(fT++[]))))) (by simp) (g9 2 ?_)))
 refine W.box (L:=[iV _,iV _,lV _ _ _,lV _ _ _,sV _,.bool _,iV _,iV _,lV _ _ _,lV _ _ _]) rfl rfl (fun Py=>(g9 8 ?_))
 refine W.ok (bV Um rfl rfl) (g9 16 ?_)
 refine WC.cd (fun gl gm=> ?_) (fun gl gm=> ?_)
 ·refine g9 8 ?_
  refine⟨.inr rfl,[_,_],⟨rfl,rfl,trivial⟩,((b_s,aj 145 [lV fZ c.length gd,lV gO u.length gQ,lV jo f.length jq])::(fS++(eg++(fT++[])))),bi.k9.cons _,?_⟩
  have hE:=Ud (st:=(c,u)) (x:=x) (aal (u:=u) (by have:=hp.length_eq;omega))
  exact⟨congrArg (fun r:Int×Int=>Value.tuple #[iV r.1,iV r.2]) (congrArg Prod.fst hE).symm,kN.cast (st:=(c,u)) ⟨_,⟨_,_,_,_,_,_,rfl,gh,hZ,uM⟩,YA,hn,hh,hp⟩ (congrArg Prod.snd hE).symm (by simp)⟩
 refine g9 7 ?_
 refine W.ok (GU aar rfl) (W.call (Mp:=((b_s,aj 145 [lV fZ c.length gd,lV gO u.length gQ,lV jo f.length jq])::fT)) (Mr:=((Py,aj 57 (cj x wC wD wE wF wG wH wI wJ))::(fS++(eg++[])))) (aqB (yS (b:=b_s) (Tb:=145) (c0:=lV fZ c.length gd) (c1:=lV gO u.length gQ)) ⟨_,_,rfl,uM⟩ aa) rfl (((ae (dx (dx ai))).cons _).trans ((List.Perm.swap _ _ _).trans (ai.cons _))) ?_)
 intro v22 G19 AG jV RD
 refine match RD with|⟨⟨af0,aP4⟩,⟨aP5,Sb,rA,af1⟩⟩=> ?_
 subst rA
 have q26:=af1.form
 refine match q26 with|⟨Sc,Sd,pB⟩=> ?_
 subst pB
 obtain⟨iB,hee,hh2,hp2⟩:=Ua hh hp aa
 rw [hee]at af0
 subst af0
 refine W.perm (M':=((b_s,aj 145 [lV fZ c.length gd,lV gO u.length gQ,lV Sc ((qd A5 f)).length Sd])::((Py,aj 57 (cj x wC wD wE wF wG wH wI wJ))::(Sb++(fS++(eg++[])))))) (((ae ai).cons _).trans ai).symm (W.ok (awn pi3 rfl) (g9 4 ?_))
 refine WC.dw (eu.k9.k9) (d9 [0,1,2,3,4,5,6,7,8,9,10] ?_)
 refine(gh.mono jV).aN (i:=(dS u)) aa (fun _ _ _ _ _ _ _ _ VG aP6 aP7 aP8 aP9 aMe=>(WD.tk 11 rfl (aE (i:=(dS u)) eY cU (gh.mono jV) rfl rfl ⟨aa,aa⟩) (WD.a1 12 rfl (W.dF (i:=(dS u)) (o:=0) (vs:=qn) (a':=x) cU rfl rfl rfl rfl rfl ((gh.mono jV)) (ae (ae (dx ai))) aa (by decide) (fun cs h=>by obtain⟨_,_,_,_,_,_,_,_,rfl,_⟩:=h;exact(fy jV yk CL AA AB yl)) (fun tC TV=>(W.perm (ae (ae ai)).symm (W.nn ((hZ.mono jV).a1 (i:=(dS u)) aa (fun adO=>(WD.tk 13 rfl (aE (i:=(dS u)) D0 H3 (hZ.mono jV) rfl rfl ⟨aa,aa⟩) (WD.a1 14 rfl (W.dF (i:=(dS u)) (o:=0) (vs:=bc9) (a':=true) H3 rfl rfl rfl rfl rfl ((hZ.mono jV)) (ae (ae (dx (dx ai)))) aa (by decide) (fun cs h=>by rw [h];rfl) (fun aeU HI=>(W.perm (ae (ae ai)).symm (W.nn (g9 9 ?_))))))))))))))))
 refine WC.perm (M':=((b_s,aj 145 [lV fZ c.length gd,lV gO u.length gQ,lV Sc ((qd A5 f)).length Sd])::((Py,aj 57 (cj x wC wD wE wF wG wH wI wJ))::(tC++(aeU++(Sb++[])))))) ((((List.Perm.append_left _ ((List.Perm.append_left _ ((List.Perm.append_left _ ai).trans ai)).trans ai)).trans (dx ai)).cons _).cons _) (WC.ret ?_)
 refine⟨.inr rfl,[_,_],⟨rfl,rfl,trivial⟩,((b_s,aj 145 [lV fZ c.length gd,lV gO u.length gQ,lV Sc ((qd A5 f)).length Sd])::(tC++(aeU++(Sb++[])))),(bi.cons _).k9,?_⟩
 have hE:=Uc (st:=(c,u)) (x:=x) iB
 exact⟨congrArg (fun r:Int×Int=>Value.tuple #[iV r.1,iV r.2]) (congrArg Prod.fst hE).symm,kN.cast (st:=(c.set (dS u) x,u.set (dS u) true)) ⟨_,⟨_,_,_,_,_,_,rfl,TV,HI,af1⟩,(by rw [List.length_set,List.length_set];exact YA),(by rw [List.length_set];exact hn),hh2,hp2⟩ (congrArg Prod.snd hE).symm (by simp)⟩

theorem aiU{c:List Nd}(gh:aP bU 57 G ox c fS)(hZ:aP sR 4 G qk u eg)(uM:aP bY 3 G Am f fT)(i:Int)(YA:c.length=u.length):
    Fc Tryz.prog 79 [aq b_s,iV i] G ((b_s,aj 145 [ox,qk,Am])::(fS++(eg++(fT)))) (fun v G' M'=>∃cs,v=.tuple #[.agg (List.toArray cs),.bool (ky u i)]∧ba G' cs (wv (c,u) i Nd.zero)∧M'=(b_s,aj 145 [ox,qk,Am])::(fS++(eg++fT))):=by
 obtain⟨fZ,gd,rfl⟩:=gh.form
 obtain⟨gO,gQ,rfl⟩:=hZ.form
 obtain⟨jo,jq,rfl⟩:=uM.form
 have hl:=hZ.aH
 have hlc:=gh.aH
 refine Fc.go [.cell 4 57,.tmp 5] Tryz.func79 Tryz.ntmps79 rfl (fun w0=>(WC.perm (M':=((b_s,aj 145 [lV fZ c.length gd,lV gO u.length gQ,lV jo f.length jq])::(fS++(eg++(fT++[]))))) (by simp) (g9 2 ?_)))
 refine W.alloc bq (fun b39=>(g9 8 ?_))
 refine W.call (Mp:=((b_s,aj 145 [lV fZ c.length gd,lV gO u.length gQ,lV jo f.length jq])::(fS++(eg++fT)))) (Mr:=((b39,aj 57 gR)::[])) (O2 gh hZ uM _) rfl (((ae ((oU ((oU ai).trans ai)).trans ai)).cons _).trans ((List.Perm.swap _ _ _).trans (ai.cons _))) ?_
 intro v43 G40 aom L0 q41
 refine match q41 with|⟨yJ,C0⟩=> ?_
 subst yJ
 subst C0
 refine W.perm (M':=((b_s,aj 145 [lV fZ c.length gd,lV gO u.length gQ,lV jo f.length jq])::((b39,aj 57 gR)::(fS++(eg++(fT++[])))))) (((ae ((oU ((oU ai).trans ai)).trans ai)).cons _).trans ai).symm (g9 3 ?_)
 refine WC.cond rfl (fun h9=> ?_) (fun h9=> ?_)
 ·have gz:ky u i=false:=by simpa using h9
  refine g9 9 ?_
  refine⟨.inr rfl,[_,_],⟨⟨_,_,_,_,_,rfl,fJ (i:=1) rfl,cU,(by simp),rfl,rfl⟩,rfl,trivial⟩,((b_s,aj 145 [lV fZ c.length gd,lV gO u.length gQ,lV jo f.length jq])::(fS++(eg++(fT++[])))),(bi.cons _).k9,?_⟩
  refine⟨_,?_,ba.cast ⟨_,_,_,_,_,_,_,_,rfl,ax.nil,ax.nil,ax.nil,ax.nil,Nd.c6⟩ (atq (st:=(c,u)) gz).symm,by simp⟩
  rw [gz];rfl
 have gz:ky u i=true:=by simpa using h9
 have hil:=Ub gz
 refine g9 9 ?_
 refine(gh.mono L0).aN (i:=i.toNat) aa (fun _ _ _ _ _ _ _ _ aMf awo awp awq awr aqE=>(W.ok (aE (i:=i.toNat) eY cU (gh.mono L0) rfl rfl ⟨aa,aa⟩) (W.ok (bM (vs:=qn) cU aMf (ae (ae ai)) rfl rfl rfl (by simp)) (g9 5 ?_))))
 refine⟨.inr rfl,[_,_],⟨⟨_,_,_,_,_,rfl,fJ (i:=1) rfl,cU,(by simp),rfl,rfl⟩,rfl,trivial⟩,((b_s,aj 145 [lV fZ c.length gd,lV gO u.length gQ,lV jo f.length jq])::(fS++(eg++(fT++[])))),(bi.cons _).k9,?_⟩
 refine⟨_,?_,ba.cast (cc awo awp awq awr aqE) (atp (st:=(c,u)) gz (by show _<c.length;omega)).symm,by simp⟩
 rw [gz];rfl

theorem acR{c:List Nd}(gh:aP bU 57 G ox c fS)(hZ:aP sR 4 G qk u eg)(uM:aP bY 3 G Am f fT)(YA:c.length=u.length)(hn:u.length≤4096)(hh:tj A5 f)(hp:f.Perm (iM u)):
    Fc Tryz.prog 143 [aq b_s] G ((b_s,aj 145 [ox,qk,Am])::(fS++(eg++(fT)))) (fun v G' M'=>v=iV ((iM u).length:Int)∧M'=(b_s,aj 145 [ox,qk,Am])::(fS++(eg++fT))):=by
 obtain⟨fZ,gd,rfl⟩:=gh.form
 obtain⟨gO,gQ,rfl⟩:=hZ.form
 obtain⟨jo,jq,rfl⟩:=uM.form
 have hl:=hZ.aH
 have hlf:=uM.aH
 have hfu:=A6 u
 have Ak:=hp.length_eq
 refine Fc.go [.tmp 2] Tryz.func143 Tryz.ntmps143 rfl (fun w0=>(WC.perm (M':=((b_s,aj 145 [lV fZ c.length gd,lV gO u.length gQ,lV jo f.length jq])::(fS++(eg++(fT++[]))))) (by simp) (g9 9 ?_)))
 refine W.ok (bV Um rfl rfl) (g9 16 ?_)
 refine⟨.inr rfl,[_],⟨rfl,trivial⟩,((b_s,aj 145 [lV fZ c.length gd,lV gO u.length gQ,lV jo f.length jq])::(fS++(eg++(fT++[])))),bi.k9,?_⟩
 exact⟨congrArg (Value.int .i64) aa,by simp⟩

theorem acS{c:List Nd}(gh:aP bU 57 G ox c fS)(hZ:aP sR 4 G qk u eg)(uM:aP bY 3 G Am f fT)(YA:c.length=u.length)(hn:u.length≤4096)(hh:tj A5 f)(hp:f.Perm (iM u)):
    Fc Tryz.prog 45 [aq b_s] G ((b_s,aj 145 [ox,qk,Am])::(fS++(eg++(fT)))) (fun v G' M'=>ax bY G' v (kz u)∧M'=(b_s,aj 145 [ox,qk,Am])::(fS++(eg++fT))):=by
 obtain⟨fZ,gd,rfl⟩:=gh.form
 obtain⟨gO,gQ,rfl⟩:=hZ.form
 obtain⟨jo,jq,rfl⟩:=uM.form
 have hl:=hZ.aH
 have hlf:=uM.aH
 have hfu:=A6 u
 have Ak:=hp.length_eq
 refine Fc.go [.tmp 2] Tryz.func45 Tryz.ntmps45 rfl (fun w0=>(WC.perm (M':=((b_s,aj 145 [lV fZ c.length gd,lV gO u.length gQ,lV jo f.length jq])::(fS++(eg++(fT++[]))))) (by simp) (g9 14 ?_)))
 refine W.ok (gB Um rfl rfl) (g9 14 ?_)
 refine WC.loop (X:=(Nat)×Value×MH) (fun k=>[(13,aT k.1),(11,lV gO u.length gQ),(12,aT ((u).length)),(3,k.2.1)]) (fun k G Ml=>Ml=((b_s,aj 145 [lV fZ c.length gd,lV gO u.length gQ,lV jo f.length jq])::(k.2.2++(fS++(eg++(fT++[])))))∧aP bY 3 G k.2.1 (qQ u k.1) k.2.2∧k.1≤u.length) (fun k=>u.length-k.1) (0,lV none 0 0,([]:MH)) aZ ?_ ?_
 ·exact⟨rfl,(by exact aP.nil),aa⟩
 rintro⟨k,I6,M_3⟩ axv G50 _ VN ⟨rfl,iU,hk⟩
 try dsimp only at iU hk
 have jj:=HY u k
 refine WC.fr (f:=dO axv [(13,aT k),(11,lV gO u.length gQ),(12,aT ((u).length)),(3,I6)]) rfl (g9 6 ?_)
 refine WC.cd (fun gl gm=> ?_) (fun gl gm=> ?_)
 ·refine g9 7 ?_
  refine(hZ.mono VN).a1 (i:=k) aa (fun aMg=>(W.ok (aE (i:=k) D0 H3 (hZ.mono VN) rfl rfl ⟨aa,aa⟩) (W.ok (bM (vs:=bc9) H3 aMg (ae (dx (dx ai))) rfl rfl rfl (by simp)) (g9 9 ?_))))
  refine WC.cond rfl (fun Us=> ?_) (fun Us=> ?_)
  ·refine g9 3 ?_
   refine W.lit (e:=bY) (l:=[_]) (css:=[[iV _]]) cq ci kp rfl rfl rfl rfl rfl rfl ⟨⟨rfl,aa,aa⟩,trivial⟩ (fun aW5 G55 il aMh=>(W.app (e:=bY) cq ci kp rfl tq rfl rfl ((iU.mono il)) (aMh) (ae ai) (by show(_+1)*8≤_;omega) (fun v56 aeq aym=>(W.perm (ae ai).symm ?_))))
   have q62:=aym.form
   refine match q62 with|⟨aMi,aMj,Wg⟩=> ?_
   subst Wg
   refine g9 9 ?_
   exact⟨il,(k+1,lV aMi ((qQ u k++_)).length aMj,aeq),aZ,⟨rfl,(by have h:=aym;rw [akI aa Us];exact h),aa⟩,aa⟩
  refine g9 8 ?_
  exact⟨Le.rfl,(k+1,I6,M_3),aZ,⟨rfl,(by have h:=iU;rw [akJ aa Us];exact h),aa⟩,aa⟩
 refine g9 11 ?_
 refine WC.cm iU (ae ai) (fun G63 axK aMk=>(WC.ret ?_))
 refine⟨.inr rfl,[_],⟨rfl,trivial⟩,((b_s,aj 145 [lV fZ c.length gd,lV gO u.length gQ,lV jo f.length jq])::(fS++(eg++(fT++[])))),bi.k9,?_⟩
 exact⟨ax.cast aMk (by rw [Ue];congr 1;omega),by simp⟩

theorem ahg(n:Int):
    Fc Tryz.prog 93 [iV n] G [] (fun v G' M'=>(¬(1≤n∧n≤4096)∧v=.tuple #[.pointer none,iV 2]∧M'=[])∨((1≤n∧n≤4096)∧∃b,v=.tuple #[aq b,iV 0]∧kN bU 57 4 3 145 b G' (List.replicate n.toNat Nd.zero,List.replicate n.toNat false) M')):=by
 refine Fc.go [.tmp 2,.tmp 3] Tryz.func93 Tryz.ntmps93 rfl (fun w0=>(g9 12 ?_))
 refine W.sd 8 (fun h7 p7=> ?_) (fun h7 p7=> ?_)
 ·refine g9 14 ?_
  refine⟨.inr rfl,[_,_],⟨rfl,rfl,trivial⟩,[],bi,?_⟩
  exact .inl ⟨aa,rfl,rfl⟩
 refine g9 7 ?_
 refine WC.cd (fun eM jd=> ?_) (fun eM jd=> ?_)
 ·refine g9 8 ?_
  refine⟨.inr rfl,[_,_],⟨rfl,rfl,trivial⟩,[],bi,?_⟩
  exact .inl ⟨aa,rfl,rfl⟩
 obtain⟨m,rfl⟩:∃m:Nat,n=(m:Int):=⟨n.toNat,aa⟩
 refine g9 3 ?_
 refine WC.dw bi (d9 [0,2] ?_)
 refine WD.any [1,3] (by kernel_rfl) rfl ⟨WD.ap ?_,WD.ap ?_,trivial⟩
 ·refine W.Jc (e:=bU) (a0:=Nd.zero) (n:=(m)) eY cU bq rfl B1 (⟨_,_,_,_,_,_,_,_,rfl,ax.nil,ax.nil,ax.nil,ax.nil,Nd.c6⟩) rfl rfl (by first|(show _*152≤140737488355328;omega)|(show _*10≤16777216;omega)|(show _*1≤140737488355328;omega)|(show _*1≤16777216;omega)) (by first|(show _*152≤140737488355328;omega)|(show _*10≤16777216;omega)|(show _*1≤140737488355328;omega)|(show _*1≤16777216;omega)) (fun v1 Gj HJ=> ?_)
  have q7:=HJ.form
  refine match q7 with|⟨sa4,sc5,rD⟩=> ?_
  subst rD
  refine W.nn (WD.a1 3 rfl (W.Jc (e:=sR) (a0:=false) (n:=(m)) D0 H3 zr4 rfl by4 (rfl) rfl rfl (by first|(show _*152≤140737488355328;omega)|(show _*10≤16777216;omega)|(show _*1≤140737488355328;omega)|(show _*1≤16777216;omega)) (by first|(show _*152≤140737488355328;omega)|(show _*10≤16777216;omega)|(show _*1≤140737488355328;omega)|(show _*1≤16777216;omega)) (fun v8 wW L3=> ?_)))
  have RC:=L3.form
  refine match RC with|⟨aqF,aqG,ym⟩=> ?_
  subst ym
  refine W.nn (WD.tk 4 rfl (aM (L:=[lV _ _ _,lV _ _ _,lV _ _ _]) ak0 akZ rfl rfl rfl) (WD.a1 5 rfl (W.box (L:=[lV _ _ _,lV _ _ _,lV _ _ _]) rfl rfl (fun qI=>(W.nn (d9 [6] ?_))))))
  refine g9 4 ?_
  have aMl:Ll bU 57 4 3 145 qI G (List.replicate m Nd.zero,List.replicate m false,eB 0) ((qI,aj 145 [lV sa4 ((List.replicate ((m)) Nd.zero)).length sc5,lV aqF ((List.replicate ((m)) false)).length aqG,lV none 0 0])::(Gj++(wW++[]))):=⟨_,_,_,_,_,_,rfl,HJ,L3,aP.nil⟩
  refine WC.perm (M':=(((qI,aj 145 [lV sa4 ((List.replicate ((m)) Nd.zero)).length sc5,lV aqF ((List.replicate ((m)) false)).length aqG,lV none 0 0])::(Gj++(wW++[])))++[])) (ai.symm.trans ((((oU ((oU ai).trans ai)).trans (dx ai)).cons _).trans ai)) (g9 6 ?_)
  refine WC.loop (X:=(Nat)×MH) (fun k=>[(19,aT k.1),(18,aT m),(4,aq qI)]) (fun k G Ml=>Ml=(k.2++[])∧Ll bU 57 4 3 145 qI G ((List.replicate m Nd.zero,List.replicate m false,eB k.1)) k.2∧k.1≤m) (fun k=>m-k.1) (0,((qI,aj 145 [lV sa4 ((List.replicate ((m)) Nd.zero)).length sc5,lV aqF ((List.replicate ((m)) false)).length aqG,lV none 0 0])::(Gj++(wW++[])))) aZ ?_ ?_
  ·exact⟨rfl,(by exact aMl),aa⟩
  rintro⟨k,M_4⟩ Tu G17 _ rY ⟨rfl,yu,hk⟩
  try dsimp only at yu hk
  refine WC.fr (f:=dO Tu [(19,aT k),(18,aT m),(4,aq qI)]) rfl (g9 6 ?_)
  refine WC.cd (fun gD lX=> ?_) (fun gD lX=> ?_)
  ·refine g9 10 ?_
   refine match yu with|⟨aws,awt,awu,GV,GW,awv,EX,Se,Sf,Sg⟩=> ?_
   subst EX
   refine WC.perm (M':=((qI,aj 145 [aws,awt,awu])::(GV++(GW++(awv++[]))))) ((oU (oU ai)).cons _).symm ?_
   dsimp only at Se Sf Sg
   refine match Se.form with|⟨Kw,Kx,nH⟩=> ?_
   subst nH
   refine match Sf.form with|⟨Ky,Kz,nH⟩=> ?_
   subst nH
   refine match Sg.form with|⟨aMm,aMn,nH⟩=> ?_
   subst nH
   refine g9 7 ?_
   refine W.lit (e:=bY) (l:=[((k:Nat):Int)]) (css:=[[iV _]]) l8 ci kp rfl rfl rfl rfl rfl rfl ⟨⟨rfl,aa,aa⟩,trivial⟩ (fun aW6 G19 jV Fy=>(W.app (e:=bY) l8 ci kp rfl tq rfl rfl ((Sg.mono jV)) (Fy) (ae (dx (dx ai))) (by show(_+1)*8≤_;rw [mA];omega) (fun v20 AG O1=>(W.perm (ae ai).symm ?_))))
   have q26:=O1.form
   refine match q26 with|⟨Nf,Ng,pB⟩=> ?_
   subst pB
   refine g9 6 ?_
   have AI:Ll bU 57 4 3 145 qI G19 (List.replicate m Nd.zero,List.replicate m false,eB (k+1)) ((qI,aj 145 [lV Kw (List.replicate m Nd.zero).length Kx,lV Ky (List.replicate m false).length Kz,lV Nf ((eB k++[((k:Nat):Int)])).length Ng])::(GV++(GW++AG))):=⟨_,_,_,_,_,_,rfl,(Se.mono jV),(Sf.mono jV),(by rw [HW];exact O1)⟩
   refine WC.perm (M':=(((qI,aj 145 [lV Kw (List.replicate m Nd.zero).length Kx,lV Ky (List.replicate m false).length Kz,lV Nf ((eB k++[((k:Nat):Int)])).length Ng])::(GV++(GW++AG)))++[])) (ai.symm.trans ((((oU ((oU ai).trans (dx ai))).trans (dx ai)).cons _).trans ai)) (g9 5 ?_)
   exact⟨jV,(k+1,((qI,aj 145 [lV Kw (List.replicate m Nd.zero).length Kx,lV Ky (List.replicate m false).length Kz,lV Nf ((eB k++[((k:Nat):Int)])).length Ng])::(GV++(GW++AG)))),aZ,⟨rfl,(by exact AI),aa⟩,aa⟩
  refine g9 6 ?_
  obtain rfl:k=m:=by omega
  refine match yu with|⟨aww,awx,awy,Dn,Dp,af2,EX,Sh,Si,Sj⟩=> ?_
  subst EX
  refine WC.perm (M':=((qI,aj 145 [aww,awx,awy])::(Dn++(Dp++(af2++[]))))) ((oU (oU ai)).cons _).symm ?_
  dsimp only at Sh Si Sj
  refine match Sh.form with|⟨yT,yU,nH⟩=> ?_
  subst nH
  refine match Si.form with|⟨yV,yW,nH⟩=> ?_
  subst nH
  refine match Sj.form with|⟨aqH,aqI,nH⟩=> ?_
  subst nH
  refine g9 4 ?_
  refine W.ok (GU aar rfl) (W.call (Mp:=((qI,aj 145 [lV yT (List.replicate k Nd.zero).length yU,lV yV (List.replicate k false).length yW,lV aqH (eB k).length aqI])::af2)) (Mr:=(Dn++(Dp++[]))) (O0 (yS (b:=qI) (Tb:=145) (c0:=lV yT (List.replicate k Nd.zero).length yU) (c1:=lV yV (List.replicate k false).length yW)) ⟨_,_,rfl,Sj⟩ (vj k) (by rw [mA];omega)) rfl (((dx (dx ai)).cons _).trans ai) ?_)
  intro v32 T2 tC jM q30
  refine match q30 with|⟨I4,⟨aQa,Sk,Kg,af3⟩⟩=> ?_
  subst I4
  subst Kg
  have q37:=af3.form
  refine match q37 with|⟨Sl,Sm,WA⟩=> ?_
  subst WA
  refine W.perm (M':=((qI,aj 145 [lV yT (List.replicate k Nd.zero).length yU,lV yV (List.replicate k false).length yW,lV Sl (eB k).length Sm])::(Sk++(Dn++(Dp++[]))))) ((ai.cons _).trans ai).symm (g9 9 ?_)
  refine WC.perm (M':=((qI,aj 145 [lV yT (List.replicate k Nd.zero).length yU,lV yV (List.replicate k false).length yW,lV Sl (eB k).length Sm])::(Dn++(Dp++(Sk++[]))))) (((List.Perm.append_left _ ((List.Perm.append_left _ ((List.Perm.append_left _ ai).trans ai)).trans (dx ai))).trans (dx ai)).cons _) (WC.ret ?_)
  refine⟨.inr rfl,[_,_],⟨rfl,rfl,trivial⟩,((qI,aj 145 [lV yT (List.replicate k Nd.zero).length yU,lV yV (List.replicate k false).length yW,lV Sl (eB k).length Sm])::(Dn++(Dp++(Sk++[])))),bi.k9,?_⟩
  exact .inr ⟨aa,_,rfl,kN.cast (st:=(List.replicate k Nd.zero,List.replicate k false)) ⟨_,⟨_,_,_,_,_,_,rfl,(Sh.mono jM),(Si.mono jM),af3⟩,by simp,by simp;omega,vj k,List.Perm.of_eq (HX k)⟩ (by simp) (by simp)⟩
 refine W.Jc (e:=sR) (a0:=false) (n:=(m)) D0 H3 zr4 rfl by4 (rfl) rfl rfl (by first|(show _*152≤140737488355328;omega)|(show _*10≤16777216;omega)|(show _*1≤140737488355328;omega)|(show _*1≤16777216;omega)) (by first|(show _*152≤140737488355328;omega)|(show _*10≤16777216;omega)|(show _*1≤140737488355328;omega)|(show _*1≤16777216;omega)) (fun v38 sD AK=> ?_)
 have Jd:=AK.form
 refine match Jd with|⟨aqJ,aqK,yv⟩=> ?_
 subst yv
 refine W.nn (WD.a1 1 rfl (W.Jc (e:=bU) (a0:=Nd.zero) (n:=(m)) eY cU bq rfl B1 (⟨_,_,_,_,_,_,_,_,rfl,ax.nil,ax.nil,ax.nil,ax.nil,Nd.c6⟩) rfl rfl (by first|(show _*152≤140737488355328;omega)|(show _*10≤16777216;omega)|(show _*1≤140737488355328;omega)|(show _*1≤16777216;omega)) (by first|(show _*152≤140737488355328;omega)|(show _*10≤16777216;omega)|(show _*1≤140737488355328;omega)|(show _*1≤16777216;omega)) (fun v45 ND afp=> ?_)))
 have q51:=afp.form
 refine match q51 with|⟨aqL,aqM,aqN⟩=> ?_
 subst aqN
 refine W.nn (WD.tk 4 rfl (aM (L:=[lV _ _ _,lV _ _ _,lV _ _ _]) ak0 akZ rfl rfl rfl) (WD.a1 5 rfl (W.box (L:=[lV _ _ _,lV _ _ _,lV _ _ _]) rfl rfl (fun sZ=>(W.nn (d9 [6] ?_))))))
 refine g9 4 ?_
 have aqo:Ll bU 57 4 3 145 sZ G (List.replicate m Nd.zero,List.replicate m false,eB 0) ((sZ,aj 145 [lV aqL ((List.replicate ((m)) Nd.zero)).length aqM,lV aqJ ((List.replicate ((m)) false)).length aqK,lV none 0 0])::(ND++(sD++[]))):=⟨_,_,_,_,_,_,rfl,afp,AK,aP.nil⟩
 refine WC.perm (M':=(((sZ,aj 145 [lV aqL ((List.replicate ((m)) Nd.zero)).length aqM,lV aqJ ((List.replicate ((m)) false)).length aqK,lV none 0 0])::(ND++(sD++[])))++[])) (ai.symm.trans ((((oU ((oU ai).trans ai)).trans ai).cons _).trans ai)) (g9 6 ?_)
 refine WC.loop (X:=(Nat)×MH) (fun k=>[(19,aT k.1),(18,aT m),(4,aq sZ)]) (fun k G Ml=>Ml=(k.2++[])∧Ll bU 57 4 3 145 sZ G ((List.replicate m Nd.zero,List.replicate m false,eB k.1)) k.2∧k.1≤m) (fun k=>m-k.1) (0,((sZ,aj 145 [lV aqL ((List.replicate ((m)) Nd.zero)).length aqM,lV aqJ ((List.replicate ((m)) false)).length aqK,lV none 0 0])::(ND++(sD++[])))) aZ ?_ ?_
 ·exact⟨rfl,(by exact aqo),aa⟩
 rintro⟨k,M_4⟩ akC G54 _ L5 ⟨rfl,yu,hk⟩
 try dsimp only at yu hk
 refine WC.fr (f:=dO akC [(19,aT k),(18,aT m),(4,aq sZ)]) rfl (g9 6 ?_)
 refine WC.cd (fun gD lX=> ?_) (fun gD lX=> ?_)
 ·refine g9 10 ?_
  refine match yu with|⟨awz,awA,awB,GX,GZ,awC,EX,Sn,So,Sp⟩=> ?_
  subst EX
  refine WC.perm (M':=((sZ,aj 145 [awz,awA,awB])::(GX++(GZ++(awC++[]))))) ((oU (oU ai)).cons _).symm ?_
  dsimp only at Sn So Sp
  refine match Sn.form with|⟨KA,KB,nH⟩=> ?_
  subst nH
  refine match So.form with|⟨KC,KD,nH⟩=> ?_
  subst nH
  refine match Sp.form with|⟨aMo,aMp,nH⟩=> ?_
  subst nH
  refine g9 7 ?_
  refine W.lit (e:=bY) (l:=[((k:Nat):Int)]) (css:=[[iV _]]) l8 ci kp rfl rfl rfl rfl rfl rfl ⟨⟨rfl,aa,aa⟩,trivial⟩ (fun aKo G56 AE FX=>(W.app (e:=bY) l8 ci kp rfl tq rfl rfl ((Sp.mono AE)) (FX) (ae (dx (dx ai))) (by show(_+1)*8≤_;rw [mA];omega) (fun v57 AF Nz=>(W.perm (ae ai).symm ?_))))
  have q63:=Nz.form
  refine match q63 with|⟨aqO,aqP,amr⟩=> ?_
  subst amr
  refine g9 6 ?_
  have aMq:Ll bU 57 4 3 145 sZ G56 (List.replicate m Nd.zero,List.replicate m false,eB (k+1)) ((sZ,aj 145 [lV KA (List.replicate m Nd.zero).length KB,lV KC (List.replicate m false).length KD,lV aqO ((eB k++[((k:Nat):Int)])).length aqP])::(GX++(GZ++AF))):=⟨_,_,_,_,_,_,rfl,(Sn.mono AE),(So.mono AE),(by rw [HW];exact Nz)⟩
  refine WC.perm (M':=(((sZ,aj 145 [lV KA (List.replicate m Nd.zero).length KB,lV KC (List.replicate m false).length KD,lV aqO ((eB k++[((k:Nat):Int)])).length aqP])::(GX++(GZ++AF)))++[])) (ai.symm.trans ((((oU ((oU ai).trans (dx ai))).trans (dx ai)).cons _).trans ai)) (g9 5 ?_)
  exact⟨AE,(k+1,((sZ,aj 145 [lV KA (List.replicate m Nd.zero).length KB,lV KC (List.replicate m false).length KD,lV aqO ((eB k++[((k:Nat):Int)])).length aqP])::(GX++(GZ++AF)))),aZ,⟨rfl,(by exact aMq),aa⟩,aa⟩
 refine g9 6 ?_
 obtain rfl:k=m:=by omega
 refine match yu with|⟨awD,awE,awF,Dq,Dr,af4,EX,Sq,Sr,Ss⟩=> ?_
 subst EX
 refine WC.perm (M':=((sZ,aj 145 [awD,awE,awF])::(Dq++(Dr++(af4++[]))))) ((oU (oU ai)).cons _).symm ?_
 dsimp only at Sq Sr Ss
 refine match Sq.form with|⟨yX,yY,nH⟩=> ?_
 subst nH
 refine match Sr.form with|⟨yZ,za,nH⟩=> ?_
 subst nH
 refine match Ss.form with|⟨aqQ,aqR,nH⟩=> ?_
 subst nH
 refine g9 4 ?_
 refine W.ok (GU aar rfl) (W.call (Mp:=((sZ,aj 145 [lV yX (List.replicate k Nd.zero).length yY,lV yZ (List.replicate k false).length za,lV aqQ (eB k).length aqR])::af4)) (Mr:=(Dq++(Dr++[]))) (O0 (yS (b:=sZ) (Tb:=145) (c0:=lV yX (List.replicate k Nd.zero).length yY) (c1:=lV yZ (List.replicate k false).length za)) ⟨_,_,rfl,Ss⟩ (vj k) (by rw [mA];omega)) rfl (((dx (dx ai)).cons _).trans ai) ?_)
 intro v69 G66 aeO CZ q67
 refine match q67 with|⟨JO,⟨aQb,St,Jb,af5⟩⟩=> ?_
 subst JO
 subst Jb
 have q74:=af5.form
 refine match q74 with|⟨Su,Sv,amt⟩=> ?_
 subst amt
 refine W.perm (M':=((sZ,aj 145 [lV yX (List.replicate k Nd.zero).length yY,lV yZ (List.replicate k false).length za,lV Su (eB k).length Sv])::(St++(Dq++(Dr++[]))))) ((ai.cons _).trans ai).symm (g9 9 ?_)
 refine WC.perm (M':=((sZ,aj 145 [lV yX (List.replicate k Nd.zero).length yY,lV yZ (List.replicate k false).length za,lV Su (eB k).length Sv])::(Dq++(Dr++(St++[]))))) (((List.Perm.append_left _ ((List.Perm.append_left _ ((List.Perm.append_left _ ai).trans ai)).trans (dx ai))).trans (dx ai)).cons _) (WC.ret ?_)
 refine⟨.inr rfl,[_,_],⟨rfl,rfl,trivial⟩,((sZ,aj 145 [lV yX (List.replicate k Nd.zero).length yY,lV yZ (List.replicate k false).length za,lV Su (eB k).length Sv])::(Dq++(Dr++(St++[])))),bi.k9,?_⟩
 exact .inr ⟨aa,_,rfl,kN.cast (st:=(List.replicate k Nd.zero,List.replicate k false)) ⟨_,⟨_,_,_,_,_,_,rfl,(Sq.mono CZ),(Sr.mono CZ),af5⟩,by simp,by simp;omega,vj k,List.Perm.of_eq (HX k)⟩ (by simp) (by simp)⟩

variable {M:MH} {cs:List Value}
theorem azd{st:List Nd×List Bool}(h:kN bU 57 4 3 145 b G st M)(i:Int)(hx:ba G cs x):Fc Tryz.prog 97 [aq b,iV i,.agg (List.toArray cs)] G M (fun v G' M'=>v=iV (qP st i x).1∧kN bU 57 4 3 145 b G' (qP st i x).2 M'):=by
  have h0:=h
  obtain⟨f,⟨vc,vu,vf,Mc,Mu,Mf,rfl,h1,h2,h3⟩,h4,h5,h6,h7⟩:=h
  exact aiT h1 h2 h3 i hx h4 h5 h6 h7
theorem alJ{st:List Nd×List Bool}(h:kN bU 57 4 3 145 b G st M)(hx:ba G cs x):Fc Tryz.prog 96 [aq b,.agg (List.toArray cs)] G M (fun v G' M'=>v=.tuple #[iV (eI st x).1.1,iV (eI st x).1.2]∧kN bU 57 4 3 145 b G' (eI st x).2 M'):=by
  have h0:=h
  obtain⟨f,⟨vc,vu,vf,Mc,Mu,Mf,rfl,h1,h2,h3⟩,h4,h5,h6,h7⟩:=h
  exact YB h1 h2 h3 hx h4 h5 h6 h7
theorem aze{st:List Nd×List Bool}(h:kN bU 57 4 3 145 b G st M)(i:Int):Fc Tryz.prog 79 [aq b,iV i] G M (fun v G' M'=>(∃cs,v=.tuple #[.agg (List.toArray cs),.bool (ky st.2 i)]∧ba G' cs (wv st i Nd.zero))∧M'=M):=by
  have h0:=h
  obtain⟨f,⟨vc,vu,vf,Mc,Mu,Mf,rfl,h1,h2,h3⟩,h4,h5,h6,h7⟩:=h
  exact(aiU h1 h2 h3 i h4).mono fun v G' M' hl ⟨cs,e1,e2,e3⟩=>⟨⟨cs,e1,e2⟩,e3⟩
theorem aut{st:List Nd×List Bool}(h:kN bU 57 4 3 145 b G st M)  :Fc Tryz.prog 143 [aq b] G M (fun v G' M'=>v=iV ((iM st.2).length:Int)∧M'=M):=by
  have h0:=h
  obtain⟨f,⟨vc,vu,vf,Mc,Mu,Mf,rfl,h1,h2,h3⟩,h4,h5,h6,h7⟩:=h
  exact(acR h1 h2 h3 h4 h5 h6 h7).mono fun v G' M' hl hq=>hq
theorem auu{st:List Nd×List Bool}(h:kN bU 57 4 3 145 b G st M)  :Fc Tryz.prog 45 [aq b] G M (fun v G' M'=>ax bY G' v (kz st.2)∧M'=M):=by
  have h0:=h
  obtain⟨f,⟨vc,vu,vf,Mc,Mu,Mf,rfl,h1,h2,h3⟩,h4,h5,h6,h7⟩:=h
  exact(acS h1 h2 h3 h4 h5 h6 h7).mono fun v G' M' hl hq=>hq
variable {mR:Value}
theorem rv{a:List ah}(dM:ax dg G mR a):
    Fc Tryz.prog 119 [mR] G [] (fun v G' M'=>M'=[]∧∃u0,v=u0∧ax dg G' u0 (a)):=by
 obtain⟨pb,pd,rfl⟩:=dM.form
 have ha:=dM.bytes
 refine Fc.go [.tmp 2] Tryz.func119 Tryz.ntmps119 rfl (fun w0=>(g9 9 ?_))
 refine W.ok (kx dt rfl rfl) (g9 2 ?_)
 refine WC.cond rfl (fun h4=> ?_) (fun h4=> ?_)
 ·have hn:=ax.isNone dM h4
  subst hn
  refine g9 8 ?_
  refine⟨rfl,_,rfl,?_⟩
  ·exact ax.nil
 refine g9 4 ?_
 refine W.mz (e:=dg) dt ft vk rfl (fun v1 Gj HJ=>(W.mv (W.app (e:=dg) dt ft vk rfl Hq rfl rfl (HJ) (dM) ai (by simpa using ha) (fun v4 Ms5 ho6=>(g9 3 ?_)))))
 refine WC.cm ho6 ai (fun G7 DW Ai=>(g9 2 ?_))
 refine⟨rfl,_,rfl,?_⟩
 ·exact Ai

theorem ry{a:List Int}(dM:ax bY G mR a):
    Fc Tryz.prog 120 [mR] G [] (fun v G' M'=>M'=[]∧∃u0,v=u0∧ax bY G' u0 (a)):=by
 obtain⟨pb,pd,rfl⟩:=dM.form
 have ha:=dM.bytes
 refine Fc.go [.tmp 2] Tryz.func120 Tryz.ntmps120 rfl (fun w0=>(g9 9 ?_))
 refine W.ok (kx cq rfl rfl) (g9 2 ?_)
 refine WC.cond rfl (fun h4=> ?_) (fun h4=> ?_)
 ·have hn:=ax.isNone dM h4
  subst hn
  refine g9 8 ?_
  refine⟨rfl,_,rfl,?_⟩
  ·exact ax.nil
 refine g9 4 ?_
 refine W.mz (e:=bY) cq ci kp rfl (fun v8 wW L3=>(W.mv (W.app (e:=bY) cq ci kp rfl tq rfl rfl (L3) (dM) ai (by simpa using ha) (fun v11 AJ ap8=>(g9 3 ?_)))))
 refine WC.cm ap8 ai (fun G14 nS HO=>(g9 2 ?_))
 refine⟨rfl,_,rfl,?_⟩
 ·exact HO

theorem fK{tZ:List Value}{a:Nd}(dM:ba G tZ a):
    Fc Tryz.prog 80 [.agg (List.toArray tZ)] G [] (fun v G' M'=>M'=[]∧∃u0,v=.agg (List.toArray u0)∧ba G' u0 (a)):=by
 obtain⟨_,_,_,_,_,_,_,_,rfl,gK,gL,fG,fR,eW⟩:=dM
 refine Fc.go [.cell 2 57] Tryz.func80 Tryz.ntmps80 rfl (fun w0=>(g9 2 ?_))
 refine W.box (L:=[iV _,iV _,lV _ _ _,lV _ _ _,sV _,.bool _,iV _,iV _,lV _ _ _,lV _ _ _]) rfl rfl (fun qI=>(W.alloc bq (fun b16=>(g9 3 ?_))))
 refine WC.dw ((bi.cons _).k9) (d9 [0,3] ?_)
 refine WD.any [1,4] (by kernel_rfl) rfl ⟨WD.ap ?_,WD.ap ?_,trivial⟩
 ·refine g9 1 ?_
  refine W.nn ?_
  refine WD.any [2,4] (by kernel_rfl) rfl ⟨WD.ap ?_,WD.ap ?_,trivial⟩
  ·refine W.cS (rv gK) rfl (fun anw anx G17 rY yw=>(W.nn (WD.a1 4 rfl (g9 1 ?_))))
   refine W.nn (d9 [6] ?_)
   refine WD.a1 5 rfl (W.cS (ry (gL.mono rY)) rfl (fun aMr aMs G24 xC TU=>(W.nn (d9 [7,8,9] ?_))))
   refine g9 3 ?_
   refine WC.dw ((bi.cons _).k9) (d9 [0,3] ?_)
   refine WD.any [1,4] (by kernel_rfl) rfl ⟨WD.ap ?_,WD.ap ?_,trivial⟩
   ·refine g9 1 ?_
    refine W.nn ?_
    refine WD.any [2,4] (by kernel_rfl) rfl ⟨WD.ap ?_,WD.ap ?_,trivial⟩
    ·refine W.cS (gF (fG.mono aS)) rfl (fun aMt aMu G31 axt VK=>(W.nn (WD.a1 4 rfl (g9 1 ?_))))
     refine W.nn (d9 [6] ?_)
     refine WD.a1 5 rfl (W.cS (gE (fR.mono aS)) rfl (fun X5 X6 TX kV C6=>(W.nn (d9 [7,8,9] ?_))))
     refine g9 10 ?_
     refine⟨rfl,_,rfl,?_⟩
     ·exact⟨_,_,_,_,_,_,_,_,rfl,(yw.mono aS),(TU.mono aS),(VK.mono kV),C6,(by assumption)⟩
    refine g9 1 ?_
    refine W.nn (WD.a1 2 rfl (W.cS (gF (fG.mono aS)) rfl (fun aMv aMw G45 axu HR=>(W.nn (d9 [6] ?_)))))
    refine WD.a1 5 rfl (W.cS (gE (fR.mono aS)) rfl (fun aMx aMy G52 afu akB=>(W.nn (d9 [7,8,9] ?_))))
    refine g9 10 ?_
    refine⟨rfl,_,rfl,?_⟩
    ·exact⟨_,_,_,_,_,_,_,_,rfl,(yw.mono aS),(TU.mono aS),(HR.mono afu),akB,(by assumption)⟩
   refine g9 1 ?_
   refine W.nn (WD.a1 1 rfl (g9 1 ?_))
   refine W.nn (WD.a1 2 rfl (W.cS (gF (fG.mono aS)) rfl (fun aMz aMA G59 axY W1=>(W.nn (d9 [6] ?_)))))
   refine WD.a1 5 rfl (W.cS (gE (fR.mono aS)) rfl (fun VO VP G66 CZ FU=>(W.nn (d9 [7,8,9] ?_))))
   refine g9 10 ?_
   refine⟨rfl,_,rfl,?_⟩
   ·exact⟨_,_,_,_,_,_,_,_,rfl,(yw.mono aS),(TU.mono aS),(W1.mono CZ),FU,(by assumption)⟩
  refine g9 1 ?_
  refine W.nn (WD.a1 2 rfl (W.cS (rv gK) rfl (fun aMB aMC G73 CT aqS=>(W.nn (d9 [6] ?_)))))
  refine WD.a1 5 rfl (W.cS (ry (gL.mono CT)) rfl (fun aMD aME G80 aW7 aqT=>(W.nn (d9 [7,8,9] ?_))))
  refine g9 3 ?_
  refine WC.dw ((bi.cons _).k9) (d9 [0,3] ?_)
  refine WD.any [1,4] (by kernel_rfl) rfl ⟨WD.ap ?_,WD.ap ?_,trivial⟩
  ·refine g9 1 ?_
   refine W.nn ?_
   refine WD.any [2,4] (by kernel_rfl) rfl ⟨WD.ap ?_,WD.ap ?_,trivial⟩
   ·refine W.cS (gF (fG.mono aS)) rfl (fun aMF aMG G87 ayn anD=>(W.nn (WD.a1 4 rfl (g9 1 ?_))))
    refine W.nn (d9 [6] ?_)
    refine WD.a1 5 rfl (W.cS (gE (fR.mono aS)) rfl (fun aMH aMI G94 wL aMJ=>(W.nn (d9 [7,8,9] ?_))))
    refine g9 10 ?_
    refine⟨rfl,_,rfl,?_⟩
    ·exact⟨_,_,_,_,_,_,_,_,rfl,(aqS.mono aS),(aqT.mono aS),(anD.mono wL),aMJ,(by assumption)⟩
   refine g9 1 ?_
   refine W.nn (WD.a1 2 rfl (W.cS (gF (fG.mono aS)) rfl (fun aFZ aF0 aW8 aSl aCN=>(W.nn (d9 [6] ?_)))))
   refine WD.a1 5 rfl (W.cS (gE (fR.mono aS)) rfl (fun aF1 aF2 axV JU acT=>(W.nn (d9 [7,8,9] ?_))))
   refine g9 10 ?_
   refine⟨rfl,_,rfl,?_⟩
   ·exact⟨_,_,_,_,_,_,_,_,rfl,(aqS.mono aS),(aqT.mono aS),(aCN.mono JU),acT,(by assumption)⟩
  refine g9 1 ?_
  refine W.nn (WD.a1 1 rfl (g9 1 ?_))
  refine W.nn (WD.a1 2 rfl (W.cS (gF (fG.mono aS)) rfl (fun aF3 aF4 aJg Jx aCO=>(W.nn (d9 [6] ?_)))))
  refine WD.a1 5 rfl (W.cS (gE (fR.mono aS)) rfl (fun aF5 aF6 aW9 aCP aCQ=>(W.nn (d9 [7,8,9] ?_))))
  refine g9 10 ?_
  refine⟨rfl,_,rfl,?_⟩
  ·exact⟨_,_,_,_,_,_,_,_,rfl,(aqS.mono aS),(aqT.mono aS),(aCO.mono aCP),aCQ,(by assumption)⟩
 refine g9 1 ?_
 refine W.nn (WD.a1 1 rfl (g9 1 ?_))
 refine W.nn (WD.a1 2 rfl (W.cS (rv gK) rfl (fun aF7 aF8 aXa aCR acU=>(W.nn (d9 [6] ?_)))))
 refine WD.a1 5 rfl (W.cS (ry (gL.mono aCR)) rfl (fun aF9 aGa axN Ra acV=>(W.nn (d9 [7,8,9] ?_))))
 refine g9 3 ?_
 refine WC.dw ((bi.cons _).k9) (d9 [0,3] ?_)
 refine WD.any [1,4] (by kernel_rfl) rfl ⟨WD.ap ?_,WD.ap ?_,trivial⟩
 ·refine g9 1 ?_
  refine W.nn ?_
  refine WD.any [2,4] (by kernel_rfl) rfl ⟨WD.ap ?_,WD.ap ?_,trivial⟩
  ·refine W.cS (gF (fG.mono aS)) rfl (fun aGb aGc aMK aCS abP=>(W.nn (WD.a1 4 rfl (g9 1 ?_))))
   refine W.nn (d9 [6] ?_)
   refine WD.a1 5 rfl (W.cS (gE (fR.mono aS)) rfl (fun aGd aGe aXb aCT aCU=>(W.nn (d9 [7,8,9] ?_))))
   refine g9 10 ?_
   refine⟨rfl,_,rfl,?_⟩
   ·exact⟨_,_,_,_,_,_,_,_,rfl,(acU.mono aS),(acV.mono aS),(abP.mono aCT),aCU,(by assumption)⟩
  refine g9 1 ?_
  refine W.nn (WD.a1 2 rfl (W.cS (gF (fG.mono aS)) rfl (fun aGf aGg aXc aSm aCV=>(W.nn (d9 [6] ?_)))))
  refine WD.a1 5 rfl (W.cS (gE (fR.mono aS)) rfl (fun aGh aGi ax2 RL aCW=>(W.nn (d9 [7,8,9] ?_))))
  refine g9 10 ?_
  refine⟨rfl,_,rfl,?_⟩
  ·exact⟨_,_,_,_,_,_,_,_,rfl,(acU.mono aS),(acV.mono aS),(aCV.mono RL),aCW,(by assumption)⟩
 refine g9 1 ?_
 refine W.nn (WD.a1 1 rfl (g9 1 ?_))
 refine W.nn (WD.a1 2 rfl (W.cS (gF (fG.mono aS)) rfl (fun aGj aGk aXd aSn aCX=>(W.nn (d9 [6] ?_)))))
 refine WD.a1 5 rfl (W.cS (gE (fR.mono aS)) rfl (fun aGl aGm aXe aCY aCZ=>(W.nn (d9 [7,8,9] ?_))))
 refine g9 10 ?_
 refine⟨rfl,_,rfl,?_⟩
 ·exact⟨_,_,_,_,_,_,_,_,rfl,(acU.mono aS),(acV.mono aS),(aCX.mono aCY),aCZ,(by assumption)⟩

variable {jn:List Value}
theorem Nw{n:Nd}(ru:ba G jn n)(i:Nat)(k:ah)(nv:Int)(hz:n.ab.length≤1000000∧n.kids.length≤1000000)(hi:i64 ((i:Nat):Int))(hv:i64 nv):
    Fc Tryz.prog 167 [.agg (List.toArray jn),aT i,sV k.b,iV nv] G [] (fun v G' M'=>M'=[]∧∃r:Nd×Bool,r=fE n i k nv∧∃u0,v=.tuple #[.agg (List.toArray u0),.bool (r.2)]∧ba G' u0 (r.1)):=by
 obtain⟨_,_,_,_,_,_,_,_,rfl,cZ,dJ,dZ,dB,cQ⟩:=ru
 have h1:=cZ.aH
 have h2:=dJ.aH
 have h3:=dZ.aH
 have h4:=dB.aH
 obtain⟨Sa,hz2⟩:=hz
 have TG:=hv.1
 have RM:=hv.2
 have pV:=hi.1
 have gS:=hi.2
 have b1:n.ab.length*16≤140737488355328:=cZ.bytes
 have b2:n.kids.length*8≤140737488355328:=dJ.bytes
 refine Fc.go [.cell 8 57,.tmp 9] Tryz.func167 Tryz.ntmps167 rfl (fun w0=>(g9 2 ?_))
 refine W.box (L:=[iV _,iV _,lV _ _ _,lV _ _ _,sV _,.bool _,iV _,iV _,lV _ _ _,lV _ _ _]) rfl rfl (fun aXf=>(W.alloc bq (fun aXg=>(g9 11 ?_))))
 refine WC.cd (fun lW nM=> ?_) (fun lW nM=> ?_)
 ·refine g9 2 ?_
  refine W.ok (aM (L:=[iV _,iV _,lV _ _ _,lV _ _ _,sV _,.bool _,iV _,iV _,lV _ _ _,lV _ _ _]) ij bq rfl rfl rfl) (g9 7 ?_)
  refine⟨rfl,_,(mF (.inl nM)).symm,_,rfl,?_⟩
  ·exact⟨_,_,_,_,_,_,_,_,rfl,ax.nil,ax.nil,ax.nil,ax.nil,Nd.c6⟩
 refine g9 11 ?_
 refine W.call (Mp:=[]) (ap9 cZ dJ _ _ _ (by first|assumption|omega|(simp;omega)) (by first|assumption|omega|(simp;omega)) (by first|assumption|exact⟨aa,aa⟩) (by assumption)) rfl ai ?_
 intro _ aXh _ aC0 aoY
 refine match aoY with|⟨aC1,_,aC2,_,_,abo,aqU,aqV⟩=> ?_
 subst aC1
 subst aC2
 subst abo
 have aML:=aqU.form
 refine match aML with|⟨aGn,aGo,JA⟩=> ?_
 subst JA
 have Wk:=aqV.form
 refine match Wk with|⟨aGp,aGq,abp⟩=> ?_
 subst abp
 refine g9 15 ?_
 refine WC.cd (fun jJ vV=> ?_) (fun jJ vV=> ?_)
 ·refine g9 2 ?_
  refine W.ok (aM (L:=[iV _,iV _,lV _ _ _,lV _ _ _,sV _,.bool _,iV _,iV _,lV _ _ _,lV _ _ _]) ij bq rfl rfl rfl) (g9 7 ?_)
  refine⟨rfl,_,(mF (.inr aa)).symm,_,rfl,?_⟩
  ·exact⟨_,_,_,_,_,_,_,_,rfl,ax.nil,ax.nil,ax.nil,ax.nil,Nd.c6⟩
 refine g9 5 ?_
 refine W.cN (fK (fy aC0 cZ dJ dZ dB cQ)) rfl (fun _ _ _ _ _ _ _ _ aJq abq aGr aGs aiV aiW aC3=>(W.alloc bq (fun aXi=>(g9 22 ?_))))
 refine⟨rfl,_,(MD nM aa).symm,_,rfl,?_⟩
 ·exact⟨_,_,_,_,_,_,_,_,rfl,(aqU.mono abq),(aqV.mono abq),aiV,aiW,cQ⟩

theorem aiX{n:Nd}(ru:ba G jn n)(i:Nat)(k:ah)(nv:Int)(hz:n.ab.length≤1000000∧n.kids.length≤1000000)(hi:i64 ((i:Nat):Int))(hv:i64 nv):
    Fc Tryz.prog 130 [.agg (List.toArray jn),aT i,sV k.b,iV nv] G [] (fun v G' M'=>M'=[]∧∃r:Nd×Bool,r=fE n i k nv∧∃u0,v=.tuple #[.agg (List.toArray u0),.bool (r.2)]∧ba G' u0 (r.1)):=by
 obtain⟨_,_,_,_,_,_,_,_,rfl,cZ,dJ,dZ,dB,cQ⟩:=ru
 have h1:=cZ.aH
 have h2:=dJ.aH
 have h3:=dZ.aH
 have h4:=dB.aH
 obtain⟨Sa,hz2⟩:=hz
 have TG:=hv.1
 have RM:=hv.2
 have pV:=hi.1
 have gS:=hi.2
 have b1:n.ab.length*16≤140737488355328:=cZ.bytes
 have b2:n.kids.length*8≤140737488355328:=dJ.bytes
 refine Fc.go [.cell 8 57,.tmp 9] Tryz.func130 Tryz.ntmps130 rfl (fun w0=>(g9 2 ?_))
 refine W.box (L:=[iV _,iV _,lV _ _ _,lV _ _ _,sV _,.bool _,iV _,iV _,lV _ _ _,lV _ _ _]) rfl rfl (fun aXj=>(W.alloc bq (fun aXk=>(g9 8 ?_))))
 refine W.ay (oz cZ _ (by first|assumption|exact⟨aa,aa⟩)) rfl (W.alloc dY (fun aXl=>(g9 10 ?_)))
 refine W.sd 19 (fun AW tz=> ?_) (fun AW tz=> ?_)
 ·refine g9 34 ?_
  refine W.ok (aM (L:=[iV _,iV _,lV _ _ _,lV _ _ _,sV _,.bool _,iV _,iV _,lV _ _ _,lV _ _ _]) ij bq rfl rfl rfl) (g9 7 ?_)
  refine⟨rfl,_,(mF (.inl tz)).symm,_,rfl,?_⟩
  ·exact⟨_,_,_,_,_,_,_,_,rfl,ax.nil,ax.nil,ax.nil,ax.nil,Nd.c6⟩
 refine g9 6 ?_
 refine W.sd 23 (fun mS Ce=> ?_) (fun mS Ce=> ?_)
 ·exfalso;omega
 refine g9 12 ?_
 refine W.sd 30 (fun wT pO=> ?_) (fun wT pO=> ?_)
 ·refine g9 23 ?_
  refine W.ok (aM (L:=[iV _,iV _,lV _ _ _,lV _ _ _,sV _,.bool _,iV _,iV _,lV _ _ _,lV _ _ _]) ij bq rfl rfl rfl) (g9 7 ?_)
  refine⟨rfl,_,(mF (.inr (vG (.inl aa)))).symm,_,rfl,?_⟩
  ·exact⟨_,_,_,_,_,_,_,_,rfl,ax.nil,ax.nil,ax.nil,ax.nil,Nd.c6⟩
 refine g9 12 ?_
 refine W.sd 37 (fun Lx p35=> ?_) (fun Lx p35=> ?_)
 ·refine g9 16 ?_
  refine W.ok (aM (L:=[iV _,iV _,lV _ _ _,lV _ _ _,sV _,.bool _,iV _,iV _,lV _ _ _,lV _ _ _]) ij bq rfl rfl rfl) (g9 7 ?_)
  refine⟨rfl,_,(mF (.inr (vG (.inr (.inl (alp aa)))))).symm,_,rfl,?_⟩
  ·exact⟨_,_,_,_,_,_,_,_,rfl,ax.nil,ax.nil,ax.nil,ax.nil,Nd.c6⟩
 refine g9 5 ?_
 refine W.ay (zq _ _ _ _) rfl (g9 4 ?_)
 refine W.sp 43 rfl (fun mT=> ?_) (fun mT=> ?_)
 ·refine g9 10 ?_
  refine W.ok (aM (L:=[iV _,iV _,lV _ _ _,lV _ _ _,sV _,.bool _,iV _,iV _,lV _ _ _,lV _ _ _]) ij bq rfl rfl rfl) (g9 7 ?_)
  refine⟨rfl,_,(mF (.inr (vG (.inr (.inl (by simpa using mT)))))).symm,_,rfl,?_⟩
  ·exact⟨_,_,_,_,_,_,_,_,rfl,ax.nil,ax.nil,ax.nil,ax.nil,Nd.c6⟩
 refine g9 11 ?_
 refine WC.cd (fun pU mV=> ?_) (fun pU mV=> ?_)
 ·refine g9 2 ?_
  refine W.ok (aM (L:=[iV _,iV _,lV _ _ _,lV _ _ _,sV _,.bool _,iV _,iV _,lV _ _ _,lV _ _ _]) ij bq rfl rfl rfl) (g9 7 ?_)
  refine⟨rfl,_,(mF (.inr (vG (.inr (.inr (ah.ext' mV)))))).symm,_,rfl,?_⟩
  ·exact⟨_,_,_,_,_,_,_,_,rfl,ax.nil,ax.nil,ax.nil,ax.nil,Nd.c6⟩
 refine g9 5 ?_
 refine W.alloc bq (fun aXm=>(g9 4 ?_))
 refine WC.dw (((bi.k9.k9).k9).cons _) (d9 [0,1,2,4,7,8,9] ?_)
 have aqW:=ax.slice cZ (lo:=i) (hi:=n.ab.length) aa aa
 refine WD.tk 10 rfl (ok_slice (i) (n.ab.length) dt ft cZ rfl ⟨_,_,rfl,aa⟩ rfl ⟨aa,aa⟩) ?_
 refine WD.any [3,5] (by kernel_rfl) rfl ⟨WD.ap ?_,WD.ap ?_,trivial⟩
 ·refine W.call (Mp:=[]) (Ye cZ 0 _ ⟨aa,aa⟩) rfl ai ?_
  rintro aXn aLa ao0 acm aC4
  refine W.perm (ae (ae (ae (ae ai)))).symm (W.nn (WD.a1 5 rfl (W.lit (e:=dg) (l:=[_]) (css:=[[sV _]]) dt ft vk rfl rfl rfl rfl rfl rfl ⟨rfl,trivial⟩ (fun aSo aXo aqX aC5=>(W.nn (WD.a1 6 rfl (W.app (e:=dg) dt ft vk rfl Hq rfl rfl ((aC4.mono aqX)) (aC5) (ae (ae (ae (ae ai)))) (by simp only [List.length_append,List.length_drop,List.length_take,List.length_cons,List.length_nil]at*;show(_+_)*16≤_;first|omega|(simp;done)|(simp;omega)) (fun aXp aSp aC6=>(W.perm (ae (ae (ae (ae ai)))).symm (W.nn (WD.a1 11 rfl (W.app (e:=dg) dt ft vk rfl Hq rfl rfl (aC6) ((aqW.mono aS)) (ae (ae (ae (ae ai)))) (by simp only [List.length_append,List.length_drop,List.length_take,List.length_cons,List.length_nil]at*;show(_+_)*16≤_;first|omega|(simp;done)|(simp;omega)) (fun aXq aqY aC7=>(W.perm (ae (ae (ae (ae ai)))).symm (W.nn (d9 [12] ?_))))))))))))))))
  refine WD.a1 13 rfl (W.cm aC7 (ae (ae (ae (ae ai)))) (fun aXr aC8 aC9=> ?_))
  have acW:=ax.cast aC9 (l':=(n.ab.take i++[k])++n.ab.drop i) (by simp)
  have X1:=acW.form
  refine match X1 with|⟨_,_,aDa⟩=> ?_
  subst aDa
  refine g9 1 ?_
  refine W.nn (g9 3 ?_)
  refine WC.dw (((bi.k9.k9).k9).cons _) (d9 [0,1,2] ?_)
  refine WD.tk 3 rfl (Ok.int (n:=((i+1:Nat):Int)) (db rfl rfl aa) aa) (d9 [5,8,9,10] ?_)
  refine WD.tk 11 rfl (Ok.int (n:=((i+1:Nat):Int)) (db rfl rfl aa) aa) ?_
  have aqZ:=ax.slice (dJ.mono ((acm.trans aqX).trans aC8)) (lo:=i+1) (hi:=n.kids.length) aa aa
  refine WD.tk 12 rfl (ok_slice (i+1) (n.kids.length) cq ci (dJ.mono aS) rfl ⟨_,_,rfl,aa⟩ rfl ⟨aa,aa⟩) ?_
  refine WD.any [4,6] (by kernel_rfl) rfl ⟨WD.ap ?_,WD.ap ?_,trivial⟩
  ·refine W.call (Mp:=[]) (z6 (dJ.mono aS) 0 _ ⟨aa,aa⟩) rfl ai ?_
   rintro aXs aXt aSq aSr aDb
   refine W.perm (ae (ae (ae (ae ai)))).symm (W.nn (WD.a1 6 rfl (W.lit (e:=bY) (l:=[_]) (css:=[[iV _]]) cq ci kp rfl rfl rfl rfl rfl rfl ⟨⟨rfl,aa,aa⟩,trivial⟩ (fun aSs aXu aDc aDd=>(W.nn (WD.a1 7 rfl (W.app (e:=bY) cq ci kp rfl tq rfl rfl ((aDb.mono aDc)) (aDd) (ae (ae (ae (ae ai)))) (by simp only [List.length_append,List.length_drop,List.length_take,List.length_cons,List.length_nil]at*;show(_+_)*8≤_;first|omega|(simp;done)|(simp;omega)) (fun aJt az7 abt=>(W.perm (ae (ae (ae (ae ai)))).symm (W.nn (WD.a1 13 rfl (W.app (e:=bY) cq ci kp rfl tq rfl rfl (abt) ((aqZ.mono aS)) (ae (ae (ae (ae ai)))) (by simp only [List.length_append,List.length_drop,List.length_take,List.length_cons,List.length_nil]at*;show(_+_)*8≤_;first|omega|(simp;done)|(simp;omega)) (fun aXv aq0 aDe=>(W.perm (ae (ae (ae (ae ai)))).symm (W.nn (d9 [14] ?_))))))))))))))))
   refine WD.a1 15 rfl (W.cm aDe (ae (ae (ae (ae ai)))) (fun aXw aSt aDf=> ?_))
   have aq1:=ax.cast aDf (l':=(n.kids.take (i+1)++[nv])++n.kids.drop (i+1)) (by simp)
   have aq2:=aq1.form
   refine match aq2 with|⟨_,_,aDg⟩=> ?_
   subst aDg
   refine g9 1 ?_
   refine W.nn (g9 11 ?_)
   refine⟨rfl,_,(tN tz aa (by simpa using mT) (fun e=>mV (congrArg ah.b e))).symm,_,rfl,?_⟩
   ·exact⟨_,_,_,_,_,_,_,_,rfl,(acW.mono aS),aq1,(dZ.mono aS),(dB.mono aS),cQ⟩
  refine W.lit (e:=bY) (l:=[_]) (css:=[[iV _]]) cq ci kp rfl rfl rfl rfl rfl rfl ⟨⟨rfl,aa,aa⟩,trivial⟩ (fun aSu aLg ao3 aDh=>(W.nn (WD.a1 4 rfl (W.call (Mp:=[]) (z6 (dJ.mono aS) 0 _ ⟨aa,aa⟩) rfl ai ?_))))
  rintro aXx aXy aSv aDi aDj
  refine W.perm (ae (ae (ae (ae ai)))).symm (W.nn (WD.a1 7 rfl (W.app (e:=bY) cq ci kp rfl tq rfl rfl (aDj) ((aDh.mono aDi)) (ae (ae (ae (ae ai)))) (by simp only [List.length_append,List.length_drop,List.length_take,List.length_cons,List.length_nil]at*;show(_+_)*8≤_;first|omega|(simp;done)|(simp;omega)) (fun aXz aSw aDk=>(W.perm (ae (ae (ae (ae ai)))).symm (W.nn (WD.a1 13 rfl (W.app (e:=bY) cq ci kp rfl tq rfl rfl (aDk) ((aqZ.mono aS)) (ae (ae (ae (ae ai)))) (by simp only [List.length_append,List.length_drop,List.length_take,List.length_cons,List.length_nil]at*;show(_+_)*8≤_;first|omega|(simp;done)|(simp;omega)) (fun aXA aq3 aDl=>(W.perm (ae (ae (ae (ae ai)))).symm (W.nn (d9 [14] ?_))))))))))))
  refine WD.a1 15 rfl (W.cm aDl (ae (ae (ae (ae ai)))) (fun aXB aSx aDm=> ?_))
  have aq4:=ax.cast aDm (l':=(n.kids.take (i+1)++[nv])++n.kids.drop (i+1)) (by simp)
  have Wl:=aq4.form
  refine match Wl with|⟨_,_,aDn⟩=> ?_
  subst aDn
  refine g9 1 ?_
  refine W.nn (g9 11 ?_)
  refine⟨rfl,_,(tN tz aa (by simpa using mT) (fun e=>mV (congrArg ah.b e))).symm,_,rfl,?_⟩
  ·exact⟨_,_,_,_,_,_,_,_,rfl,(acW.mono aS),aq4,(dZ.mono aS),(dB.mono aS),cQ⟩
 refine W.lit (e:=dg) (l:=[_]) (css:=[[sV _]]) dt ft vk rfl rfl rfl rfl rfl rfl ⟨rfl,trivial⟩ (fun aSy aLi acp aDo=>(W.nn (WD.a1 3 rfl (W.call (Mp:=[]) (Ye (cZ.mono acp) 0 _ ⟨aa,aa⟩) rfl ai ?_))))
 rintro aXC aXD aSz aq5 aDp
 refine W.perm (ae (ae (ae (ae ai)))).symm (W.nn (WD.a1 6 rfl (W.app (e:=dg) dt ft vk rfl Hq rfl rfl (aDp) ((aDo.mono aq5)) (ae (ae (ae (ae ai)))) (by simp only [List.length_append,List.length_drop,List.length_take,List.length_cons,List.length_nil]at*;show(_+_)*16≤_;first|omega|(simp;done)|(simp;omega)) (fun aXE aq6 aDq=>(W.perm (ae (ae (ae (ae ai)))).symm (W.nn (WD.a1 11 rfl (W.app (e:=dg) dt ft vk rfl Hq rfl rfl (aDq) ((aqW.mono aS)) (ae (ae (ae (ae ai)))) (by simp only [List.length_append,List.length_drop,List.length_take,List.length_cons,List.length_nil]at*;show(_+_)*16≤_;first|omega|(simp;done)|(simp;omega)) (fun aXF aB7 aDr=>(W.perm (ae (ae (ae (ae ai)))).symm (W.nn (d9 [12] ?_))))))))))))
 refine WD.a1 13 rfl (W.cm aDr (ae (ae (ae (ae ai)))) (fun aXG aDs aDt=> ?_))
 have acX:=ax.cast aDt (l':=(n.ab.take i++[k])++n.ab.drop i) (by simp)
 have ao6:=acX.form
 refine match ao6 with|⟨_,_,aDu⟩=> ?_
 subst aDu
 refine g9 1 ?_
 refine W.nn (g9 3 ?_)
 refine WC.dw (((bi.k9.k9).k9).cons _) (d9 [0,1,2] ?_)
 refine WD.tk 3 rfl (Ok.int (n:=((i+1:Nat):Int)) (db rfl rfl aa) aa) (d9 [5,8,9,10] ?_)
 refine WD.tk 11 rfl (Ok.int (n:=((i+1:Nat):Int)) (db rfl rfl aa) aa) ?_
 have aq7:=ax.slice (dJ.mono ((acp.trans aq5).trans aDs)) (lo:=i+1) (hi:=n.kids.length) aa aa
 refine WD.tk 12 rfl (ok_slice (i+1) (n.kids.length) cq ci (dJ.mono aS) rfl ⟨_,_,rfl,aa⟩ rfl ⟨aa,aa⟩) ?_
 refine WD.any [4,6] (by kernel_rfl) rfl ⟨WD.ap ?_,WD.ap ?_,trivial⟩
 ·refine W.call (Mp:=[]) (z6 (dJ.mono aS) 0 _ ⟨aa,aa⟩) rfl ai ?_
  rintro aXH aMM aq8 aDv aDw
  refine W.perm (ae (ae (ae (ae ai)))).symm (W.nn (WD.a1 6 rfl (W.lit (e:=bY) (l:=[_]) (css:=[[iV _]]) cq ci kp rfl rfl rfl rfl rfl rfl ⟨⟨rfl,aa,aa⟩,trivial⟩ (fun aSA aXI aDx aDy=>(W.nn (WD.a1 7 rfl (W.app (e:=bY) cq ci kp rfl tq rfl rfl ((aDw.mono aDx)) (aDy) (ae (ae (ae (ae ai)))) (by simp only [List.length_append,List.length_drop,List.length_take,List.length_cons,List.length_nil]at*;show(_+_)*8≤_;first|omega|(simp;done)|(simp;omega)) (fun aXJ aSB aDz=>(W.perm (ae (ae (ae (ae ai)))).symm (W.nn (WD.a1 13 rfl (W.app (e:=bY) cq ci kp rfl tq rfl rfl (aDz) ((aq7.mono aS)) (ae (ae (ae (ae ai)))) (by simp only [List.length_append,List.length_drop,List.length_take,List.length_cons,List.length_nil]at*;show(_+_)*8≤_;first|omega|(simp;done)|(simp;omega)) (fun aXK aSC aDA=>(W.perm (ae (ae (ae (ae ai)))).symm (W.nn (d9 [14] ?_))))))))))))))))
  refine WD.a1 15 rfl (W.cm aDA (ae (ae (ae (ae ai)))) (fun aXL aSD aDB=> ?_))
  have aq9:=ax.cast aDB (l':=(n.kids.take (i+1)++[nv])++n.kids.drop (i+1)) (by simp)
  have aMN:=aq9.form
  refine match aMN with|⟨_,_,aDC⟩=> ?_
  subst aDC
  refine g9 1 ?_
  refine W.nn (g9 11 ?_)
  refine⟨rfl,_,(tN tz aa (by simpa using mT) (fun e=>mV (congrArg ah.b e))).symm,_,rfl,?_⟩
  ·exact⟨_,_,_,_,_,_,_,_,rfl,(acX.mono aS),aq9,(dZ.mono aS),(dB.mono aS),cQ⟩
 refine W.lit (e:=bY) (l:=[_]) (css:=[[iV _]]) cq ci kp rfl rfl rfl rfl rfl rfl ⟨⟨rfl,aa,aa⟩,trivial⟩ (fun aSE aMO ara aDD=>(W.nn (WD.a1 4 rfl (W.call (Mp:=[]) (z6 (dJ.mono aS) 0 _ ⟨aa,aa⟩) rfl ai ?_))))
 rintro aXM aXN aSF aDE aDF
 refine W.perm (ae (ae (ae (ae ai)))).symm (W.nn (WD.a1 7 rfl (W.app (e:=bY) cq ci kp rfl tq rfl rfl (aDF) ((aDD.mono aDE)) (ae (ae (ae (ae ai)))) (by simp only [List.length_append,List.length_drop,List.length_take,List.length_cons,List.length_nil]at*;show(_+_)*8≤_;first|omega|(simp;done)|(simp;omega)) (fun aXO aSG aDG=>(W.perm (ae (ae (ae (ae ai)))).symm (W.nn (WD.a1 13 rfl (W.app (e:=bY) cq ci kp rfl tq rfl rfl (aDG) ((aq7.mono aS)) (ae (ae (ae (ae ai)))) (by simp only [List.length_append,List.length_drop,List.length_take,List.length_cons,List.length_nil]at*;show(_+_)*8≤_;first|omega|(simp;done)|(simp;omega)) (fun aXP aSH aDH=>(W.perm (ae (ae (ae (ae ai)))).symm (W.nn (d9 [14] ?_))))))))))))
 refine WD.a1 15 rfl (W.cm aDH (ae (ae (ae (ae ai)))) (fun aXQ aSI aDI=> ?_))
 have arb:=ax.cast aDI (l':=(n.kids.take (i+1)++[nv])++n.kids.drop (i+1)) (by simp)
 have aMP:=arb.form
 refine match aMP with|⟨_,_,aDJ⟩=> ?_
 subst aDJ
 refine g9 1 ?_
 refine W.nn (g9 11 ?_)
 refine⟨rfl,_,(tN tz aa (by simpa using mT) (fun e=>mV (congrArg ah.b e))).symm,_,rfl,?_⟩
 ·exact⟨_,_,_,_,_,_,_,_,rfl,(acX.mono aS),arb,(dZ.mono aS),(dB.mono aS),cQ⟩

end Go.Proofs.YtfhnamngaofccaaGreat
