/- The law FlusherAlone: for every input the call returns true. No condition. -/
import Derived.Test.YtfhnamngaofccaaGreatRows
import Derived.OpenShut
import Derived.ShutString
import Derived.ChangeOld
import Derived.Test.YtfhnamngaofccaaGreatQiYo
set_option linter.unusedVariables false
set_option linter.unusedSimpArgs false
set_option linter.unnecessarySimpa false
namespace Go.Proofs.YtfhnamngaofccaaGreat.lawFlusherAlone
open Go Go.Fw Go.ChangeShapes Go.WideShapes Go.ChangeAt Go.RowKit

theorem own:ownKnob Tryz.prog.godebug=none:=by kernel_rfl
theorem laidOut:laidOutB Tryz.prog=true:=by kernel_rfl

set_option maxRecDepth 100000 in
theorem lifted(os:Os)(started:os.Started)(H:Type)(enc:TypeId×Value→H):
    ReturnsInHanded {} Tryz.checked os 3 .any (Rows.flusherAloneSpec.pre6 enc Tryz.prog Tryz.f3 Rows.flusherAloneRow.domain false) (Rows.flusherAloneSpec.post enc Tryz.prog Tryz.f3 false true false false):=by
  refine returnsInHanded_of_change_sized (C:=Tryz.checked) own started (by kernel_rfl) Tryz.func3
    (ChangeSpec.witness6 (enc:=enc) (C:=Tryz.checked) false ⟨#[],#[.agg #[.int .i64 0,.int .i64 0,.int .i64 0,.int .i64 0,.int .i64 0],.slice none 0 0,.string ⟨#[]⟩,.bool false],[]⟩ 12 (by kernel_rfl) (by kernel_rfl) (by kernel_rfl) (by kernel_rfl)) ?_
  intro W base args ds gs before ajW hW aTu hz _
  have Ta:∀(j:Nat) t v,Tryz.f3.params[j]?=some t→args[j]?=some v→Value.okWide Tryz.prog W .any base t v:=ajW
  have hW':=hW
  obtain⟨p,q,hA0,hV,rfl,hfz,m3⟩:=hW
  have hA:DataW.TrodAll enc Tryz.prog W 0 (fun _=>true) true Tryz.f3.params.toList args.toList ds p:=hA0
  rw [Tryz.params3]at hA Ta
  obtain⟨v0,vs0,d0,ds0,p0,q0,aQy,rfl,rfl,h0,r0⟩:=trodAll_cons hA
  obtain⟨v1,vs1,d1,ds1,p1,q1,rfl,rfl,rfl,h1,r1⟩:=trodAll_cons r0
  obtain⟨v2,vs2,d2,ds2,p2,q2,rfl,rfl,rfl,h2,r2⟩:=trodAll_cons r1
  obtain⟨v3,vs3,d3,ds3,p3,q3,rfl,rfl,rfl,h3,r3⟩:=trodAll_cons r2
  obtain⟨rfl,rfl,rfl⟩:=trodAll_nil r3
  obtain rfl:args= #[v0,v1,v2,v3]:=by cases args;simp_all
  obtain⟨rfl,rfl⟩:=trodVars_none hV
  have w0:∀n∈d0.weights Tryz.prog 23,n≤140737488351232:=fun n hn=>by have:=List.all_eq_true.1 hz n (DataW.weights_mem_each (j:=0) rfl rfl n hn);simpa [reachBytes]using of_decide_eq_true this
  have lt0:∀x∈p0,x.block<W.heap.size:=by obtain⟨m,hm⟩:=h0;exact DataW.trod_lt m _ _ _ hm
  have k0:=h0
  have w1:∀n∈d1.weights Tryz.prog 24,n≤140737488351232:=fun n hn=>by have:=List.all_eq_true.1 hz n (DataW.weights_mem_each (j:=1) rfl rfl n hn);simpa [reachBytes]using of_decide_eq_true this
  have lt1:∀x∈p1,x.block<W.heap.size:=by obtain⟨m,hm⟩:=h1;exact DataW.trod_lt m _ _ _ hm
  have k1:=h1
  have w2:∀n∈d2.weights Tryz.prog 9,n≤140737488351232:=fun n hn=>by have:=List.all_eq_true.1 hz n (DataW.weights_mem_each (j:=2) rfl rfl n hn);simpa [reachBytes]using of_decide_eq_true this
  have lt2:∀x∈p2,x.block<W.heap.size:=by obtain⟨m,hm⟩:=h2;exact DataW.trod_lt m _ _ _ hm
  have k2:=h2
  have w3:∀n∈d3.weights Tryz.prog 4,n≤140737488351232:=fun n hn=>by have:=List.all_eq_true.1 hz n (DataW.weights_mem_each (j:=3) rfl rfl n hn);simpa [reachBytes]using of_decide_eq_true this
  have lt3:∀x∈p3,x.block<W.heap.size:=by obtain⟨m,hm⟩:=h3;exact DataW.trod_lt m _ _ _ hm
  have k3:=h3
  obtain⟨c0,a0,rfl,s0⟩:=Tc (L:=[(3,0,1),(3,1,1),(3,2,1),(3,3,1),(3,4,1)]) (by kernel_rfl) (ajX (by kernel_rfl) Tryz.underlying3 (by kernel_rfl)) (Ta 0 23 v0 rfl rfl) h0 w0
  obtain⟨rfl,_⟩:=s0
  obtain⟨a1,s1⟩:=Z6 eY (qG eY (agx (by kernel_rfl) Tryz.underlying3 Ag bo4 (qG dt (Td Ag) (by kernel_rfl) (by decide) Hq) (qG cq (Tf Tryz.underlying3) (by kernel_rfl) (by decide) tq) (qG cO (ajY (by kernel_rfl) Tryz.underlying3 Ag bo4 (by kernel_rfl)) (by kernel_rfl) (by decide) jv) (qG cv (agy (by kernel_rfl) Ag (by kernel_rfl)) (by kernel_rfl) (by decide) lT) (by kernel_rfl)) (by kernel_rfl) (by decide) B1) (Ta 1 24 v1 rfl rfl) h1 w1
  obtain⟨a2,rfl⟩:=ajZ Tryz.underlying9 (Ta 2 9 v2 rfl rfl) h2 w2
  obtain⟨a3,rfl⟩:=agz Tryz.underlying4 (Ta 3 4 v3 rfl rfl) h3
  clear hA0 ajW
  refine((DN a0.bu a0.leaf a0.bud a0.aL a0.rest s1 a2 a3).law).mono fun e W' ⟨he,bel⟩=> ?_
  subst he
  exact⟨_,rfl,_,_,_,[],_,[],hW',trodAll_mk1 (shut_bool Tryz.underlying4 _),(trodAll_cons_mk (Below.trod laidOut (by kernel_rfl) (of_decide_eq_true (by kernel_rfl)) k0 bel lt0) (trodAll_cons_mk (Below.trod laidOut (by kernel_rfl) (of_decide_eq_true (by kernel_rfl)) k1 bel lt1) (trodAll_cons_mk (Below.trod laidOut (by kernel_rfl) (of_decide_eq_true (by kernel_rfl)) k2 bel lt2) (trodAll_cons_mk (Below.trod laidOut (by kernel_rfl) (of_decide_eq_true (by kernel_rfl)) k3 bel lt3) trodAll_mk0)))),rfl,bel.frame _,fun h=>by cases h⟩

theorem c1:Tryz.checked.prog.funcNamed Rows.flusherAloneRow.func=some 3:=by kernel_rfl
set_option maxHeartbeats 8000000 in
theorem c2:joinedFacts Tryz.checked.prog 3 Tryz.f3 Rows.flusherAloneSpec Rows.flusherAloneRow=true:=by
  unfold joinedFacts
  refine hJ (hJ (hJ (hJ (hJ (hJ (hJ (hJ (hJ (hJ (hJ (hJ (hJ (hJ (hJ (hJ (hJ (hJ (hJ (hJ (hJ (hJ (hJ (hJ (hJ (hJ (hJ (hJ (hJ (hJ (hJ ?_ ?_) ?_) ?_) ?_) ?_) ?_) ?_) ?_) ?_) ?_) ?_) ?_) ?_) ?_) ?_) ?_) ?_) ?_) ?_) ?_) ?_) ?_) ?_) ?_) ?_) ?_) ?_) ?_) ?_) ?_) ?_
  all_goals as_aux_lemma=>kernel_rfl
theorem c3:Tryz.f3.isInstance Tryz.checked.prog Rows.flusherAloneRow.origin Rows.flusherAloneRow.targs:=of_decide_eq_true (by kernel_rfl)
theorem c4 : ¬ Check.packageOf Tryz.f3.name = "main" := of_decide_eq_false (by kernel_rfl)
theorem c5:Tryz.f3.isWrapper Tryz.checked.prog Rows.flusherAloneRow.wrapper Rows.flusherAloneRow.mainSum:=by unfold Func.isWrapper;rw [if_neg c4];exact⟨rfl,rfl⟩
theorem aGO:Rows.flusherAloneRow.holds Tryz.pinned (OpenSpec.ofChange Rows.flusherAloneSpec):=
  OpenClaim.holds_of_wide 3 Tryz.f3 rfl rfl rfl rfl rfl rfl rfl ⟨rfl,rfl,rfl,rfl,rfl⟩ rfl rfl rfl rfl rfl c1 Tryz.func3 c2 c3 c5
    (fun os started H enc _=>lifted os started H enc)

theorem proved:Rows.FlusherAloneSaid:=aGO
end Go.Proofs.YtfhnamngaofccaaGreat.lawFlusherAlone
