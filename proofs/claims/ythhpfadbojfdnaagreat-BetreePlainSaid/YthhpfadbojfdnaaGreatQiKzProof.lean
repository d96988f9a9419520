/- The law BetreePlain: for every input the call returns true. No condition. -/
import Derived.Test.YthhpfadbojfdnaaGreatRows
import Derived.OpenShut
import Derived.ShutString
import Derived.ChangeOld
import Derived.Test.YthhpfadbojfdnaaGreatQiSj
set_option linter.unusedVariables false
set_option linter.unusedSimpArgs false
set_option linter.unnecessarySimpa false
namespace Go.Proofs.YthhpfadbojfdnaaGreat.lawBetreePlain
open Go Go.Fw Go.ChangeShapes Go.WideShapes Go.ChangeAt Go.RowKit

theorem own:ownKnob Tryz.prog.godebug=none:=by kernel_rfl
theorem laidOut:laidOutB Tryz.prog=true:=by kernel_rfl

set_option maxRecDepth 100000 in
theorem lifted(os:Os)(started:os.Started)(H:Type)(enc:TypeId×Value→H):
    ReturnsInHanded {} Tryz.checked os 3 .any (Rows.betreePlainSpec.pre6 enc Tryz.prog Tryz.f3 Rows.betreePlainRow.domain false) (Rows.betreePlainSpec.post enc Tryz.prog Tryz.f3 false true false false):=by
  refine returnsInHanded_of_change_sized (C:=Tryz.checked) own started (by kernel_rfl) Tryz.func3
    (ChangeSpec.witness6 (enc:=enc) (C:=Tryz.checked) false ⟨#[],#[.agg #[.int .i64 0,.int .i64 0,.int .i64 0,.int .i64 0,.int .i64 0],.slice none 0 0],[]⟩ 12 (by kernel_rfl) (by kernel_rfl) (by kernel_rfl) (by kernel_rfl)) ?_
  intro W base args ds gs before aq3 hW aQf hz _
  have aq4:∀(j:Nat) t v,Tryz.f3.params[j]?=some t→args[j]?=some v→Value.okWide Tryz.prog W .any base t v:=aq3
  have hW':=hW
  obtain⟨p,q,hA0,hV,rfl,hfz,iR⟩:=hW
  have hA:DataW.TrodAll enc Tryz.prog W 0 (fun _=>true) true Tryz.f3.params.toList args.toList ds p:=hA0
  rw [Tryz.params3]at hA aq4
  obtain⟨v0,vs0,d0,ds0,p0,q0,aOx,rfl,rfl,h0,r0⟩:=trodAll_cons hA
  obtain⟨v1,vs1,d1,ds1,p1,q1,rfl,rfl,rfl,h1,r1⟩:=trodAll_cons r0
  obtain⟨rfl,rfl,rfl⟩:=trodAll_nil r1
  obtain rfl:args= #[v0,v1]:=by cases args;simp_all
  obtain⟨rfl,rfl⟩:=trodVars_none hV
  have w0:∀n∈d0.weights Tryz.prog 23,n≤140737488351232:=fun n hn=>by have:=ym.1 hz n (DataW.weights_mem_each (j:=0) rfl rfl n hn);simpa [reachBytes]using jW this
  have lt0:∀x∈p0,x.block<W.heap.size:=by obtain⟨m,hm⟩:=h0;exact DataW.trod_lt m _ _ _ hm
  have k0:=h0
  have w1:∀n∈d1.weights Tryz.prog 24,n≤140737488351232:=fun n hn=>by have:=ym.1 hz n (DataW.weights_mem_each (j:=1) rfl rfl n hn);simpa [reachBytes]using jW this
  have lt1:∀x∈p1,x.block<W.heap.size:=by obtain⟨m,hm⟩:=h1;exact DataW.trod_lt m _ _ _ hm
  have k1:=h1
  obtain⟨c0,a0,rfl,s0⟩:=aa0 (L:=[(3,0,1),(3,1,1),(3,2,1),(3,3,1),(3,4,1)]) (by kernel_rfl) (aq5 (by kernel_rfl) Tryz.underlying3 (by kernel_rfl)) (aq4 0 23 v0 rfl rfl) h0 w0
  obtain⟨rfl,_⟩:=s0
  obtain⟨a1,s1⟩:=afN apS (afO apS (afP (tn:=35) (by kernel_rfl) Tryz.underlying3 (ayd (by kernel_rfl) Tryz.underlying3 st9 bo4 (by kernel_rfl)) (by kernel_rfl)) (by kernel_rfl) (by decide) aGu) (aq4 1 24 v1 rfl rfl) h1 w1
  clear hA0 aq3
  refine((Nn a0.fan a0.leaf a0.aT a0.bp a0.rest s1).law).mono fun e W' ⟨he,bel⟩=> ?_
  subst he
  exact⟨_,rfl,_,_,_,[],_,[],hW',trodAll_mk1 (shut_bool Tryz.underlying4 _),(trodAll_cons_mk (Below.trod laidOut (by kernel_rfl) (jW (by kernel_rfl)) k0 bel lt0) (trodAll_cons_mk (Below.trod laidOut (by kernel_rfl) (jW (by kernel_rfl)) k1 bel lt1) trodAll_mk0)),rfl,bel.frame _,fun h=>by cases h⟩

theorem c1:Tryz.checked.prog.funcNamed Rows.betreePlainRow.func=some 3:=by kernel_rfl
set_option maxHeartbeats 8000000 in
theorem c2:joinedFacts Tryz.checked.prog 3 Tryz.f3 Rows.betreePlainSpec Rows.betreePlainRow=true:=by
  unfold joinedFacts
  refine kH (kH (kH (kH (kH (kH (kH (kH (kH (kH (kH (kH (kH (kH (kH (kH (kH (kH (kH (kH (kH (kH (kH (kH (kH (kH (kH (kH (kH (kH (kH ?_ ?_) ?_) ?_) ?_) ?_) ?_) ?_) ?_) ?_) ?_) ?_) ?_) ?_) ?_) ?_) ?_) ?_) ?_) ?_) ?_) ?_) ?_) ?_) ?_) ?_) ?_) ?_) ?_) ?_) ?_) ?_
  all_goals as_aux_lemma=>kernel_rfl
theorem c3:Tryz.f3.isInstance Tryz.checked.prog Rows.betreePlainRow.origin Rows.betreePlainRow.targs:=jW (by kernel_rfl)
theorem c4 : ¬ Check.packageOf Tryz.f3.name = "main" := Au (by kernel_rfl)
theorem c5:Tryz.f3.isWrapper Tryz.checked.prog Rows.betreePlainRow.wrapper Rows.betreePlainRow.mainSum:=by unfold Func.isWrapper;rw [if_neg c4];exact⟨rfl,rfl⟩
theorem aq6:Rows.betreePlainRow.holds Tryz.pinned (OpenSpec.ofChange Rows.betreePlainSpec):=
  OpenClaim.holds_of_wide 3 Tryz.f3 rfl rfl rfl rfl rfl rfl rfl ⟨rfl,rfl,rfl,rfl,rfl⟩ rfl rfl rfl rfl rfl c1 Tryz.func3 c2 c3 c5
    (fun os started H enc _=>lifted os started H enc)

theorem proved:Rows.BetreePlainSaid:=aq6
end Go.Proofs.YthhpfadbojfdnaaGreat.lawBetreePlain
