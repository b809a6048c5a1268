/- Merged by program from texts of my own. -/
import Derived.Test.YtlmipgdnlfjpaaaGreatRvmm
import Derived.Test.YtlmipgdnlfjpaaaGreatOpenSom
import Derived.WalkKit
import Derived.ProofKit
import Derived.OpenShut
import Derived.ShutString
import Derived.ChangeOld
import Derived.Below
import Derived.Lib.SmallJoins
namespace Go.Proofs.YtlmipgdnlfjpaaaGreat.doneMrg3
open Go.ChangeShapes Go.WideShapes Go.ChangeAt Go.RowKit Go.Deco Go.Joins Go.Deep
set_option linter.unusedVariables false
theorem own:ownKnob Tryz.prog.godebug=none:=by kernel_rfl
theorem laidOut:laidOutB Tryz.prog=true:=by kernel_rfl
theorem nat32 {n:Int}(h:(Lit.int .u32 n).wf=true):∃k:Nat,n=k∧k<4294967296:=⟨n.toNat,by have:=wf32 h;omega,by have:=wf32 h;omega⟩
set_option maxRecDepth 100000 in
set_option maxHeartbeats 4000000 in
theorem lifted (os:Os)(started:os.Started)(H:Type)(enc:TypeId×Value→H):
  ReturnsInHanded {} Tryz.checked os 5 .any (Rows.solveMergesSpec.pre6 enc Tryz.prog Tryz.f5 Rows.solveMergesRow.domain false) (Rows.solveMergesSpec.post enc Tryz.prog Tryz.f5 false true false false):=by
 refine returnsInHanded_of_change_sized (C:=Tryz.checked) own started (by kernel_rfl) Tryz.func5
  (ChangeSpec.witness6 (enc:=enc) (C:=Tryz.checked) false ⟨#[],#[.agg #[.slice none 0 0,.slice none 0 0],.agg #[.slice none 0 0,.slice none 0 0]],[]⟩ 8 (by kernel_rfl) (by kernel_rfl) (by kernel_rfl) (by kernel_rfl)) ?_
 intro W base args ds gs before hval0 hW hcnd hsz _;have hval:∀(j:Nat) t v,Tryz.f5.params[j]? =some t→args[j]? =some v→Value.okWide Tryz.prog W .any base t v:=hval0;have hW':=hW;obtain⟨p,q,hA0,hV,rfl,hfz,hnd⟩:=hW;have hA:DataW.TrodAll enc Tryz.prog W 0 (fun _=>true) true Tryz.f5.params.toList args.toList ds p:=hA0;rw[Tryz.params5]at hA hval;obtain⟨v0,vs0,d0,ds0,p0,q0,hargs,rfl,rfl,h0,r0⟩:=trodAll_cons hA;obtain⟨v1,vs1,d1,ds1,p1,q1,rfl,rfl,rfl,h1,r1⟩:=trodAll_cons r0;obtain⟨rfl,rfl,rfl⟩:=trodAll_nil r1;obtain rfl:args= #[v0,v1]:=by cases args;simp_all
 obtain⟨rfl,rfl⟩:=trodVars_none hV;have k0:=h0;have k1:=h1;have lt0:∀x∈p0,x.block<W.heap.size:=by obtain⟨m,hm⟩:=k0;exact DataW.trod_lt m _ _ _ hm
 have lt1:∀x∈p1,x.block<W.heap.size:=by obtain⟨m,hm⟩:=k1;exact DataW.trod_lt m _ _ _ hm
 have hw0:∀m∈d0.weights Tryz.prog 34,m≤reachBytes:=fun m hm=>of_decide_eq_true (List.all_eq_true.1 hsz m (DataW.weights_mem_each (j:=0) (t:=34) rfl rfl m hm));obtain⟨dp0,A0,n0,c0,B0,m0,e0,ts0,rfl,hs0,hq0⟩:=soln_of_trod (hval 0 34 v0 rfl rfl) h0 hw0;have hw1:∀m∈d1.weights Tryz.prog 34,m≤reachBytes:=fun m hm=>of_decide_eq_true (List.all_eq_true.1 hsz m (DataW.weights_mem_each (j:=1) (t:=34) rfl rfl m hm));obtain⟨dp1,A1,n1,c1,B1,m1,e1,ts1,rfl,hs1,hq1⟩:=soln_of_trod (hval 1 34 v1 rfl rfl) h1 hw1;clear hA0 hval0;refine(merges_any (max dp0 dp1) W A0 B0 A1 B1 n0 c0 m0 e0 n1 c1 m1 e1 ts0 ts1 (hs0.ty_up (Nat.le_max_left _ _)) (hs1.ty_up (Nat.le_max_right _ _)) hq0 hq1).mono fun e W' ⟨he,bel⟩=>?_;subst he;exact⟨_,rfl,_,_,_,[],_,[],hW',trodAll_mk1 (shut_bool Tryz.underlying4 _),(trodAll_cons_mk (Below.trod laidOut (by kernel_rfl) (of_decide_eq_true (by kernel_rfl)) k0 bel lt0) (trodAll_cons_mk (Below.trod laidOut (by kernel_rfl) (of_decide_eq_true (by kernel_rfl)) k1 bel lt1) trodAll_mk0)),rfl,Below.frame bel _,fun h=>by cases h⟩
theorem over:Rows.solveMergesRow.holds Tryz.pinned (OpenSpec.ofChange Rows.solveMergesSpec):=
 OpenClaim.holds_of_wide 5 Tryz.f5 rfl rfl rfl rfl rfl rfl rfl ⟨rfl,rfl,rfl,rfl,rfl⟩ rfl rfl rfl rfl rfl (by kernel_rfl) Tryz.func5 (by kernel_rfl)
  (of_decide_eq_true (by kernel_rfl)) (by unfold Func.isWrapper;first|(rw[if_pos (by decide+kernel)];kernel_rfl)|(rw[if_neg (by decide+kernel)];exact⟨rfl,rfl⟩))
  (fun os started H enc _=>lifted os started H enc)
theorem proved:Rows.SolveMergesSaid:=over
#print axioms proved
end Go.Proofs.YtlmipgdnlfjpaaaGreat.doneMrg3
