/- Merged by program from texts of my own. -/
import Derived.Test.YtlmipgdnlfjpaaaGreatOptm
import Derived.Test.YtlmipgdnlfjpaaaGreatPlam
import Derived.SizedLaws
namespace Go.Proofs.YtlmipgdnlfjpaaaGreat
open Go Go.RowKit Go.ChangeShapes Go.WideShapes Go.Deep Go.Joins Go.Deco
theorem weights_mem_all {H:Type}{P:Program}{e:TypeId}:∀{ds:List (DataW H)} {d:DataW H},d∈ds→∀n∈d.weights P e,n∈DataW.weightsAll P e ds
 |d0 :: ds,d,hd,n,hn=>by
  rw[DataW.weightsAll,List.mem_append];rcases List.mem_cons.1 hd with rfl|hd
  ·exact .inl hn
  ·exact .inr (weights_mem_all hd n hn)
theorem bnE_of:∀{l:List Ty},(∀t∈l,bnT t=true)→bnE l=true
 |[],_=>rfl
 |t :: l,h=>by
  rw[bnE,h t (List.mem_cons_self ..),bnE_of fun x hx=>h x (List.mem_cons_of_mem _ hx)];rfl
theorem bnF_of:∀{l:List (Int×Ty)},(∀f∈l,bnT f.2=true)→bnF l=true
 |[],_=>rfl
 |(o,t) :: l,h=>by
  rw[bnF,h (o,t) (List.mem_cons_self ..),bnF_of fun x hx=>h x (List.mem_cons_of_mem _ hx)];rfl
set_option maxRecDepth 100000 in
theorem opens_slice_bn {E:Type}{R:Rep E}{t e:TypeId}{H:Type}{enc:TypeId×Value→H}{w:World}{base:Nat}{spare:Nat→Bool}{held:Bool}{fuel:Nat}(ht:Tryz.prog.underlying t=some (.slice e))(hC:Tryz.prog.cellsOf e=R.size)(q:E→Prop)
  (h:∀n,n<fuel→∀cs x,DataW.trod enc Tryz.prog w base spare held n e cs=some x→(∀m∈x.1.weights Tryz.prog e,m≤reachBytes)→∃el,R.rel w All cs el∧q el) {cs:List Value} {x:DataW H×List MemPlace}
  (hx:DataW.trod enc Tryz.prog w base spare held fuel t cs=some x) (hw:∀m∈x.1.weights Tryz.prog t,m≤reachBytes):∃l v,cs=[v]∧Sl R w All v l∧l.length * Tryz.prog.bytesOf e≤reachBytes∧∀el∈l,q el:=by
 rcases DataW.trod_slice ht hx with⟨rfl,_⟩|⟨a,len,cap,elems,rest,n,rfl,rfl,hxx,hb,hl,hm,hlen,hel, -, -⟩
 ·exact⟨[],_,rfl,Sl.nil,by simp,fun el h=>by cases h⟩
 ·subst hxx;simp only[DataW.weights]at hw;rw[ht]at hw;simp only[List.mem_cons,List.mem_append,List.length_map]at hw;have hw0:=hw _ (.inl rfl)
  obtain⟨l,hll,hlp⟩:=list_of (E:=E) (p:=fun i el=>q el∧∃cs,R.rel w All cs el∧∀j u,cs[j]? =some u→w.cell? ((a.add (i * R.size)).add j)=some u) len (fun i hi=>by
   have h0:=hel i hi;rw[List.getElem?_eq_getElem (by omega)]at h0;obtain⟨cs',hc,ht'⟩:=Option.bind_eq_some_iff.1 h0;rw[hC]at hc;obtain⟨el,hr,hq⟩:=h n (by omega) cs' _ ht' fun m hm=>hw m (.inr (.inl (weights_mem_all (List.mem_map.2 ⟨_,List.getElem_mem ..,rfl⟩) m hm)));obtain⟨_,hcl,hat⟩:=World.cells?_some hc;refine⟨el,hq,cs',hr,fun j u hu=>?_⟩;have:=(List.getElem?_eq_some_iff.1 hu).1;rw[hat j (by omega),hu])
  refine⟨l,_,rfl, ?_, ?_, ?_⟩
  ·refine⟨some a,cap,by rw[hll],by omega,hm,by simp,fun hne=>?_⟩;have hpos:=R.pos
   have h0:∃u,w.cell? a=some u:=by
    obtain⟨e0,l0,rfl⟩:=List.exists_cons_of_ne_nil hne;obtain⟨-,cs,hr,hc⟩:=hlp 0 e0 rfl;have hlen:=R.len hr;have:=hc 0 cs[0] (List.getElem?_eq_getElem (by omega));rw[Nat.zero_mul]at this;exact⟨_,this⟩
   obtain⟨u,h0⟩:=h0;have hsp:=spot_none h0;refine⟨a.block,a.off,by rw[←hsp],trivial,fun k el hk=>?_⟩;obtain⟨-,cs,hr,hc⟩:=hlp k el hk;refine⟨cs,hr,fun j v hv=>?_⟩;have:=hc j v hv;rw[hsp,add_none,add_none]at this
   rwa [←Nat.add_assoc]
  ·have h1:l.length * Tryz.prog.bytesOf e≤(elems.length+rest.length) * Tryz.prog.bytesOf e:=Nat.mul_le_mul_right _ (by omega);exact Nat.le_trans h1 hw0
  ·intro el hel';obtain⟨k,hk⟩:=List.getElem?_of_mem hel';exact(hlp k el hk).1
set_option maxRecDepth 100000 in
theorem opens_ty_bn {H:Type}{enc:TypeId×Value→H}{w:World}{base:Nat}{spare:Nat→Bool}{held:Bool}:∀(fuel:Nat) (cs:List Value) (x:DataW H×List MemPlace),
  DataW.trod enc Tryz.prog w base spare held fuel 42 cs=some x→(∀m∈x.1.weights Tryz.prog 42,m≤reachBytes)→∃t,(tyR fuel).rel w All cs t∧bnT t=true:=by
 intro fuel
 induction fuel using Nat.strongRecOn with
 | _ fuel ih=>
  intro cs x hx hw;obtain⟨xs,n,rfl,hxx,hcl,hlen,hf⟩:=DataW.trod_struct Tryz.underlying42 hx;subst hxx;simp only[DataW.weights]at hw;rw[Tryz.underlying42]at hw;have hcl:cs.length=5:=hcl.trans (by kernel_rfl)
  match cs,hcl with
  | [c0,c1,c2,c3,c4],_=>
   match xs,hlen with
   | [y0,y1,y2,y3,y4],_=>
    have h0:DataW.trod enc Tryz.prog w base spare held n 3 [c0]=some y0:=hf 0 _ rfl;have h1:DataW.trod enc Tryz.prog w base spare held n 3 [c1]=some y1:=hf 1 _ rfl;have h2:DataW.trod enc Tryz.prog w base spare held n 3 [c2]=some y2:=hf 2 _ rfl;have h3:DataW.trod enc Tryz.prog w base spare held n 25 [c3]=some y3:=hf 3 _ rfl;have h4:DataW.trod enc Tryz.prog w base spare held n 40 [c4]=some y4:=hf 4 _ rfl;obtain⟨k,hk,_,g0⟩:=DataW.trod_int Tryz.underlying3 h0;obtain⟨s,hs,_,g1⟩:=DataW.trod_int Tryz.underlying3 h1;obtain⟨c,hc,_,g2⟩:=DataW.trod_int Tryz.underlying3 h2;cases hk;cases hs;cases hc;have hw3:∀m∈y3.1.weights Tryz.prog 25,m≤reachBytes:=fun m hm=>hw m (DataW.weights_mem_each (j:=3) rfl rfl m hm);have hw4:∀m∈y4.1.weights Tryz.prog 40,m≤reachBytes:=fun m hm=>hw m (DataW.weights_mem_each (j:=4) rfl rfl m hm)
    obtain⟨el,ve,he,hse,hle,hqe⟩:=opens_slice_bn (R:=tyR n) Tryz.underlying25 ((show Tryz.prog.cellsOf 42=5 by kernel_rfl).trans (tyR_size n).symm) (fun t=>bnT t=true) (fun m hm cs x hx hw=>by
     obtain⟨t,ht,hb⟩:=ih m (by omega) cs x hx hw;exact⟨t,tyR_le (by omega) _ _ _ _ ht,hb⟩) h3 hw3
    obtain⟨fl,vf,hf',hsf,hlf,hqf⟩:=opens_slice_bn (R:=fdR (tyR n)) Tryz.underlying40 ((show Tryz.prog.cellsOf 59=6 by kernel_rfl).trans (fdR_size n).symm) (fun f=>bnT f.2=true) (fun m hm cs x hx hw=>by
     obtain⟨xs,q,rfl,hxx,hcl,hlen,hf⟩:=DataW.trod_struct Tryz.underlying59 hx;subst hxx;simp only[DataW.weights]at hw;rw[Tryz.underlying59]at hw;have hcl:cs.length=6:=hcl.trans (by kernel_rfl)
     match cs,hcl with
     | [d0,d1,d2,d3,d4,d5],_=>
      match xs,hlen with
      |[z0,z1],_=>
       have i0:DataW.trod enc Tryz.prog w base spare held q 3 [d0]=some z0:=hf 0 _ rfl;have i1:DataW.trod enc Tryz.prog w base spare held q 42 [d1,d2,d3,d4,d5]=some z1:=hf 1 _ rfl;obtain⟨o,ho,_,g3⟩:=DataW.trod_int Tryz.underlying3 i0;cases ho;obtain⟨t,ht,hb⟩:=ih q (by omega) _ _ i1 fun m hm=>hw m (DataW.weights_mem_each (j:=1) rfl rfl m hm);have g3:=wf64i g3;exact⟨(o,t),⟨_,rfl,tyR_le (by omega) _ _ _ _ ht,by unfold i64b;simp only[];omega⟩,hb⟩) h4 hw4
    cases he;cases hf';have g0:=wf64i g0;have g1:=wf64i g1;have g2:=wf64i g2;rw[show Tryz.prog.bytesOf 42=72 by kernel_rfl]at hle;rw[show Tryz.prog.bytesOf 59=80 by kernel_rfl]at hlf;have hrb:reachBytes=140737488351232:=rfl;refine⟨.mk k s c el fl,⟨_,_,rfl,hse,hsf,by unfold i64b;simp only[Ty.kind];omega,by unfold i64b;simp only[Ty.size];omega,by unfold i64b;simp only[Ty.count];omega⟩, ?_⟩;rw[bnT,bnE_of hqe,bnF_of hqf];simp only[Bool.and_true,Bool.and_eq_true,decide_eq_true_eq];omega
theorem _root_.Go.Deco.ConV.up {d d':Nat}{w:World}{S:Nat→Prop}{v:Value}{c:Con}(hd:d≤d')(h:ConV d w S v c):ConV d' w S v c:=by
 obtain⟨A,n,e,B,m,f,h0,h1,h2⟩:=h;exact⟨A,n,e,B,m,f,h0,h1,h2.up hd⟩
set_option maxRecDepth 100000 in
theorem soln_of_trod {H:Type}{enc:TypeId×Value→H}{w:World}{base:Nat}{spare:Nat→Bool}{held:Bool}{v:Value}{d:DataW H}{p:List MemPlace}{r:Reach}{b0:Nat}
  (hv:Value.okWide Tryz.prog w r b0 34 v) (hd:DataW.Trod enc Tryz.prog w base spare held 34 v d p) (hw:∀m∈d.weights Tryz.prog 34,m≤reachBytes):
  ∃dp A n c B m e ts,v= .agg #[.slice A n c,.slice B m e]∧Sl (tyR dp) w All (.slice A n c) ts∧∀t∈ts,bnT t=true:=by
 obtain⟨x0,x1,y0,y1,n,rfl,rfl,_,t0,t1⟩:=open_agg2 Tryz.underlying34 (by kernel_rfl) (by kernel_rfl) hv hd;simp only[DataW.weights]at hw;rw[Tryz.underlying34]at hw;have hw0:∀m∈y0.1.weights Tryz.prog 25,m≤reachBytes:=fun m hm=>hw m (DataW.weights_mem_each (j:=0) rfl rfl m hm)
 obtain⟨l,v0,h0,hl, -,hq⟩:=opens_slice_bn (R:=tyR n) Tryz.underlying25 ((show Tryz.prog.cellsOf 42=5 by kernel_rfl).trans (tyR_size n).symm) (fun t=>bnT t=true) (fun m hm cs x hx hw=>by
  obtain⟨t,ht,hb⟩:=opens_ty_bn m cs x hx hw;exact⟨t,tyR_le (by omega) _ _ _ _ ht,hb⟩) t0 hw0
 obtain⟨l',v1,h1,hl'⟩:=opens_slice (R:=i64R) Tryz.underlying26 (by kernel_rfl) (opens_i64 Tryz.underlying3) H enc w base spare held n _ _ t1;obtain⟨A,c,rfl,_⟩:=hl.form;obtain⟨B,k,rfl,_⟩:=hl'.form;cases h0;cases h1;exact⟨n,A,_,c,B,_,k,l,rfl,hl,hq⟩
end Go.Proofs.YtlmipgdnlfjpaaaGreat
