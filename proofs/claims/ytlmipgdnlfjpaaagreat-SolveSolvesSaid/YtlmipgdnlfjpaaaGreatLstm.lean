/- Lemmas of mine, merged. -/
import Derived.Test.YtlmipgdnlfjpaaaGreatBasm
import Derived.Deep.RegionHeld3
open Go.Deco
namespace Go
section
variable {P:Program}{md:Region.Mode}{ops:Array Oper}{Q:Exit->Act->World->Prop}{S:World->Prop}{z:Nat}
def XB (P:Program)(md:Region.Mode)(ops:Array Oper)(Q:Exit->Act->World->Prop)(S:World->Prop)(z:Nat):Nat->Array Bool->Act->World->Prop
 |0,listed,a,w=>Region.ready md ops listed=[]/\Q .normal a w
 |fuel+1,listed,a,w=>
  (Region.ready md ops listed=[]->Q .normal a w)/\
  ∀i∈Region.ready md ops listed,wpOp P ops Q i (fun a' w'=>((listed.setIfInBounds i true).getD z true=false->S w')/\XB P md ops Q S z fuel (listed.setIfInBounds i true) a' w') a w
theorem uZ:∀(fuel:Nat) (listed:Array Bool) (a:Act) (w:World),XB P md ops Q S z fuel listed a w->wpAny P md ops Q fuel listed a w
 |0,_,_,_,h=>h
 |fuel+1,_,_,_,h=>⟨h.1,fun i hi=>wpOp_mono (fun a' w' h'=>uZ fuel _ a' w' h'.2) (h.2 i hi)⟩
theorem sV {i:Nat}{oi:Oper}{v:Value}(hi:ops[i]? =some oi)(hsel:∀(j:Nat) (o:Oper) cs b,ops[j]? =some o->o.op≠ .select cs b)
  (hQ:∀c a w,Q (.panic c) (a.put oi.dst v) w->Q (.panic c) a w) (hwz:∀oz,ops[z]? =some oz->∃e∈oz.after,Region.binds md e=true/\e.on=i):
  ∀(fuel:Nat) (listed:Array Bool) (a:Act) (w:World),
   (∀j oj,ops[j]? =some oj->j≠i->listed.getD j true=false->(∀e∈oj.after,Region.binds md e=true->e.on≠i)->oi.apart ops oj=true)->
   i∈Region.ready md ops listed->YieldsIf P ops S oi v a->S w->listed.getD z true=false->
   XB P md ops Q S z fuel (listed.setIfInBounds i true) (a.put oi.dst v) w->XB P md ops Q S z (fuel+1) listed a w:=by
 intro fuel
 induction fuel with
 | zero=>
  intro listed a w _ hr hy hS hz H;refine⟨fun h=>(by rw[h]at hr;cases hr),fun j hj=>?_⟩;by_cases hji:j=i
  ·subst hji;exact hy.wpOp hi hS ⟨fun _=>hS,H⟩
  ·have:=ready_mono hj hji;rw[H.1]at this;cases this
 | succ fuel ih=>
  intro listed a w hfree hr hy hS hz H;refine⟨fun h=>(by rw[h]at hr;cases hr),fun j hj=>?_⟩;by_cases hji:j=i
  ·subst hji;exact hy.wpOp hi hS ⟨fun _=>hS,H⟩
  ·have h1:=H.2 j (ready_mono hj hji);obtain⟨hjun,oj,hoj,hall⟩:=mem_ready.1 hj
   have hnot:∀e∈oj.after,Region.binds md e=true->e.on≠i:=fun e he hb heq=>by
    have h1:=hall e he hb;have h0:=(mem_ready.1 hr).1;rw[heq]at h1;rcases Nat.lt_or_ge i listed.size with h'|h'
    ·simp[h']at h0 h1;rw[h0]at h1;cases h1
    ·simp[Array.getElem?_eq_none h']at h1
   have hjz:j≠z:=by
    rintro rfl;obtain⟨e,he,hb,hon⟩:=hwz oj hoj;exact hnot e he hb hon
   have hiz:i≠z\/(listed.setIfInBounds i true).getD z true=listed.getD z true:=by
    by_cases h:i=z
    ·subst h;obtain⟨_,oi',hoi',hall'⟩:=mem_ready.1 hr;obtain⟨e,he,hb,hon⟩:=hwz oi' hoi';have h1:=hall' e he hb;have h0:=(mem_ready.1 hr).1;rw[hon]at h1
     exfalso
     rcases Nat.lt_or_ge i listed.size with h'|h'
     ·simp[h']at h0 h1;rw[h0]at h1;cases h1
     ·simp[Array.getElem?_eq_none h']at h1
    ·exact .inl h
   have hzi:(listed.setIfInBounds i true).getD z true=listed.getD z true:=by
    rcases hiz with h|h
    ·exact getD_set_ne true h
    ·exact h
   have h2:=wpOp_putIf hoj (hfree j oj hoj hji hjun hnot) (fun cs b=>hsel i oi cs b hi) (fun cs b=>hsel j oj cs b hoj) hQ hy h1
   have hfree':∀k ok,ops[k]? =some ok->k≠i->(listed.setIfInBounds j true).getD k true=false->
     (∀e∈ok.after,Region.binds md e=true->e.on≠i)->oi.apart ops ok=true:=fun k ok hk hki hun hno=>by
    refine hfree k ok hk hki ?_ hno;by_cases hjk:j=k
    ·subst hjk;exact hjun
    ·rw[getD_set_ne true hjk]at hun;exact hun
   have hz1:((listed.setIfInBounds i true).setIfInBounds j true).getD z true=false:=by rw[getD_set_ne true hjz,hzi];exact hz
   have hz2:(listed.setIfInBounds j true).getD z true=false:=by rw[getD_set_ne true hjz];exact hz
   refine wpOp_mono (fun a' w' h3=>⟨fun _=>h3.2.1 hz1,ih (listed.setIfInBounds j true) a' w' hfree' (ready_mono hr (Ne.symm hji)) h3.1 (h3.2.1 hz1) hz2 ?_⟩) h2;rw[Array.setIfInBounds_comm _ _ hji];exact h3.2.2
theorem sK {i:Nat}{oi:Oper}{v:Value}(hi:ops[i]? =some oi)(hsel:∀(j:Nat) (o:Oper) cs b,ops[j]? =some o->o.op≠ .select cs b)
  (hQ:∀c a w,Q (.panic c) (a.put oi.dst v) w->Q (.panic c) a w) (hiz:i≠z):
  ∀(fuel:Nat) (listed:Array Bool) (a:Act) (w:World),
   (∀j oj,ops[j]? =some oj->j≠i->listed.getD j true=false->(∀e∈oj.after,Region.binds md e=true->e.on≠i)->oi.apart ops oj=true)->
   i∈Region.ready md ops listed->YieldsIf P ops (fun _=>True) oi v a->(listed.getD z true=false->S w)->
   XB P md ops Q S z fuel (listed.setIfInBounds i true) (a.put oi.dst v) w->XB P md ops Q S z (fuel+1) listed a w:=by
 intro fuel
 induction fuel with
 | zero=>
  intro listed a w _ hr hy hD H;refine⟨fun h=>(by rw[h]at hr;cases hr),fun j hj=>?_⟩;by_cases hji:j=i
  ·subst hji;exact hy.wpOp hi trivial ⟨fun h=>hD (by rw[getD_set_ne true hiz]at h;exact h),H⟩
  ·have:=ready_mono hj hji;rw[H.1]at this;cases this
 | succ fuel ih=>
  intro listed a w hfree hr hy hD H;refine⟨fun h=>(by rw[h]at hr;cases hr),fun j hj=>?_⟩;by_cases hji:j=i
  ·subst hji;exact hy.wpOp hi trivial ⟨fun h=>hD (by rw[getD_set_ne true hiz]at h;exact h),H⟩
  ·have h1:=H.2 j (ready_mono hj hji);obtain⟨hjun,oj,hoj,hall⟩:=mem_ready.1 hj
   have hnot:∀e∈oj.after,Region.binds md e=true->e.on≠i:=fun e he hb heq=>by
    have h1:=hall e he hb;have h0:=(mem_ready.1 hr).1;rw[heq]at h1;rcases Nat.lt_or_ge i listed.size with h'|h'
    ·simp[h']at h0 h1;rw[h0]at h1;cases h1
    ·simp[Array.getElem?_eq_none h']at h1
   have h2:=wpOp_putIf hoj (hfree j oj hoj hji hjun hnot) (fun cs b=>hsel i oi cs b hi) (fun cs b=>hsel j oj cs b hoj) hQ hy h1
   have hfree':∀k ok,ops[k]? =some ok->k≠i->(listed.setIfInBounds j true).getD k true=false->
     (∀e∈ok.after,Region.binds md e=true->e.on≠i)->oi.apart ops ok=true:=fun k ok hk hki hun hno=>by
    refine hfree k ok hk hki ?_ hno;by_cases hjk:j=k
    ·subst hjk;exact hjun
    ·rw[getD_set_ne true hjk]at hun;exact hun
   have hzz:((listed.setIfInBounds i true).setIfInBounds j true).getD z true=(listed.setIfInBounds j true).getD z true:=by
    rw[<-Array.setIfInBounds_comm _ _ hji,getD_set_ne true hiz]
   refine wpOp_mono (fun a' w' h3=>⟨fun h=>h3.2.1 (by rw[hzz];exact h),ih (listed.setIfInBounds j true) a' w' hfree' (ready_mono hr (Ne.symm hji)) h3.1 (fun h=>h3.2.1 (by rw[hzz];exact h)) ?_⟩) h2;rw[Array.setIfInBounds_comm _ _ hji];exact h3.2.2
end
section
variable {P:Program}{md:Region.Mode}{l:List Oper}{Q:Exit->Act->World->Prop}{S:World->Prop}{z:Nat}
def waitsFor (md:Region.Mode)(l:List Oper)(z i:Nat):Bool:=match l[z]? with
 |some oz=>oz.after.any fun e=>Region.binds md e && e.on == i
 |none=>true
theorem waitsFor_spec {i:Nat}(h:waitsFor md l z i=true)(oz:Oper)(hz:l.toArray[z]? =some oz):∃e∈oz.after,Region.binds md e=true/\e.on=i:=by
 have hz':l[z]? =some oz:=by simpa using hz
 unfold waitsFor at h;rw[hz']at h;simp only[Array.any_eq_true',Bool.and_eq_true,beq_iff_eq]at h;exact h
theorem vY {i:Nat}{oi:Oper}{v:Value}{fuel:Nat}{listed:Array Bool}{a:Act}{w:World}(hi:l[i]? =some oi)
  (hs:Region.noSelect l.toArray=true) (hf:Region.free md l.toArray listed i=true) (hr:(Region.ready md l.toArray listed).contains i=true) (hw:waitsFor md l z i=true) (hz:listed.getD z true=false)
  (hQ:∀c a w,Q (.panic c) (a.put oi.dst v) w->Q (.panic c) a w) (hy:YieldsIf P l.toArray S oi v a) (hS:S w)
  (h:XB P md l.toArray Q S z fuel (listed.setIfInBounds i true) (a.put oi.dst v) w):XB P md l.toArray Q S z (fuel+1) listed a w:=
 have hi':l.toArray[i]? =some oi:=by simpa using hi
 sV hi' (Region.noSelect_spec hs) hQ (waitsFor_spec hw) fuel listed a w (Region.free_spec hi' hf) (by simpa using hr) hy hS hz h
theorem jp {k:Nat}{o:Oper}{fuel:Nat}{listed:Array Bool}{a:Act}{w:World}(hr:Region.ready md l.toArray listed=[k])(ho:l[k]? =some o)
  (h:∀K':Act->World->Prop,Shut (∀a w,((listed.setIfInBounds k true).getD z true=false->S w)->XB P md l.toArray Q S z fuel (listed.setIfInBounds k true) a w->K' a w)->if Region.wanted o (yielded l.toArray a.tmps)=true then Oper.wp P o a w K' Q else K' (a.put o.dst undef) w):
  XB P md l.toArray Q S z (fuel+1) listed a w:=
 ⟨fun h0=>(by rw[hr]at h0;cases h0),fun j hj=>by
  rw[hr]at hj;obtain rfl:j=k:=by simpa using hj
  exact wpOp_step (by simpa using ho) (fun K' hK=>h K' (fun a w hS hW=>hK a w ⟨hS,hW⟩))⟩
theorem fJ {listed:Array Bool}{a:Act}{w:World}(hr:Region.ready md l.toArray listed=[])(h:Q .normal a w):∀fuel,XB P md l.toArray Q S z fuel listed a w
 |0=>⟨hr,h⟩
 |_+1=>⟨fun _=>h,by rw[hr];simp⟩
theorem sy {id:Nat}{a:Act}{w:World}(z:Nat)(S:World->Prop)(hm:P.follows .mixedOrders=true)(hS:S w.drew)
  (h:S w.drew->XB P .any l.toArray Q S z l.toArray.size (Array.replicate l.toArray.size false) a w.drew):(Code.region id l.toArray true).wp P Q a w:=
 wp_region_any hm (uZ _ _ _ _ (h hS))
end
section
variable {P:Program}{md:Region.Mode}{l:List Oper}{Q:Exit->Act->World->Prop}{S:World->Prop}{z:Nat}
theorem sD {i:Nat}{oi:Oper}{v:Value}{fuel:Nat}{listed:Array Bool}{a:Act}{w:World}(hi:l[i]? =some oi)
  (hs:Region.noSelect l.toArray=true) (hf:Region.free md l.toArray listed i=true) (hr:(Region.ready md l.toArray listed).contains i=true) (hiz:i≠z)
  (hQ:∀c a w,Q (.panic c) (a.put oi.dst v) w->Q (.panic c) a w) (hy:YieldsIf P l.toArray (fun _=>True) oi v a) (hS:listed.getD z true=false->S w)
  (h:XB P md l.toArray Q S z fuel (listed.setIfInBounds i true) (a.put oi.dst v) w):XB P md l.toArray Q S z (fuel+1) listed a w:=
 have hi':l.toArray[i]? =some oi:=by simpa using hi
 sK hi' (Region.noSelect_spec hs) hQ hiz fuel listed a w (Region.free_spec hi' hf) (by simpa using hr) hy hS h
theorem l6 {k m:Nat}{o o':Oper}{fuel:Nat}{listed:Array Bool}{a:Act}{w:World}(hr:Region.ready md l.toArray listed=[k,m])(ho:l[k]? =some o)(ho':l[m]? =some o')
  (h:∀K':Act->World->Prop,Shut (∀a w,((listed.setIfInBounds k true).getD z true=false->S w)->XB P md l.toArray Q S z fuel (listed.setIfInBounds k true) a w->K' a w)->if Region.wanted o (yielded l.toArray a.tmps)=true then Oper.wp P o a w K' Q else K' (a.put o.dst undef) w)
  (h':∀K':Act->World->Prop,Shut (∀a w,((listed.setIfInBounds m true).getD z true=false->S w)->XB P md l.toArray Q S z fuel (listed.setIfInBounds m true) a w->K' a w)->if Region.wanted o' (yielded l.toArray a.tmps)=true then Oper.wp P o' a w K' Q else K' (a.put o'.dst undef) w):
  XB P md l.toArray Q S z (fuel+1) listed a w:=
 ⟨fun h0=>(by rw[hr]at h0;cases h0),fun j hj=>by
  rw[hr]at hj;have hj':j=k\/j=m:=by simpa using hj
  rcases hj' with rfl|rfl
  ·exact wpOp_step (by simpa using ho) (fun K' hK=>h K' (fun a w hS hW=>hK a w ⟨hS,hW⟩))
  ·exact wpOp_step (by simpa using ho') (fun K' hK=>h' K' (fun a w hS hW=>hK a w ⟨hS,hW⟩))⟩
end
end Go
