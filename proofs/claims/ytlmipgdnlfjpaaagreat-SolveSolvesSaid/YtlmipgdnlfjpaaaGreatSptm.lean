/- Lemmas of mine, merged. -/
import Derived.Test.YtlmipgdnlfjpaaaGreatBasm
import Derived.Deep.RegionHeld3
import Derived.StillTailTactics
namespace Go.Deco
open Go Go.RowKit
section
variable {P:Program}{Q:Exit->Act->World->Prop}{md:Region.Mode}{S:World->Prop}{l:List Oper}{o:Oper}
theorem eW (next:Act->World->Prop)(x:Oper)(a:Act)(K:Act->World->Prop)(r:Result Next)(h:x.upon P a K (Exit.then next Q) r):x.upon P a K Q r:=by
 cases r with
 |ok n w'=>cases n <;> exact h
 |halt y w'=>cases y <;> exact h
theorem eG {i:Nat}{oi:Oper}{next:Act->World->Prop}{K:Act->World->Prop}{a:Act}{w:World}(hi:l[i]? =some oi)(hg:oi.guard=none)
  (h:wpOp P l.toArray (Exit.then next Q) i K a w):wpOp P (l ++ [o]).toArray Q i K a w:=by
 have h1:l.toArray[i]? =some oi:=by simpa using hi
 have h2:(l ++ [o]).toArray[i]? =some oi:=by
  have:=(Qz hi).1;simp only[List.getElem?_toArray];rw[List.getElem?_append_left this];exact hi
 have hw:∀ops:Array Oper,Region.wanted oi (yielded ops a.tmps)=true:=fun ops=>by simp[Region.wanted,hg]
 unfold wpOp at *;simp only[h1,h2,hw,if_true]at *;exact h.imp (eW next oi a K _) id
def Jp (md:Region.Mode)(l:List Oper)(o:Oper):Bool:=
 l.all (fun x=>x.guard.isNone) && o.guard.isNone && ((List.range l.length).all fun i=>(o.after.any fun e=>Region.binds md e && e.on == i) || (List.range l.length).any fun j=>decide (i<j) && ((l[j]?).map fun oj=>oj.after.any fun e=>Region.binds md e && e.on == i).getD false) &&
  (o.after.all fun e=> !Region.binds md e || decide (e.on<l.length)) && ((List.range l.length).all fun i=>((l[i]?).map fun oi=>oi.after.all fun e=> !Region.binds md e || decide (e.on<i)).getD true)
theorem JW {listed:Array Bool}{i:Nat}(d:Bool)(h:i<listed.size):(listed.push false).getD i d=listed.getD i d:=by
 simp[Array.getD,Array.getElem_push,h,Nat.lt_succ_of_lt h]
theorem sG {listed:Array Bool}(d:Bool):(listed.push false).getD listed.size d=false:=by
 simp[Array.getD]
theorem Gk {listed:Array Bool}{i:Nat}(h:i<listed.size):(listed.push false).setIfInBounds i true=(listed.setIfInBounds i true).push false:=by
 apply Array.ext_getElem?;intro j;simp only[Array.getElem?_setIfInBounds,Array.getElem?_push,Array.size_push,Array.size_setIfInBounds];by_cases hj:i=j
 ·subst hj;have h1:i<listed.size+1:=by omega
  have h2:i≠listed.size:=by omega
  simp[h,h1,h2]
 ·simp[hj]
def Closed (md:Region.Mode)(l:List Oper)(listed:Array Bool):Prop:=∀j oj,l[j]? =some oj->listed.getD j false=true->∀e∈oj.after,Region.binds md e=true->listed.getD e.on false=true
theorem Y8 (hok:Jp md l o=true):∀(fuel:Nat) (listed:Array Bool) (a:Act) (w:World),listed.size=l.length->Closed md l listed->
  wpAnyH P md l.toArray (Exit.then (fun a w=>wpList P (l ++ [o]).toArray Q [o] a w) Q) S fuel listed a w->wpAny P md (l ++ [o]).toArray Q (fuel+1) (listed.push false) a w:=by
 simp only[Jp,Bool.and_eq_true,List.all_eq_true,List.any_eq_true,List.mem_range,Array.all_eq_true_iff_forall_mem,Array.any_eq_true',Bool.or_eq_true,decide_eq_true_eq,beq_iff_eq,Bool.not_eq_true',Option.isNone_iff_eq_none]at hok;obtain⟨⟨⟨⟨hg,hgo⟩,hall⟩,hon⟩,hbef⟩:=hok
 have hfull:∀(listed:Array Bool),listed.size=l.length->Closed md l listed->(∀e∈o.after,Region.binds md e=true->(listed.push false).getD e.on false=true)->∀(d i:Nat),l.length - i=d->i<l.length->listed.getD i false=true:=by
  intro listed hs hc hr d
  induction d using Nat.strongRecOn with
  | _ d ih=>
   intro i hd hi;rcases hall i hi with⟨e,he,hb,hone⟩|⟨j,hj,hij,hw⟩
   ·have:=hr e he hb
    rwa [hone,JW _ (by omega)]at this
   ·rw[Qq hj]at hw;simp only[Option.map_some,Option.getD_some,Array.any_eq_true',Bool.and_eq_true,beq_iff_eq]at hw;obtain⟨e,he,hb,hone⟩:=hw;have hlj:=ih (l.length - j) (by omega) j rfl hj;have:=hc j _ (Qq hj) hlj e he hb
    rwa [hone]at this
 have hops:∀i,i<l.length->(l ++ [o]).toArray[i]? =l[i]? :=fun i hi=>by
  simp only[List.getElem?_toArray];rw[List.getElem?_append_left hi]
 have hlast:(l ++ [o]).toArray[l.length]? =some o:=by simp
 have hbef':∀i oi,l[i]? =some oi->∀e∈oi.after,Region.binds md e=true->e.on<i:=by
  intro i oi hi e he hb;have:=hbef i (Qz hi).1;rw[hi]at this;simp only[Option.map_some,Option.getD_some,Array.all_eq_true_iff_forall_mem,Bool.or_eq_true,Bool.not_eq_true',decide_eq_true_eq]at this;rcases this e he with h|h
  ·rw[hb]at h;cases h
  ·exact h
 have hready:∀(listed:Array Bool) (i:Nat),listed.size=l.length->i<l.length->(i∈Region.ready md (l ++ [o]).toArray (listed.push false)↔i∈Region.ready md l.toArray listed):=by
  intro listed i hs hi;rw[mem_ready,mem_ready,JW _ (by omega),hops i hi];have e1:l.toArray[i]? =l[i]? :=by simp
  rw[e1];constructor
  ·rintro⟨h1,oi,hoi,h2⟩;exact⟨h1,oi,hoi,fun e he hb=>by have:=h2 e he hb;rwa [JW _ (by have:=hbef' i oi hoi e he hb;omega)]at this⟩
  ·rintro⟨h1,oi,hoi,h2⟩;exact⟨h1,oi,hoi,fun e he hb=>by rw[JW _ (by have:=hbef' i oi hoi e he hb;omega)];exact h2 e he hb⟩
 have hsome:∀(listed:Array Bool),listed.size=l.length->Region.ready md (l ++ [o]).toArray (listed.push false)≠[]:=by
  intro listed hs h0
  have hl:∀i,i<l.length->listed.getD i false=true:=by
   intro i
   induction i using Nat.strongRecOn with
   | _ i ih=>
    intro hi
    cases hb:listed.getD i false with
    |true=>rfl
    | false=>
     have hm:i∈Region.ready md (l ++ [o]).toArray (listed.push false):=by
      rw[hready listed i hs hi,mem_ready];refine⟨getD_in (by omega) hb,_,by rw[List.getElem?_toArray];exact Qq hi,fun e he hbd=>?_⟩;have:=hbef' i _ (Qq hi) e he hbd;exact ih e.on this (by omega)
     rw[h0]at hm;cases hm
  have hm:l.length∈Region.ready md (l ++ [o]).toArray (listed.push false):=by
   rw[mem_ready];refine⟨by rw[<-hs];exact sG _,o,hlast,fun e he hb=>?_⟩;rcases hon e he with h|h
   ·rw[hb]at h;cases h
   ·rw[JW _ (by omega)];exact hl _ h
  rw[h0]at hm;cases hm
 intro fuel
 induction fuel with
 | zero=>
  intro listed a w hs hc h;refine⟨fun h0=>absurd h0 (hsome listed hs),fun i hi=>?_⟩;have hi':=(mem_ready.1 hi);obtain⟨_,oi,hoi,hedges⟩:=hi';have hle:i<l.length+1:=by have:=(Array.getElem?_eq_some_iff.1 hoi).1;simpa using this
  rcases Nat.lt_or_ge i l.length with hlt|hge
  ·rw[hready listed i hs hlt,h.1]at hi;cases hi
  ·obtain rfl:i=l.length:=by omega
   have hq:wpList P (l ++ [o]).toArray Q [o] a w:=h.2;unfold wpOp;simp only[hlast];have hw:Region.wanted o (yielded (l ++ [o]).toArray a.tmps)=true:=by simp[Region.wanted,hgo]
   simp only[wpList,hw,if_true]at hq ⊢;refine hq.imp (Oper.wp_mono fun a' w' hh=>?_) id;refine wpAny_done ?_ hh 0
   cases hr:Region.ready md (l ++ [o]).toArray ((listed.push false).setIfInBounds l.length true) with
   |nil=>rfl
   | cons j js=>
    exfalso
    have hj:j∈Region.ready md (l ++ [o]).toArray ((listed.push false).setIfInBounds l.length true):=by rw[hr];exact List.mem_cons_self
    obtain⟨h1,oj,hoj,h2⟩:=mem_ready.1 hj;have hjl:j<l.length+1:=by have:=(Array.getElem?_eq_some_iff.1 hoj).1;simpa using this
    by_cases hjn:l.length=j
    ·subst hjn;simp[Array.getD,hs]at h1
    ·rw[getD_set_ne true hjn,JW _ (by omega)]at h1;rw[hlast]at hoi;cases hoi;have:=hfull listed hs hc hedges _ j rfl (by omega);have h3:=getD_both h1;rw[this]at h3;cases h3
 | succ fuel ih=>
  intro listed a w hs hc h;refine⟨fun h0=>absurd h0 (hsome listed hs),fun i hi=>?_⟩;obtain⟨_,oi,hoi,hedges⟩:=mem_ready.1 hi;have hle:i<l.length+1:=by have:=(Array.getElem?_eq_some_iff.1 hoi).1;simpa using this
  rcases Nat.lt_or_ge i l.length with hlt|hge
  ·have h1:=h.2 i ((hready listed i hs hlt).1 hi);rw[hops i hlt]at hoi;have hgi:oi.guard=none:=hg oi (Qx hoi);refine wpOp_mono (fun a' w' hh=>?_) (eG (o:=o) hoi hgi h1);rw[Gk (by omega)];refine ih _ _ _ (by simpa using hs) ?_ hh.2;intro j oj hj hlj e he hb;by_cases hij:i=j
   ·subst hij;rw[hoi]at hj;cases hj;have:=hedges e he hb;rw[JW _ (by have:=hbef' i oi hoi e he hb;omega)]at this;exact getD_set_true this
   ·rw[getD_set_ne false hij]at hlj;exact getD_set_true (hc j oj hj hlj e he hb)
  ·obtain rfl:i=l.length:=by omega
   have hemp:Region.ready md l.toArray listed=[]:=by
    cases hr:Region.ready md l.toArray listed with
    |nil=>rfl
    |cons j js=>
     exfalso
     have hj:j∈Region.ready md l.toArray listed:=by rw[hr];exact List.mem_cons_self
     obtain⟨h1,oj,hoj,_⟩:=mem_ready.1 hj;have hjl:j<l.length:=by have:=(Array.getElem?_eq_some_iff.1 hoj).1;simpa using this
     rw[hlast]at hoi;cases hoi;have:=hfull listed hs hc hedges _ j rfl hjl;have h3:=getD_both h1;rw[this]at h3;cases h3
   have hq:wpList P (l ++ [o]).toArray Q [o] a w:=h.1 hemp;unfold wpOp;simp only[hlast];have hw:Region.wanted o (yielded (l ++ [o]).toArray a.tmps)=true:=by simp[Region.wanted,hgo]
   simp only[wpList,hw,if_true]at hq ⊢;refine hq.imp (Oper.wp_mono fun a' w' hh=>?_) id;refine wpAny_done ?_ hh _
   cases hr:Region.ready md (l ++ [o]).toArray ((listed.push false).setIfInBounds l.length true) with
   |nil=>rfl
   | cons j js=>
    exfalso
    have hj:j∈Region.ready md (l ++ [o]).toArray ((listed.push false).setIfInBounds l.length true):=by rw[hr];exact List.mem_cons_self
    obtain⟨h1,oj,hoj,h2⟩:=mem_ready.1 hj;have hjl:j<l.length+1:=by have:=(Array.getElem?_eq_some_iff.1 hoj).1;simpa using this
    by_cases hjn:l.length=j
    ·subst hjn;simp[Array.getD,hs]at h1
    ·rw[getD_set_ne true hjn,JW _ (by omega)]at h1;rw[hlast]at hoi;cases hoi;have:=hfull listed hs hc hedges _ j rfl (by omega);have h3:=getD_both h1;rw[this]at h3;cases h3
theorem VK {id:Nat}{a:Act}{w:World}{ops:List Oper}(n:Nat)(hm:P.follows .mixedOrders=true)(ho:ops[n]? =some o)(hlen:ops.length=n+1)(hok:Jp .any (ops.take n) o=true)(S:World->Prop)(hS:S w.drew)
  (h:S w.drew->wpAnyH P .any (ops.take n).toArray (Exit.then (fun a w=>wpList P ops.toArray Q [o] a w) Q) S n (Array.replicate n false) a w.drew):(Code.region id ops.toArray true).wp P Q a w:=by
 have hn:ops.take n ++ [o]=ops:=by
  have h1:ops.take (n+1)=ops:=Qj (by omega);rw[List.take_add_one,ho]at h1;exact h1
 have hl:(ops.take n).length=n:=by rw[List.length_take];omega
 refine wp_region_any hm ?_;have h2:=h hS;have e0:wpList P ops.toArray Q [o]=wpList P (ops.take n ++ [o]).toArray Q [o]:=by rw[hn]
 rw[e0]at h2;have h3:=Y8 (P:=P) (Q:=Q) (S:=S) hok n (Array.replicate n false) a w.drew (by simp[hl]) (fun j oj _ hlj=>by rw[getD_replicate_false]at hlj;cases hlj) h2;rw[hn]at h3
 have e:(Array.replicate n false).push false=Array.replicate ops.toArray.size false:=by
  rw[List.size_toArray,hlen,Array.replicate_succ]
 rw[e]at h3;rw[show ops.toArray.size=n+1 by simpa using hlen];rw[show ops.toArray.size=n+1 by simpa using hlen]at h3;exact h3
theorem rgS {E S:World->Prop}{id:Nat}{a:Act}{w:World}{ops:List Oper}{o:Oper}(n:Nat)(ho:ops[n]? =some o)(hlen:ops.length=n+1)(hel:∀w',E w'->S w')(hx:E w.drew)
  (h:S w.drew->wpAnyH P .any (ops.take n).toArray (Exit.then (fun a w=>wpList P ops.toArray Q [o] a w) Q) S n (Array.replicate n false) a w.drew) (hm:P.follows .mixedOrders=true:=by kernel_rfl) (hok:Jp .any (ops.take n) o=true:=by kernel_rfl):(Code.region id ops.toArray true).wp P Q a w:=
 VK n hm ho hlen hok S (hel _ hx) h
end
section
variable {P:Program}{Q:Exit->Act->World->Prop}{md:Region.Mode}{S:World->Prop}
theorem xC {ops:Array Oper}:∀(fuel:Nat) (listed:Array Bool) (a:Act) (w:World),wpAny P md ops Q fuel listed a w->wpAnyH P md ops Q (fun _=>True) fuel listed a w
 |0,_,_,_,h=>h
 |fuel+1,_,_,_,h=>⟨h.1,fun i hi=>wpOp_mono (fun a' w' h'=>⟨trivial,xC fuel _ a' w' h'⟩) (h.2 i hi)⟩
theorem zg {md:Region.Mode}{l:List Oper}{n:Nat}:Closed md l (Array.replicate n false):=fun j oj _ hlj=>by rw[getD_replicate_false]at hlj;cases hlj
theorem xq (n:Nat):(Array.replicate n false).push false=Array.replicate (n+1) false:=by rw[Array.replicate_succ]
theorem sk {id:Nat}{a:Act}{w:World}{ops:List Oper}{o1 o2:Oper}(n:Nat)(hm:P.follows .mixedOrders=true)(h1:ops[n]? =some o1)(h2:ops[n+1]? =some o2)(hlen:ops.length=n+2)
  (k1:Jp .any (ops.take n) o1=true) (k2:Jp .any (ops.take (n+1)) o2=true) (S:World->Prop) (hS:S w.drew)
  (h:S w.drew->wpAnyH P .any (ops.take n).toArray (Exit.then (fun a w=>wpList P (ops.take (n+1)).toArray (Exit.then (fun a w=>wpList P ops.toArray Q [o2] a w) Q) [o1] a w) (Exit.then (fun a w=>wpList P ops.toArray Q [o2] a w) Q)) S n (Array.replicate n false) a w.drew):(Code.region id ops.toArray true).wp P Q a w:=by
 have e1:ops.take n ++ [o1]=ops.take (n+1):=by rw[List.take_add_one,h1];rfl
 have e2:ops.take (n+1) ++ [o2]=ops:=by
  have h0:ops.take (n+2)=ops:=Qj (by omega);rw[show n+2=n+1+1 from rfl,List.take_add_one,h2]at h0;exact h0
 have l1:(ops.take n).length=n:=by rw[List.length_take];omega
 have l2:(ops.take (n+1)).length=n+1:=by rw[List.length_take];omega
 refine wp_region_any hm ?_;have g1:=h hS;obtain⟨Q2,hQ2⟩:=Qg (Exit.then (fun a w=>wpList P ops.toArray Q [o2] a w) Q);rw[hQ2]at g1;rw[<-e1]at g1;have g2:=xC _ _ _ _ (Y8 (P:=P) (Q:=Q2) (S:=S) k1 n (Array.replicate n false) a w.drew (by simp[l1]) zg g1);rw[xq,e1,<-hQ2]at g2;have e0:wpList P ops.toArray Q [o2]=wpList P (ops.take (n+1) ++ [o2]).toArray Q [o2]:=by rw[e2]
 rw[e0]at g2;have g3:=Y8 (P:=P) (Q:=Q) (S:=fun _=>True) k2 (n+1) (Array.replicate (n+1) false) a w.drew (by simp[l2]) zg g2;rw[xq,e2]at g3;rw[show ops.toArray.size=n+2 by simpa using hlen];exact g3
theorem sj {id:Nat}{a:Act}{w:World}{ops:List Oper}{o1 o2 o3:Oper}(n:Nat)(hm:P.follows .mixedOrders=true)(h1:ops[n]? =some o1)(h2:ops[n+1]? =some o2)(h3:ops[n+2]? =some o3)(hlen:ops.length=n+3)
  (k1:Jp .any (ops.take n) o1=true) (k2:Jp .any (ops.take (n+1)) o2=true) (k3:Jp .any (ops.take (n+2)) o3=true) (S:World->Prop) (hS:S w.drew)
  (h:S w.drew->wpAnyH P .any (ops.take n).toArray (Exit.then (fun a w=>wpList P (ops.take (n+1)).toArray (Exit.then (fun a w=>wpList P (ops.take (n+2)).toArray (Exit.then (fun a w=>wpList P ops.toArray Q [o3] a w) Q) [o2] a w) (Exit.then (fun a w=>wpList P ops.toArray Q [o3] a w) Q)) [o1] a w)
   (Exit.then (fun a w=>wpList P (ops.take (n+2)).toArray (Exit.then (fun a w=>wpList P ops.toArray Q [o3] a w) Q) [o2] a w) (Exit.then (fun a w=>wpList P ops.toArray Q [o3] a w) Q))) S n (Array.replicate n false) a w.drew):(Code.region id ops.toArray true).wp P Q a w:=by
 have e1:ops.take n ++ [o1]=ops.take (n+1):=by rw[List.take_add_one,h1];rfl
 have e2:ops.take (n+1) ++ [o2]=ops.take (n+2):=by
  show _=ops.take (n+1+1)
  conv=>rhs;rw[List.take_add_one,h2]
  rfl
 have e3:ops.take (n+2) ++ [o3]=ops:=by
  have h0:ops.take (n+3)=ops:=Qj (by omega);rw[show n+3=n+2+1 from rfl,List.take_add_one,h3]at h0;exact h0
 have l1:(ops.take n).length=n:=by rw[List.length_take];omega
 have l2:(ops.take (n+1)).length=n+1:=by rw[List.length_take];omega
 have l3:(ops.take (n+2)).length=n+2:=by rw[List.length_take];omega
 refine wp_region_any hm ?_;have g1:=h hS;obtain⟨Q3,hQ3⟩:=Qg (Exit.then (fun a w=>wpList P ops.toArray Q [o3] a w) Q);obtain⟨Q2,hQ2⟩:=Qg (Exit.then (fun a w=>wpList P (ops.take (n+2)).toArray Q3 [o2] a w) Q3);rw[hQ3,hQ2]at g1;rw[<-e1]at g1;have g2:=xC _ _ _ _ (Y8 (P:=P) (Q:=Q2) (S:=S) k1 n (Array.replicate n false) a w.drew (by simp[l1]) zg g1);rw[xq,e1,<-hQ2,<-e2]at g2;have g3:=xC _ _ _ _ (Y8 (P:=P) (Q:=Q3) (S:=fun _=>True) k2 (n+1) (Array.replicate (n+1) false) a w.drew (by simp[l2]) zg g2);rw[xq,e2,<-hQ3]at g3;have e0:wpList P ops.toArray Q [o3]=wpList P (ops.take (n+2) ++ [o3]).toArray Q [o3]:=by rw[e3]
 rw[e0]at g3;have g4:=Y8 (P:=P) (Q:=Q) (S:=fun _=>True) k3 (n+2) (Array.replicate (n+2) false) a w.drew (by simp[l3]) zg g3;rw[xq,e3]at g4;rw[show ops.toArray.size=n+3 by simpa using hlen];exact g4
end
end Go.Deco
