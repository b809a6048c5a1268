/- Merged by program from texts of my own. -/
import Derived.Test.YtlmipgdnlfjpaaaGreatPlam
import Derived.Maps.Range
namespace Go.Deco
open Go Go.RowKit
set_option linter.unusedSimpArgs false
set_option linter.unusedVariables false
def cntD (n:Nat)(f:Int→Option Value):Nat:=((List.range n).filter fun q:Nat=>(f q).isSome).length
theorem cntD_le (n:Nat)(f:Int→Option Value):cntD n f≤n:=Nat.le_trans (List.length_filter_le _ _) (by simp)
theorem cntD_nil (n:Nat):cntD n (fun _=>none)=0:=by
 unfold cntD;rw[List.length_eq_zero_iff,List.filter_eq_nil_iff];intro a _;simp
theorem filter_one {p p':Nat→Bool}{q:Nat}:∀{L:List Nat},L.Nodup→q∈L→p q=false→p' q=true→(∀x,x≠q→p' x=p x)→(L.filter p').length=(L.filter p).length+1
 |[],_,h,_,_,_=>by cases h
 | x :: L,hn,hq,h0,h1,he=>by
  rw[List.nodup_cons]at hn;by_cases hx:x=q
  ·subst hx;rw[List.filter_cons_of_pos h1,List.filter_cons_of_neg (by simp[h0]),List.length_cons];have:L.filter p'=L.filter p:=List.filter_congr fun y hy=>he y (fun e=>hn.1 (by rw[←e];exact hy));rw[this]
  ·have hq':q∈L:=by
    rcases List.mem_cons.1 hq with e|e
    ·exact absurd e.symm hx
    ·exact e
   have ih:=filter_one hn.2 hq' h0 h1 he;have ex:=he x hx;by_cases hp:p x=true
   ·rw[List.filter_cons_of_pos (by rw[ex];exact hp),List.filter_cons_of_pos hp,List.length_cons,List.length_cons,ih]
   ·rw[List.filter_cons_of_neg (by rw[ex];exact hp),List.filter_cons_of_neg hp,ih]
theorem cntD_put {n:Nat}{f:Int→Option Value}{q:Nat}{v:Value}(hq:q<n)(hf:f q=none):cntD n (fun j=>if j=(q:Int) then some v else f j)=cntD n f+1:=by
 unfold cntD;refine filter_one (q:=q) List.nodup_range (List.mem_range.2 hq) (by simp[hf]) (by simp) (fun x hx=>?_);have:¬((x:Int)=(q:Int)):=by omega
 simp[this]
def seenF (L:List Nat)(x:Int):Option Value:=if 0≤x∧x.toNat∈L then some (.bool true) else none
theorem seenF_at (L:List Nat)(y:Nat):seenF L y=if y∈L then some (.bool true) else none:=by
 unfold seenF;by_cases h:y∈L
 ·rw[if_pos ⟨by omega,by simpa using h⟩,if_pos h]
 ·rw[if_neg (fun e=>h (by simpa using e.2)),if_neg h]
theorem seenF_get (L:List Nat)(y:Nat):(seenF L y).getD (.bool false)= .bool (decide (y∈L)):=by
 rw[seenF_at];by_cases h:y∈L <;> simp[h]
theorem seenF_put (L:List Nat)(y:Nat)(x:Int):seenF (L ++ [y]) x=if x=(y:Int) then some (.bool true) else seenF L x:=by
 unfold seenF;by_cases hx:x=(y:Int)
 ·subst hx;simp
 ·rw[if_neg hx];by_cases h:0≤x∧x.toNat∈L
  ·rw[if_pos h,if_pos ⟨h.1,List.mem_append_left _ h.2⟩]
  ·rw[if_neg h,if_neg];rintro⟨h0,h1⟩;rcases List.mem_append.1 h1 with h1|h1
   ·exact h ⟨h0,h1⟩
   ·have:x.toNat=y:=by simpa using h1
    omega
theorem nodup_len {n:Nat}{L:List Nat}(h:L.Nodup)(hs:∀x∈L,x<n):L.length≤n:=by
 have key:∀{L E:List Nat},L.Nodup→(∀x∈L,x∈E)→L.length≤E.length:=by
  intro L
  induction L with
  |nil=>intro E _ _;simp
  |cons y L ih=>
   intro E h hs;rw[List.nodup_cons]at h;have hy:y∈E:=hs y (by simp);have h1:=ih (E:=E.erase y) h.2 fun x hx=>(List.mem_erase_of_ne (fun e=>h.1 (by rw[←e];exact hx))).2 (hs x (by simp[hx]));rw[List.length_erase_of_mem hy]at h1;have:=List.length_pos_of_mem hy;rw[List.length_cons];omega
 have:=key (E:=List.range n) h (fun x hx=>List.mem_range.2 (hs x hx));simpa using this
structure LdR (l:List Con)(n:Nat)(r:Nat→Nat)(a:Nat)(SN WK:List Nat)(cur:Option (Nat×List Nat)):Prop where
 nd:SN.Nodup
 start:a∈SN
 ok:∀x∈SN,x<n∧r x=x∧IsPtr l (x:Int)∧RchN l r a x
 wnd:WK.Nodup
 wk:∀x∈WK,x∈SN
 cl:∀x∈SN,x∉WK→(∀k Z,cur=some (k,Z)→x≠k)→∀c∈l,wideC c=true→r c.a.toNat=x→IsPtr l c.b→r c.b.toNat∈SN
 now:∀k Z,cur=some (k,Z)→k∈SN∧∀x∈Z,x∈SN
section
variable {l:List Con}{n:Nat}{r:Nat→Nat}{a:Nat}{SN WK:List Nat}
theorem LdR.begin (ha : a < n) (hr :r a=a) (hp:IsPtr l (a:Int)):LdR l n r a [a] [a] none:=
 ⟨by simp, by simp, fun x hx => by obtain rfl:x=a:=by simpa using hx
                                   exact⟨ha,hr,hp,.refl _⟩,by simp,fun x hx=>hx,fun x hx hn=>absurd hx hn,fun _ _ h=>(by cases h)⟩
theorem LdR.pop {k:Nat}(h:LdR l n r a SN (WK ++ [k]) none):LdR l n r a SN WK (some (k,[])):=by
 have hn:=List.nodup_append.1 h.wnd;refine⟨h.nd,h.start,h.ok,hn.1,fun x hx=>h.wk x (List.mem_append_left _ hx),fun x hx hw hk=>h.cl x hx ?_ (fun _ _ e=>by cases e),fun k' Z e=>?_⟩
 ·intro e;rcases List.mem_append.1 e with e|e
  ·exact hw e
  ·exact hk k [] rfl (by simpa using e)
 ·cases e;exact⟨h.wk k (by simp),fun x hx=>by cases hx⟩
theorem LdR.had {k y:Nat}{Z:List Nat}(h:LdR l n r a SN WK (some (k,Z)))(hy:y∈SN):LdR l n r a SN WK (some (k,Z ++ [y])):=
 ⟨h.nd,h.start,h.ok,h.wnd,h.wk,fun x hx hw hk=>h.cl x hx hw (fun k' Z' e=>by cases e;exact hk k _ rfl),fun k' Z' e=>by
  cases e;refine⟨(h.now k Z rfl).1,fun x hx=>?_⟩;rcases List.mem_append.1 hx with hx|hx
  ·exact(h.now k Z rfl).2 x hx
  ·obtain rfl:x=y:=by simpa using hx
   exact hy⟩
theorem LdR.add {k y:Nat}{Z:List Nat}(h:LdR l n r a SN WK (some (k,Z)))(hy:y∉SN)(hok:y<n∧r y=y∧IsPtr l (y:Int)∧RchN l r a y):LdR l n r a (SN ++ [y]) (WK ++ [y]) (some (k,Z ++ [y])):=by
 refine⟨List.nodup_append.2 ⟨h.nd,by simp,fun x hx z hz e=>?_⟩,List.mem_append_left _ h.start,fun x hx=>?_,List.nodup_append.2 ⟨h.wnd,by simp,fun x hx z hz e=>?_⟩,fun x hx=>?_,fun x hx hw hk c hc w ha hp=>?_,fun k' Z' e=>?_⟩
 ·obtain rfl:z=y:=by simpa using hz
  exact hy (by rw[←e];exact hx)
 ·rcases List.mem_append.1 hx with hx|hx
  ·exact h.ok x hx
  ·obtain rfl:x=y:=by simpa using hx
   exact hok
 ·obtain rfl:z=y:=by simpa using hz
  exact hy (h.wk z (by rw[←e];exact hx))
 ·rcases List.mem_append.1 hx with hx|hx
  ·exact List.mem_append_left _ (h.wk x hx)
  ·exact List.mem_append_right _ hx
 ·rcases List.mem_append.1 hx with hx|hx
  ·exact List.mem_append_left _ (h.cl x hx (fun e=>hw (List.mem_append_left _ e)) (fun k' Z' e=>by cases e;exact hk k _ rfl) c hc w ha hp)
  ·exact absurd (List.mem_append_right _ hx) hw
 ·cases e;refine⟨List.mem_append_left _ (h.now k Z rfl).1,fun x hx=>?_⟩;rcases List.mem_append.1 hx with hx|hx
  ·exact List.mem_append_left _ ((h.now k Z rfl).2 x hx)
  ·exact List.mem_append_right _ hx
theorem LdR.close {k:Nat}{Z:List Nat}(h:LdR l n r a SN WK (some (k,Z)))(hz:∀c∈l,wideC c=true→r c.a.toNat=k→IsPtr l c.b→r c.b.toNat∈Z):LdR l n r a SN WK none:=by
 refine⟨h.nd,h.start,h.ok,h.wnd,h.wk,fun x hx hw _ c hc w ha hp=>?_,fun _ _ e=>(by cases e)⟩;by_cases hxk:x=k
 ·exact(h.now k Z rfl).2 _ (hz c hc w (ha.trans hxk) hp)
 ·exact h.cl x hx hw (fun k' Z' e=>by cases e;exact hxk) c hc w ha hp
theorem LdR.done (h:LdR l n r a SN [] none){y:Nat}:y∈SN↔RchN l r a y:=by
 refine⟨fun hy=>(h.ok y hy).2.2.2,fun hy=>?_⟩
 induction hy with
 |refl=>exact h.start
 |step _ hc hw ha hp ih=>exact h.cl _ ih (by simp) (fun _ _ e=>by cases e) _ hc hw ha hp
theorem LdR.len {cur:Option (Nat×List Nat)}(h:LdR l n r a SN WK cur):SN.length≤n∧WK.length≤n:=
 ⟨nodup_len h.nd fun x hx=>(h.ok x hx).1,nodup_len h.wnd fun x hx=>(h.ok x (h.wk x hx)).1⟩
end
end Go.Deco
