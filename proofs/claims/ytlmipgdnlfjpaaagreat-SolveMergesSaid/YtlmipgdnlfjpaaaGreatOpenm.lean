/- Merged by program from texts of my own. -/
import Derived.Test.YtlmipgdnlfjpaaaGreatBasm
import Derived.Deep.Slices
import Derived.ChangeSame
import Derived.Lib.SmallJoins
namespace Go.Deco
open Go Go.RowKit Go.ChangeShapes Go.WideShapes Go.Deep Go.Joins
def Opens (P:Program){E:Type}(R:Rep E)(e:TypeId):Prop:=
 ∀(H:Type) (enc:TypeId×Value→H) (w:World) (base:Nat) (spare:Nat→Bool) (held:Bool) (fuel:Nat) (cs:List Value) (x:DataW H×List MemPlace),
  DataW.trod enc P w base spare held fuel e cs=some x→∃el,R.rel w All cs el
theorem list_of {E:Type}{p:Nat→E→Prop}:∀(n:Nat),(∀i,i<n→∃x,p i x)→∃l:List E,l.length=n∧∀i x,l[i]? =some x→p i x
 |0,_=>⟨[],rfl,fun i x h=>by simp at h⟩
 | n+1,h=>by
  obtain⟨l,hl,hp⟩:=list_of n (fun i hi=>h i (by omega));obtain⟨x,hx⟩:=h n (by omega);refine⟨l ++ [x],by simp[hl],fun i y hy=>?_⟩;by_cases hi:i<l.length
  ·rw[List.getElem?_append_left hi]at hy;exact hp i y hy
  ·rw[List.getElem?_append_right (by omega)]at hy
   have:i=n:=by
    have:=(List.getElem?_eq_some_iff.1 hy).1;simp at this;omega
   subst this;simp[hl]at hy;subst hy;exact hx
theorem spot_none {w:World}{a:Addr}{u:Value}(h:w.cell? a=some u):a=⟨a.block,a.off,none⟩:=by
 unfold World.cell? at h
 split at h
 ·split at h
  ·cases h
  ·rename_i hs
   obtain⟨b,o,s⟩:=a
   cases s with
   |none=>rfl
   |some s=>simp at hs
 ·cases h
theorem add_none (b off k:Nat):(⟨b,off,none⟩:Addr).add k=⟨b,off+k,none⟩:=by
 unfold Addr.add
 split
 ·subst_vars;rfl
 ·rfl
section
variable {P:Program}{E:Type}{R:Rep E}
theorem opens_slice {t e:TypeId}(ht:P.underlying t=some (.slice e))(hC:P.cellsOf e=R.size)(h:Opens P R e):Opens P (slR R) t:=by
 intro H enc w base spare held fuel cs x hx;rcases open_slice ht hx with⟨rfl,_⟩|⟨a,len,cap,m,n,D,Pl,rfl,hb,hl,hm,hmm,_,hel⟩
 ·exact⟨[],_,rfl,Sl.nil⟩
 ·have hlm:len≤m:=by rw[hmm];split <;> omega
  obtain⟨l,hll,hlp⟩:=list_of (E:=E) (p:=fun i el=>∃cs,R.rel w All cs el∧∀j u,cs[j]? =some u→w.cell? ((a.add (i * R.size)).add j)=some u) len (fun i hi=>by
   obtain⟨cs',hc,ht'⟩:=hel i (by omega);rw[hC]at hc;obtain⟨el,hr⟩:=h H enc w base spare held n cs' _ ht';obtain⟨_,hcl,hat⟩:=World.cells?_some hc;refine⟨el,cs',hr,fun j u hu=>?_⟩;have:=(List.getElem?_eq_some_iff.1 hu).1;rw[hat j (by omega),hu])
  refine⟨l,_,rfl,some a,cap,by rw[hll],by omega,hm,by simp,fun hne=>?_⟩;have hpos:=R.pos
  have h0:∃u,w.cell? a=some u:=by
   obtain⟨e0,l0,rfl⟩:=List.exists_cons_of_ne_nil hne;obtain⟨cs,hr,hc⟩:=hlp 0 e0 rfl;have hlen:=R.len hr;have:=hc 0 cs[0] (List.getElem?_eq_getElem (by omega));rw[Nat.zero_mul]at this;exact⟨_,this⟩
  obtain⟨u,h0⟩:=h0;have hsp:=spot_none h0;refine⟨a.block,a.off,by rw[←hsp],trivial,fun k el hk=>?_⟩;obtain⟨cs,hr,hc⟩:=hlp k el hk;refine⟨cs,hr,fun j v hv=>?_⟩;have:=hc j v hv;rw[hsp,add_none,add_none]at this
  rwa [←Nat.add_assoc]
theorem opens_i64 {e:TypeId}(he:P.underlying e=some (.int .i64)):Opens P i64R e:=by
 intro H enc w base spare held fuel cs x hx;obtain⟨n,rfl,_,hw⟩:=DataW.trod_int he hx;exact⟨n,rfl,wf64i hw⟩
end
end Go.Deco
