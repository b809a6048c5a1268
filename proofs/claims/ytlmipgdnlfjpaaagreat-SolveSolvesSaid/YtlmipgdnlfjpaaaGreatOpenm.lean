/- Lemmas of mine, merged. -/
import Derived.Test.YtlmipgdnlfjpaaaGreatBasm
import Derived.Deep.Slices
import Derived.ChangeSame
import Derived.Lib.SmallJoins
namespace Go.Deco
open Go Go.RowKit Go.ChangeShapes Go.WideShapes Go.Deep Go.Joins
def F1 (P:Program){E:Type}(R:Rep E)(e:TypeId):Prop:=
 ∀(H:Type) (enc:TypeId×Value->H) (w:World) (base:Nat) (spare:Nat->Bool) (held:Bool) (fuel:Nat) (cs:List Value) (x:DataW H×List MemPlace),
  DataW.trod enc P w base spare held fuel e cs=some x->∃el,R.rel w All cs el
theorem nv {E:Type}{p:Nat->E->Prop}:∀(n:Nat),(∀i,i<n->∃x,p i x)->∃l:List E,l.length=n/\∀i x,l[i]? =some x->p i x
 |0,_=>⟨[],rfl,fun i x h=>by simp at h⟩
 | n+1,h=>by
  obtain⟨l,hl,hp⟩:=nv n (fun i hi=>h i (by omega));obtain⟨x,hx⟩:=h n (by omega);refine⟨l ++ [x],by simp[hl],fun i y hy=>?_⟩;by_cases hi:i<l.length
  ·rw[List.getElem?_append_left hi]at hy;exact hp i y hy
  ·rw[List.getElem?_append_right (by omega)]at hy
   have:i=n:=by
    have:=(Qz hy).1;simp at this;omega
   subst this;simp[hl]at hy;subst hy;exact hx
theorem ey {w:World}{a:Addr}{u:Value}(h:w.cell? a=some u):a=⟨a.block,a.off,none⟩:=by
 unfold World.cell? at h
 split at h
 ·split at h
  ·cases h
  ·rename_i hs
   obtain⟨b,o,s⟩:=a
   cases s with
   |none=>rfl
   |some s=>simp at hs
 ·cases h
theorem bj (b off k:Nat):(⟨b,off,none⟩:Addr).add k=⟨b,off+k,none⟩:=by
 unfold Addr.add
 split
 ·subst_vars;rfl
 ·rfl
section
variable {P:Program}{E:Type}{R:Rep E}
end
end Go.Deco
