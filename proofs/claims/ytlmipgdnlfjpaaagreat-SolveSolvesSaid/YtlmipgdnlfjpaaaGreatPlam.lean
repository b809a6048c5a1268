/- Lemmas of mine, merged. -/
import Derived.Test.YtlmipgdnlfjpaaaGreatBasm
import Derived.Maps.Range
set_option linter.unusedSimpArgs false
set_option linter.unusedVariables false
namespace Go.Deco
open Go Go.RowKit
inductive Ty where
 |mk (kind size count:Int) (elem:List Ty) (fields:List (Int×Ty))
namespace Ty
def kind:Ty->Int|mk k _ _ _ _=>k
def size:Ty->Int|mk _ s _ _ _=>s
def count:Ty->Int|mk _ _ c _ _=>c
def elem:Ty->List Ty|mk _ _ _ e _=>e
def fields:Ty->List (Int×Ty)|mk _ _ _ _ f=>f
end Ty
def Qy (n:Int):Prop:= -9223372036854775808<=n/\n<=9223372036854775807
def fdR (R:Rep Ty):Rep (Int×Ty) where
 size:=R.size+1
 pos:=by omega
 rel w S cs f:=∃r,cs= .int .i64 f.1 :: r/\R.rel w S r f.2/\Qy f.1
 keep hk:=fun⟨r,h1,h2,h3⟩=>⟨r,h1,R.keep hk h2,h3⟩
 mono hk:=fun⟨r,h1,h2,h3⟩=>⟨r,h1,R.mono hk h2,h3⟩
 len:=fun⟨r,h1,h2,_⟩=>by rw[h1,List.length_cons,R.len h2]
 one:=fun⟨r,h1,h2,_⟩ u hu=>by
  rw[h1]at hu;rcases List.mem_cons.1 hu with rfl|hu
  ·rfl
  ·exact R.one h2 u hu
def ty0:Rep Ty:={size:=5,pos:=by omega,rel:=fun _ _ _ _=>False,keep:=fun _ h=>h,mono:=fun _ h=>h,len:=fun h=>h.elim,one:=fun h=>h.elim}
def tyS (R:Rep Ty):Rep Ty where
 size:=5
 pos:=by omega
 rel w S cs t:=∃ve vf,cs=[.int .i64 t.kind,.int .i64 t.size,.int .i64 t.count,ve,vf]/\Sl R w S ve t.elem/\Sl (fdR R) w S vf t.fields/\Qy t.kind/\Qy t.size/\Qy t.count
 keep hk:=fun⟨ve,vf,h1,h2,h3,h4⟩=>⟨ve,vf,h1,h2.keep hk,h3.keep hk,h4⟩
 mono hk:=fun⟨ve,vf,h1,h2,h3,h4⟩=>⟨ve,vf,h1,h2.mono hk,h3.mono hk,h4⟩
 len:=fun⟨ve,vf,h1,_⟩=>by rw[h1];rfl
 one:=fun⟨ve,vf,h1,h2,h3,_⟩ u hu=>by
  obtain⟨A1,c1,rfl,_⟩:=h2.form;obtain⟨A2,c2,rfl,_⟩:=h3.form;rw[h1]at hu;simp at hu;rcases hu with rfl|rfl|rfl|rfl|rfl <;> rfl
def tyR:Nat->Rep Ty
 |0=>ty0
 |d+1=>tyS (tyR d)
theorem ZY (d:Nat):(tyR d).size=5:=by cases d <;> rfl
theorem Sl.up {E:Type}{R R':Rep E}(hs:R.size=R'.size)(h:∀w S cs e,R.rel w S cs e->R'.rel w S cs e){w:World}{S:Nat->Prop}{v:Value}{l:List E}(hl:Sl R w S v l):Sl R' w S v l:=by
 obtain⟨A,c,h0,h1,h2,h3,h4⟩:=hl;refine⟨A,c,h0,h1,h2,h3,fun hne=>?_⟩;obtain⟨b,off,hA,hS,hc⟩:=h4 hne;refine⟨b,off,hA,hS,fun k e he=>?_⟩;obtain⟨cs,hr,hg⟩:=hc k e he;exact⟨cs,h _ _ _ _ hr,by rw[<-hs];exact hg⟩
theorem gx:∀(d:Nat) (w:World) (S:Nat->Prop) (cs:List Value) (t:Ty),(tyR d).rel w S cs t->(tyR (d+1)).rel w S cs t
 |0,_,_,_,_,h=>h.elim
 |d+1,w,S,cs,t,⟨ve,vf,h1,h2,h3,h4⟩=>by
  have hz:(tyR d).size=(tyR (d+1)).size:=by rw[ZY,ZY]
  refine⟨ve,vf,h1,Sl.up hz (gx d) h2,Sl.up (R:=fdR (tyR d)) (R':=fdR (tyR (d+1))) (by show(tyR d).size+1=(tyR (d+1)).size+1;rw[hz]) (fun w S cs f ⟨r,k1,k2,k3⟩=>⟨r,k1,gx d _ _ _ _ k2,k3⟩) h3,h4⟩
theorem Km {d d':Nat}(hd:d<=d'):∀(w:World) (S:Nat->Prop) (cs:List Value) (t:Ty),(tyR d).rel w S cs t->(tyR d').rel w S cs t:=by
 induction hd with
 |refl=>exact fun _ _ _ _ h=>h
 |step _ ih=>exact fun w S cs t h=>gx _ w S cs t (ih w S cs t h)
end Go.Deco
namespace Go.Deco
open Go Go.RowKit
namespace Ty
def unk:Ty:=mk 0 0 0 [] []
def any:Ty:=mk 6 0 0 [] []
def int (s:Int):Ty:=mk 1 s 0 [] []
def uint (s:Int):Ty:=mk 2 s 0 [] []
def ptr (t:Ty):Ty:=mk 3 0 0 [t] []
def arr (t:Ty)(n:Int):Ty:=mk 4 0 n [t] []
def str (l:List (Int×Ty)):Ty:=mk 5 0 0 [] l
end Ty
mutual
def Q0:Ty->Int->Bool
 | .mk _ _ _ e f,n=>decide (1<=n) && (Yq e (n - 1) && Jc f (n - 1))
def Yq:List Ty->Int->Bool
 |[],_=>true
 |t :: l,n=>Q0 t n && Yq l n
def Jc:List (Int×Ty)->Int->Bool
 |[],_=>true
 |(_,t) :: l,n=>Q0 t n && Jc l n
end
theorem mB:∀(l:List Ty) (n:Int),Yq l n=l.all fun t=>Q0 t n
 |[],_=>rfl
 |t :: l,n=>by rw[Yq,mB l n];rfl
theorem jW:∀(l:List (Int×Ty)) (n:Int),Jc l n=l.all fun f=>Q0 f.2 n
 |[],_=>rfl
 |(_,t) :: l,n=>by rw[Jc,jW l n];rfl
theorem j9 (t:Ty)(n:Int):Q0 t n=(decide (1<=n) && ((t.elem.all fun x=>Q0 x (n - 1)) && (t.fields.all fun f=>Q0 f.2 (n - 1)))):=by
 cases t with
 |mk k s c e f=>rw [Q0,mB,jW];rfl
mutual
def Qd:Ty->Bool
 | .mk k s c e f=>
  if k=0\/k=6 then decide (s=0) && decide (c=0) && e.isEmpty && f.isEmpty
  else if k=1\/k=2 then decide (s=1\/s=2\/s=4) && decide (c=0) && e.isEmpty && f.isEmpty
  else if k=3 then decide (s=0) && decide (c=0) && f.isEmpty && Xd e
  else if k=4 then decide (s=0) && decide (1<=c) && decide (c<=65536) && f.isEmpty && Xd e
  else if k=5 then decide (s=0) && decide (c=0) && e.isEmpty && Zk (-1) f
  else false
def Xd:List Ty->Bool
 |[]=>false
 |t :: l=>Qd t && l.isEmpty
def Zk:Int->List (Int×Ty)->Bool
 |_,[]=>true
 |p,(o,t) :: l=>decide (p<o) && decide (o<65536) && Qd t && Zk o l
end
theorem mz {l:List Ty}(h:Xd l=true):∃t,l=[t]/\Qd t=true:=by
 match l,h with
 |[t],h=>exact⟨t,rfl,by simpa [Xd] using h⟩
 |t :: u :: l,h=>simp [Xd]at h
theorem XF:∀{l:List (Int×Ty)} {p:Int},Zk p l=true->∀f∈l,p<f.1/\f.1<65536/\Qd f.2=true
 |[],_,_,f,hf=>by cases hf
 | (o,t) :: l,p,h,f,hf=>by
  simp only[Zk,Bool.and_eq_true,decide_eq_true_eq]at h;rcases List.mem_cons.1 hf with rfl|hf
  ·exact⟨h.1.1.1,h.1.1.2,h.1.2⟩
  ·have:=XF h.2 f hf;exact⟨by omega,this.2⟩
def Zb (l:List (Int×Ty)):Prop:=l.Pairwise fun a b=>a.1<b.1
theorem VV:∀{l:List (Int×Ty)} {p:Int},Zk p l=true->Zb l
 |[],_,_=>List.Pairwise.nil
 |(o,t) :: l,p,h=>by
  simp only[Zk,Bool.and_eq_true,decide_eq_true_eq]at h;exact List.pairwise_cons.2 ⟨fun f hf=>(XF h.2 f hf).1,VV h.2⟩
theorem Z1 {t:Ty}(h:Qd t=true):
  (t=Ty.unk\/t=Ty.any)\/(∃s,(s=1\/s=2\/s=4)/\(t=Ty.int s\/t=Ty.uint s))\/(∃x,t=Ty.ptr x/\Qd x=true)\/
   (∃x n,t=Ty.arr x n/\1<=n/\n<=65536/\Qd x=true)\/(∃l,t=Ty.str l/\Zk (-1) l=true):=by
 cases t with
 | mk k s c e f=>
  rw[Qd]at h
  split at h
  ·rename_i hk
   simp only[Bool.and_eq_true,decide_eq_true_eq,List.isEmpty_iff]at h;obtain⟨⟨⟨rfl,rfl⟩,rfl⟩,rfl⟩:=h;rcases hk with rfl|rfl
   ·exact .inl (.inl rfl)
   ·exact .inl (.inr rfl)
  ·split at h
   ·rename_i hk
    simp only[Bool.and_eq_true,decide_eq_true_eq,List.isEmpty_iff]at h;obtain⟨⟨⟨hs,rfl⟩,rfl⟩,rfl⟩:=h;refine .inr (.inl ⟨s,hs, ?_⟩);rcases hk with rfl|rfl
    ·exact .inl rfl
    ·exact .inr rfl
   ·split at h
    ·rename_i hk
     simp only[Bool.and_eq_true,decide_eq_true_eq,List.isEmpty_iff]at h;obtain⟨⟨⟨rfl,rfl⟩,rfl⟩,he⟩:=h;obtain⟨x,rfl,hx⟩:=mz he;subst hk;exact .inr (.inr (.inl ⟨x,rfl,hx⟩))
    ·split at h
     ·rename_i hk
      simp only[Bool.and_eq_true,decide_eq_true_eq,List.isEmpty_iff]at h;obtain⟨⟨⟨⟨rfl,h1⟩,h2⟩,rfl⟩,he⟩:=h;obtain⟨x,rfl,hx⟩:=mz he;subst hk;exact .inr (.inr (.inr (.inl ⟨x,c,rfl,h1,h2,hx⟩)))
     ·split at h
      ·rename_i hk
       simp only[Bool.and_eq_true,decide_eq_true_eq,List.isEmpty_iff]at h;obtain⟨⟨⟨rfl,rfl⟩,rfl⟩,he⟩:=h;subst hk;exact .inr (.inr (.inr (.inr ⟨f,rfl,he⟩)))
      ·cases h
mutual
def szT:Ty->Int
 | .mk k s c e f=>min (if k=1\/k=2 then s else if k=3 then 4 else if k=4 then c * szE e else if k=5 then szF 0 f else 0) 65537
def szE:List Ty->Int
 |[]=>0
 |t :: _=>szT t
def szF:Int->List (Int×Ty)->Int
 |n,[]=>n
 |n,(o,t) :: l=>szF (max n (o+szT t)) l
end
theorem qB (t:Ty):szT t<=65537:=by
 cases t with
 |mk k s c e f=>rw [szT];omega
theorem yw:∀(l:List (Int×Ty)) (n:Int),szF n l=l.foldl (fun n f=>max n (f.1+szT f.2)) n
 |[],_=>rfl
 |(o,t) :: l,n=>by rw[szF,yw l];rfl
theorem Gf (l:List (Int×Ty))(n:Int)(f:Int×Ty):szF n (l ++ [f])=max (szF n l) (f.1+szT f.2):=by
 rw[yw,yw,List.foldl_append];rfl
theorem kF:∀(l:List (Int×Ty)) (n:Int),n<=szF n l
 |[],_=>by rw[szF];omega
 |(o,t) :: l,n=>by rw[szF];have:=kF l (max n (o+szT t));omega
theorem yY:∀(l:List (Int×Ty)) (n:Int) (f:Int×Ty),f∈l->f.1+szT f.2<=szF n l
 |(o,t) :: l,n,f,hf=>by
  rw[szF];rcases List.mem_cons.1 hf with rfl|hf
  ·have:=kF l (max n (o+szT t));simp;omega
  ·exact yY l _ f hf
theorem mC:∀(l:List (Int×Ty)) (n b:Int),n<=b->(∀f∈l,f.1+szT f.2<=b)->szF n l<=b
 |[],_,_,h,_=>h
 |(o,t) :: l,n,b,h,hl=>by
  rw[szF];refine mC l _ b ?_ fun f hf=>hl f (List.mem_cons_of_mem _ hf);have:=hl (o,t) (List.mem_cons_self ..);simp at this;omega
mutual
theorem Kw:∀(t:Ty),Qd t=true->0<=szT t
 | .mk k s c e f,h=>by
  rw[Qd]at h;rw[szT]
  split at h
  ·rename_i hk
   rcases hk with rfl|rfl <;> (show(0:Int)<=min 0 65537;decide)
  ·split at h
   ·rename_i hk
    rw[if_pos hk];simp only[Bool.and_eq_true,decide_eq_true_eq]at h;omega
   ·rename_i hk
    rw[if_neg hk]
    split at h
    ·rename_i hk
     rw[if_pos hk];omega
    ·rename_i hk
     rw[if_neg hk]
     split at h
     ·rename_i hk
      rw[if_pos hk];simp only[Bool.and_eq_true,decide_eq_true_eq]at h;have h1:=lB e h.2;have h2:=Int.mul_nonneg (show 0<=c by omega) h1;omega
     ·rename_i hk
      rw[if_neg hk]
      split at h
      ·rename_i hk
       rw[if_pos hk];have:=kF f 0;omega
      ·cases h
theorem lB:∀(l:List Ty),Xd l=true->0<=szE l
 |[],h=>by rw[szE];omega
 |t :: l,h=>by
  rw[szE];rw[Xd,Bool.and_eq_true]at h;exact Kw t h.1
end
theorem nV (s:Int)(h:s=1\/s=2\/s=4):szT (.mk 1 s 0 [] [])=s:=by rcases h with rfl|rfl|rfl <;> decide
theorem dj (s:Int)(h:s=1\/s=2\/s=4):szT (.mk 2 s 0 [] [])=s:=by rcases h with rfl|rfl|rfl <;> decide
mutual
def wiT:Ty->Bool
 | .mk k s c e f=>decide (f.length<=64) && decide (szT (.mk k s c e f)<=65536) && wiF f && wiE e
def wiE:List Ty->Bool
 |[]=>true
 |t :: l=>wiT t && wiE l
def wiF:List (Int×Ty)->Bool
 |[]=>true
 |(_,t) :: l=>wiT t && wiF l
end
theorem kZ:∀(l:List Ty),wiE l=l.all wiT
 |[]=>rfl
 |t :: l=>by rw[wiE,kZ l];rfl
theorem kX:∀(l:List (Int×Ty)),wiF l=l.all fun f=>wiT f.2
 |[]=>rfl
 |(_,t) :: l=>by rw[wiF,kX l];rfl
theorem xW (t:Ty):wiT t=(decide (t.fields.length<=64) && decide (szT t<=65536) && (t.fields.all fun f=>wiT f.2) && t.elem.all wiT):=by
 cases t with
 |mk k s c e f=>rw [wiT,kZ,kX];rfl
def Zm (t:Ty):Nat:=if Q0 t 64=false then 20 else if Qd t=false then 2 else if wiT t=false then 6 else 0
theorem pq {t:Ty}:Zm t=0↔Q0 t 64=true/\Qd t=true/\wiT t=true:=by
 unfold Zm;cases Q0 t 64 <;> cases Qd t <;> cases wiT t <;> simp
def Zq (t:Ty):Bool:=decide (Zm t=0)
theorem VJ {t:Ty}:Zq t=true↔Q0 t 64=true/\Qd t=true/\wiT t=true:=by
 unfold Zq;rw[decide_eq_true_iff,pq]
def vk (t:Ty):Int:=if Zq t then szT t else 0
mutual
def bnT:Ty->Bool
 | .mk _ _ _ e f=>decide (e.length<=1954687338211) && decide (f.length<=1759218604390) && bnE e && bnF f
def bnE:List Ty->Bool
 |[]=>true
 |t :: l=>bnT t && bnE l
def bnF:List (Int×Ty)->Bool
 |[]=>true
 |(_,t) :: l=>bnT t && bnF l
end
theorem dX:∀{l:List Ty},bnE l=true->∀t∈l,bnT t=true
 |t :: l,h,x,hx=>by
  rw[bnE,Bool.and_eq_true]at h;rcases List.mem_cons.1 hx with rfl|hx
  ·exact h.1
  ·exact dX h.2 x hx
theorem dK:∀{l:List (Int×Ty)},bnF l=true->∀f∈l,bnT f.2=true
 |(_,t) :: l,h,x,hx=>by
  rw[bnF,Bool.and_eq_true]at h;rcases List.mem_cons.1 hx with rfl|hx
  ·exact h.1
  ·exact dK h.2 x hx
theorem uP {t:Ty}(h:bnT t=true):t.elem.length<=1954687338211/\t.fields.length<=1759218604390/\(∀x∈t.elem,bnT x=true)/\∀f∈t.fields,bnT f.2=true:=by
 obtain⟨k,s,c,e,f⟩:=t;rw[bnT]at h;simp only[Bool.and_eq_true,decide_eq_true_eq]at h;exact⟨h.1.1.1,h.1.1.2,dX h.1.2,dK h.2⟩
mutual
theorem kb:∀(t:Ty),Qd t=true->wiT t=true->bnT t=true
 | .mk k s c e f,h,hw=>by
  rw[wiT]at hw;simp only[Bool.and_eq_true,decide_eq_true_eq]at hw
  have hl:e.length<=1/\(e=[]\/Xd e=true)/\(f=[]\/∃p,Zk p f=true):=by
   rcases Z1 h with(h|h)|⟨s,hs,(h|h)⟩|⟨x,h,hx⟩|⟨x,m,h,hm1,hm2,hx⟩|⟨l,h,hl⟩
   all_goals (simp only[Ty.unk,Ty.any,Ty.int,Ty.uint,Ty.ptr,Ty.arr,Ty.str]at h;injection h with h1 h2 h3 h4 h5;subst h4 h5)
   ·exact⟨by simp,.inl rfl,.inl rfl⟩
   ·exact⟨by simp,.inl rfl,.inl rfl⟩
   ·exact⟨by simp,.inl rfl,.inl rfl⟩
   ·exact⟨by simp,.inl rfl,.inl rfl⟩
   ·exact⟨by simp,.inr (by simp[Xd,hx]),.inl rfl⟩
   ·exact⟨by simp,.inr (by simp[Xd,hx]),.inl rfl⟩
   ·exact⟨by simp,.inl rfl,.inr ⟨-1,hl⟩⟩
  rw[bnT]
  have h1:bnE e=true:=by
   rcases hl.2.1 with h|h
   ·rw[h];rfl
   ·exact eB e h hw.2
  have h2:bnF f=true:=by
   rcases hl.2.2 with h|⟨p,h⟩
   ·rw[h];rfl
   ·exact bw f p h hw.1.2
  rw[h1,h2];have:=hw.1.1.1;have:=hl.1;simp;omega
theorem eB:∀(l:List Ty),Xd l=true->wiE l=true->bnE l=true
 |[],_,_=>rfl
 |t :: l,h,hw=>by
  rw[Xd,Bool.and_eq_true]at h;rw[wiE,Bool.and_eq_true]at hw;have hl:l=[]:=by simpa using h.2
  rw[bnE,kb t h.1 hw.1,hl];rfl
theorem bw:∀(l:List (Int×Ty)) (p:Int),Zk p l=true->wiF l=true->bnF l=true
 |[],_,_,_=>rfl
 |(o,t) :: l,p,h,hw=>by
  rw[Zk]at h;simp only[Bool.and_eq_true,decide_eq_true_eq]at h;rw[wiF,Bool.and_eq_true]at hw;rw[bnF,kb t h.1.2 hw.1,bw l o h.2 hw.2];rfl
end
theorem fY {t:Ty}(h:Zq t=true):bnT t=true:=kb t (VJ.1 h).2.1 (VJ.1 h).2.2
mutual
def ZC:Ty->Ty->Bool
 | .mk k s c e f,.mk k' s' c' e' f'=>decide (k=k') && decide (s=s') && decide (c=c') && Kz e e' && Kq f f'
def Kz:List Ty->List Ty->Bool
 |[],[]=>true
 |t :: l,t' :: l'=>ZC t t' && Kz l l'
 |_,_=>false
def Kq:List (Int×Ty)->List (Int×Ty)->Bool
 |[],[]=>true
 |(o,t) :: l,(o',t') :: l'=>decide (o=o') && ZC t t' && Kq l l'
 |_,_=>false
end
mutual
theorem Vp:∀(a b:Ty),ZC a b=true↔a=b
 | .mk k s c e f,.mk k' s' c' e' f'=>by
  rw[ZC];simp only[Bool.and_eq_true,decide_eq_true_eq,zX e e',zK f f',Ty.mk.injEq,and_assoc]
theorem zX:∀(a b:List Ty),Kz a b=true↔a=b
 |[],[]=>by simp[Kz]
 |t :: l,t' :: l'=>by rw[Kz,Bool.and_eq_true,Vp t t',zX l l',List.cons.injEq]
 |[],_ :: _=>by simp[Kz]
 |_ :: _,[]=>by simp[Kz]
theorem zK:∀(a b:List (Int×Ty)),Kq a b=true↔a=b
 |[],[]=>by simp[Kq]
 |(o,t) :: l,(o',t') :: l'=>by rw[Kq,Bool.and_eq_true,Bool.and_eq_true,decide_eq_true_eq,Vp t t',zK l l',List.cons.injEq,Prod.mk.injEq]
 |[],_ :: _=>by simp[Kq]
 |_ :: _,[]=>by simp[Kq]
end
instance:DecidableEq Ty:=fun a b=>decidable_of_iff _ (Vp a b)
mutual
def faT:Ty->Int->Int->Option Ty
 | .mk k s c e f,off,wd=>
  if k=0\/k=6 then (if 0<=off then some (.mk k s c e f) else none)
  else if k=1\/k=2\/k=3 then (if off=0/\wd=szT (.mk k s c e f) then some (.mk k s c e f) else none)
  else if k=4 then (if off<0\/szT (.mk k s c e f)<=off then none else faE e off wd)
  else if off<0 then none else faF f off wd
def faE:List Ty->Int->Int->Option Ty
 |[],_,_=>none
 |t :: _,off,wd=>faT t (off % szT t) wd
def faF:List (Int×Ty)->Int->Int->Option Ty
 |[],_,_=>none
 |(o,t) :: l,off,wd=>match faF l off wd with
  |some x=>some x
  |none=>faT t (off - o) wd
end
theorem GP:∀(t:Ty) {off wd:Int},off<0->faT t off wd=none
 | .mk k s c e f,off,wd,h=>by
  rw[faT]
  split
  ·rw[if_neg (by omega)]
  ·split
   ·rw[if_neg (by omega)]
   ·split
    ·rw[if_pos (by omega)]
    ·first
      |rfl
      |rw[if_pos h]
def Xq (t:Ty)(off wd:Int):Option Ty:=if Zq t=true/\(wd=1\/wd=2\/wd=4) then faT t off wd else none
end Go.Deco
namespace Go.Deco
open Go Go.RowKit
def lkF:List (Int×Ty)->Int->Option Ty
 |[],_=>none
 |(o,t) :: l,n=>if o=n then some t else lkF l n
theorem Vm:∀{l:List (Int×Ty)} {n:Int} {t:Ty},lkF l n=some t->(n,t)∈l
 |(o,u) :: l,n,t,h=>by
  rw[lkF]at h
  split at h
  ·cases h;subst_vars;exact List.mem_cons_self ..
  ·exact List.mem_cons_of_mem _ (Vm h)
theorem qm:∀{l:List (Int×Ty)} {n:Int},(∀f∈l,f.1≠n)->lkF l n=none
 |[],_,_=>rfl
 |(o,u) :: l,n,h=>by
  rw[lkF,if_neg (h (o,u) (List.mem_cons_self ..)),qm fun f hf=>h f (List.mem_cons_of_mem _ hf)]
theorem Jk:∀{l:List (Int×Ty)} {n:Int} {t:Ty},Zb l->(n,t)∈l->lkF l n=some t
 | (o,u) :: l,n,t,ha,h=>by
  have ha:=List.pairwise_cons.1 ha;rw[lkF];rcases List.mem_cons.1 h with e|h
  ·cases e;rw[if_pos rfl]
  ·have:=ha.1 _ h;simp only at this;rw[if_neg (by omega),Jk ha.2 h]
theorem yX:∀{l m:List (Int×Ty)},Zb l->Zb m->(∀n,lkF l n=lkF m n)->l=m
 |[],[],_,_,_=>rfl
 |[],(o,u) :: m,_,_,h=>by have:=h o;simp[lkF]at this
 |(o,u) :: l,[],_,_,h=>by have:=h o;simp[lkF]at this
 | (o,u) :: l,(o',u') :: m,hl,hm,h=>by
  have hl':=List.pairwise_cons.1 hl;have hm':=List.pairwise_cons.1 hm
  have e:o=o':=by
   have h1:=h o;have h2:=h o';simp only[lkF,if_true]at h1 h2;by_cases e:o=o'
   ·exact e
   ·rw[if_neg (fun e'=>e e'.symm)]at h1;rw[if_neg e]at h2;have k1:=hm'.1 _ (Vm h1.symm);have k2:=hl'.1 _ (Vm h2);simp only at k1 k2;omega
  subst e
  have hu:u=u':=by
   have:=h o;simpa [lkF] using this
  subst hu;rw[yX hl'.2 hm'.2 fun n=>?_];by_cases e:o=n
  ·subst e;rw[qm fun f hf=>?_,qm fun f hf=>?_]
   ·have:=hm'.1 f hf;omega
   ·have:=hl'.1 f hf;omega
  ·have:=h n;simpa [lkF,e] using this
mutual
def QZ:Ty->Ty->Bool
 | .mk k s c e f,b=>
  if k=0\/b.kind=6 then true else if k≠b.kind then false
  else if k=1\/k=2 then decide (s=b.size)
  else if k=3 then vp e b.elem
  else if k=4 then decide (b.count<=c) && vp e b.elem
  else b.fields.all fun g=>zz f g.1 g.2
def vp:List Ty->List Ty->Bool
 |t :: _,u :: _=>QZ t u
 |_,_=>true
def zz:List (Int×Ty)->Int->Ty->Bool
 |[],_,_=>false
 |(o,t) :: l,n,u=>if o=n then QZ t u else zz l n u
end
theorem yW:∀(l:List (Int×Ty)) (n:Int) (u:Ty),zz l n u=true↔∃t,lkF l n=some t/\QZ t u=true
 |[],n,u=>by simp[zz,lkF]
 |(o,t) :: l,n,u=>by
  rw[zz,lkF]
  split
  ·simp
  ·exact yW l n u
def vm (a b:Ty):Bool:=Zq a && Zq b && QZ a b
mutual
def QX:Ty->Ty->Ty
 | .mk k s c e f,b=>
  if k=0 then b else if b.kind=0 then .mk k s c e f
  else if k≠b.kind\/k=6\/s≠b.size then Ty.any
  else if k=3 then .mk 3 0 0 (KD e b.elem) []
  else if k=4 then .mk 4 0 (min c b.count) (KD e b.elem) []
  else if k=5 then .mk 5 0 0 [] (QC f b.fields)
  else .mk k s c e f
def KD:List Ty->List Ty->List Ty
 |t :: _,u :: _=>[QX t u]
 |_,_=>[]
def QC:List (Int×Ty)->List (Int×Ty)->List (Int×Ty)
 |[],_=>[]
 |(o,t) :: l,r=>match lkF r o with
  |some u=>(o,QX t u) :: QC l r
  |none=>QC l r
end
def KZ (a b:Ty):Ty:=if Zq a/\Zq b then QX a b else Ty.any
theorem j7:∀{l r:List (Int×Ty)} (_:Zb l) (n:Int),lkF (QC l r) n=match lkF l n,lkF r n with
  |some t,some u=>some (QX t u)
  |_,_=>none
 |[],r,_,n=>by simp[QC,lkF]
 | (o,t) :: l,r,ha,n=>by
  have ha:=List.pairwise_cons.1 ha;rw[QC];have ih:=j7 (r:=r) ha.2 n;by_cases e:o=n
  ·subst e;have hn:lkF l o=none:=qm fun f hf=>by have:=ha.1 f hf;simp only at this;omega
   rw[hn]at ih
   cases hr:lkF r o with
   |none=>simp only;rw[ih];simp[lkF]
   |some u=>simp [lkF]
  ·cases hr:lkF r o with
   |none=>simp only;rw[ih,lkF,if_neg e]
   |some u=>simp only;rw[lkF,if_neg e,ih,lkF,if_neg e]
theorem Ym:∀{l r:List (Int×Ty)} {f:Int×Ty},f∈QC l r->∃t u,(f.1,t)∈l/\lkF r f.1=some u/\f.2=QX t u
 | (o,t) :: l,r,f,h=>by
  rw[QC]at h
  cases hr:lkF r o with
  |none=>
   rw[hr]at h;obtain⟨t',u,h1,h2⟩:=Ym h;exact⟨t',u,List.mem_cons_of_mem _ h1,h2⟩
  | some u=>
   rw[hr]at h;rcases List.mem_cons.1 h with rfl|h
   ·exact⟨t,u,List.mem_cons_self ..,hr,rfl⟩
   ·obtain⟨t',u,h1,h2⟩:=Ym h;exact⟨t',u,List.mem_cons_of_mem _ h1,h2⟩
theorem zZ:∀(l r:List (Int×Ty)),(QC l r).length<=l.length
 |[],_=>by simp[QC]
 |(o,t) :: l,r=>by
  have:=zZ l r;rw[QC]
  split
  ·simp;omega
  ·simp;omega
theorem bY:∀{l:List (Int×Ty)} {p:Int},Zb l->(∀f∈l,p<f.1/\f.1<65536/\Qd f.2=true)->Zk p l=true
 |[],_,_,_=>rfl
 |(o,t) :: l,p,ha,h=>by
  have ha:=List.pairwise_cons.1 ha;have h0:=h (o,t) (List.mem_cons_self ..);rw[Zk];simp only[Bool.and_eq_true,decide_eq_true_eq];exact⟨⟨⟨h0.1,h0.2.1⟩,h0.2.2⟩,bY ha.2 fun f hf=>⟨ha.1 f hf,(h f (List.mem_cons_of_mem _ hf)).2⟩⟩
theorem pv:∀{l:List (Int×Ty)} (r:List (Int×Ty)),Zb l->Zb (QC l r)
 |[],_,_=>by rw[QC];exact List.Pairwise.nil
 | (o,t) :: l,r,ha=>by
  have ha:=List.pairwise_cons.1 ha;rw[QC]
  split
  ·refine List.pairwise_cons.2 ⟨fun f hf=>?_,pv r ha.2⟩;obtain⟨t',u,h1,_⟩:=Ym hf;exact ha.1 (f.1,t') h1
  ·exact pv r ha.2
mutual
def szN:Ty->Nat
 | .mk _ _ _ e f=>1+xY e+JJ f
def xY:List Ty->Nat
 |[]=>0
 |t :: l=>szN t+xY l
def JJ:List (Int×Ty)->Nat
 |[]=>0
 |(_,t) :: l=>szN t+JJ l
end
theorem xV:∀{l:List (Int×Ty)} {n:Int} {t:Ty},lkF l n=some t->szN t<=JJ l
 |(o,u) :: l,n,t,h=>by
  rw[lkF]at h;rw[JJ]
  split at h
  ·cases h;omega
  ·have:=xV h;omega
theorem xm:∀{l:List (Int×Ty)} {f:Int×Ty},f∈l->szN f.2<=JJ l
 |(o,u) :: l,f,h=>by
  rw[JJ];rcases List.mem_cons.1 h with rfl|h
  ·simp
  ·have:=xm h;omega
theorem Kb (b:Ty):QZ Ty.unk b=true:=by simp[Ty.unk,QZ]
theorem Kp (a:Ty):QZ a Ty.any=true:=by cases a;simp[Ty.any,QZ,Ty.kind]
theorem YG (a b:Ty):QZ (Ty.ptr a) (Ty.ptr b)=QZ a b:=by simp[Ty.ptr,QZ,vp,Ty.kind,Ty.elem]
theorem YW (a b:Ty)(n m:Int):QZ (Ty.arr a n) (Ty.arr b m)=(decide (m<=n) && QZ a b):=by simp[Ty.arr,QZ,vp,Ty.kind,Ty.elem,Ty.count];try rfl
theorem G9 (s s':Int):QZ (Ty.int s) (Ty.int s')=decide (s=s'):=by
 unfold Ty.int;rw[QZ,if_neg (by simp[Ty.kind]),if_neg (by simp[Ty.kind]),if_pos (by simp)];rfl
theorem Gg (s s':Int):QZ (Ty.uint s) (Ty.uint s')=decide (s=s'):=by
 unfold Ty.uint;rw[QZ,if_neg (by simp[Ty.kind]),if_neg (by simp[Ty.kind]),if_pos (by simp)];rfl
theorem Dz (f g:List (Int×Ty)):QZ (Ty.str f) (Ty.str g)=g.all fun x=>zz f x.1 x.2:=by simp[Ty.str,QZ,Ty.kind,Ty.fields]
theorem JY {f g:List (Int×Ty)}(hg:Zb g):QZ (Ty.str f) (Ty.str g)=true↔∀n u,lkF g n=some u->∃t,lkF f n=some t/\QZ t u=true:=by
 rw[Dz,List.all_eq_true];constructor
 ·intro h n u hu;exact(yW f n u).1 (h (n,u) (Vm hu))
 ·intro h x hx;exact(yW f x.1 x.2).2 (h x.1 x.2 (Jk hg hx))
theorem zD (a b:Ty):QX (Ty.ptr a) (Ty.ptr b)=Ty.ptr (QX a b):=by simp[Ty.ptr,QX,KD,Ty.kind,Ty.elem,Ty.size]
theorem zB (a b:Ty)(n m:Int):QX (Ty.arr a n) (Ty.arr b m)=Ty.arr (QX a b) (min n m):=by simp[Ty.arr,QX,KD,Ty.kind,Ty.elem,Ty.size,Ty.count]
theorem zC (f g:List (Int×Ty)):QX (Ty.str f) (Ty.str g)=Ty.str (QC f g):=by simp[Ty.str,QX,Ty.kind,Ty.fields,Ty.size]
theorem iX (b:Ty):QX Ty.unk b=b:=by simp[Ty.unk,QX]
theorem lZ {a:Ty}(h:Qd a=true):QX a Ty.unk=a:=by
 rcases Z1 h with(rfl|rfl)|⟨s,hs,(rfl|rfl)⟩|⟨x,rfl,hx⟩|⟨x,n,rfl,h1,h2,hx⟩|⟨l,rfl,hl⟩ <;> simp[QX,Ty.unk,Ty.any,Ty.int,Ty.uint,Ty.ptr,Ty.arr,Ty.str,Ty.kind]
def qP (t:Ty):Prop:=∃s:Int,t=Ty.int s\/t=Ty.uint s
def Dw (f g:List (Int×Ty)):Prop:=∀n u,lkF g n=some u->∃t,lkF f n=some t/\QZ t u=true
theorem Vx {a b:Ty}(ha:Qd a=true)(hb:Qd b=true)(h:QZ a b=true):a=Ty.unk\/b=Ty.any\/(a=b/\qP a)\/(∃x y,a=Ty.ptr x/\b=Ty.ptr y/\QZ x y=true)\/
  (∃x y n m,a=Ty.arr x n/\b=Ty.arr y m/\m<=n/\QZ x y=true)\/∃f g,a=Ty.str f/\b=Ty.str g/\Dw f g:=by
 rcases Z1 ha with(rfl|rfl)|⟨s,hs,(rfl|rfl)⟩|⟨x,rfl,hx⟩|⟨x,n,rfl,h1,h2,hx⟩|⟨l,rfl,hl⟩
 ·exact .inl rfl
 ·rcases Z1 hb with(rfl|rfl)|⟨s',hs',(rfl|rfl)⟩|⟨x',rfl,hx'⟩|⟨x',n',rfl,h1',h2',hx'⟩|⟨l',rfl,hl'⟩
  ·simp[QZ,Ty.any,Ty.unk,Ty.kind]at h
  ·exact .inr (.inl rfl)
  all_goals simp[QZ,Ty.any,Ty.int,Ty.uint,Ty.ptr,Ty.arr,Ty.str,Ty.kind]at h
 ·rcases Z1 hb with(rfl|rfl)|⟨s',hs',(rfl|rfl)⟩|⟨x',rfl,hx'⟩|⟨x',n',rfl,h1',h2',hx'⟩|⟨l',rfl,hl'⟩
  ·simp[QZ,Ty.int,Ty.unk,Ty.kind]at h
  ·exact .inr (.inl rfl)
  ·rw[G9,decide_eq_true_eq]at h;subst h;exact .inr (.inr (.inl ⟨rfl,s,.inl rfl⟩))
  all_goals simp[QZ,Ty.any,Ty.int,Ty.uint,Ty.ptr,Ty.arr,Ty.str,Ty.kind]at h
 ·rcases Z1 hb with(rfl|rfl)|⟨s',hs',(rfl|rfl)⟩|⟨x',rfl,hx'⟩|⟨x',n',rfl,h1',h2',hx'⟩|⟨l',rfl,hl'⟩
  ·simp[QZ,Ty.uint,Ty.unk,Ty.kind]at h
  ·exact .inr (.inl rfl)
  ·simp[QZ,Ty.int,Ty.uint,Ty.kind,Ty.size]at h
  ·rw[Gg,decide_eq_true_eq]at h;subst h;exact .inr (.inr (.inl ⟨rfl,s,.inr rfl⟩))
  all_goals simp[QZ,Ty.any,Ty.int,Ty.uint,Ty.ptr,Ty.arr,Ty.str,Ty.kind]at h
 ·rcases Z1 hb with(rfl|rfl)|⟨s',hs',(rfl|rfl)⟩|⟨x',rfl,hx'⟩|⟨x',n',rfl,h1',h2',hx'⟩|⟨l',rfl,hl'⟩
  ·simp[QZ,Ty.ptr,Ty.unk,Ty.kind]at h
  ·exact .inr (.inl rfl)
  ·simp[QZ,Ty.int,Ty.ptr,Ty.kind,Ty.size]at h
  ·simp[QZ,Ty.uint,Ty.ptr,Ty.kind,Ty.size]at h
  ·exact .inr (.inr (.inr (.inl ⟨x,x',rfl,rfl,by rwa [YG]at h⟩)))
  all_goals simp[QZ,Ty.any,Ty.int,Ty.uint,Ty.ptr,Ty.arr,Ty.str,Ty.kind]at h
 ·rcases Z1 hb with(rfl|rfl)|⟨s',hs',(rfl|rfl)⟩|⟨x',rfl,hx'⟩|⟨x',n',rfl,h1',h2',hx'⟩|⟨l',rfl,hl'⟩
  ·simp[QZ,Ty.arr,Ty.unk,Ty.kind]at h
  ·exact .inr (.inl rfl)
  ·simp[QZ,Ty.int,Ty.arr,Ty.kind,Ty.size]at h
  ·simp[QZ,Ty.uint,Ty.arr,Ty.kind,Ty.size]at h
  ·simp[QZ,Ty.ptr,Ty.arr,Ty.kind,Ty.size]at h
  ·rw[YW,Bool.and_eq_true,decide_eq_true_eq]at h;exact .inr (.inr (.inr (.inr (.inl ⟨x,x',n,n',rfl,rfl,h.1,h.2⟩))))
  all_goals simp[QZ,Ty.any,Ty.int,Ty.uint,Ty.ptr,Ty.arr,Ty.str,Ty.kind]at h
 ·rcases Z1 hb with(rfl|rfl)|⟨s',hs',(rfl|rfl)⟩|⟨x',rfl,hx'⟩|⟨x',n',rfl,h1',h2',hx'⟩|⟨l',rfl,hl'⟩
  ·simp[QZ,Ty.str,Ty.unk,Ty.kind]at h
  ·exact .inr (.inl rfl)
  ·simp[QZ,Ty.int,Ty.str,Ty.kind,Ty.size]at h
  ·simp[QZ,Ty.uint,Ty.str,Ty.kind,Ty.size]at h
  ·simp[QZ,Ty.ptr,Ty.str,Ty.kind,Ty.size]at h
  ·simp[QZ,Ty.arr,Ty.str,Ty.kind,Ty.size]at h
  ·exact .inr (.inr (.inr (.inr (.inr ⟨l,l',rfl,rfl,(JY (VV hl')).1 h⟩))))
theorem Kg {x:Ty}:Qd (Ty.ptr x)=Qd x:=by simp[Ty.ptr,Qd,Xd]
theorem V0 {x:Ty}{n:Int}:Qd (Ty.arr x n)=(decide (1<=n) && decide (n<=65536) && Qd x):=by simp[Ty.arr,Qd,Xd]
theorem V4 {l:List (Int×Ty)}:Qd (Ty.str l)=Zk (-1) l:=by simp[Ty.str,Qd]
theorem bP:Qd Ty.any=true:=rfl
theorem im:Qd Ty.unk=true:=rfl
theorem YY (x:Ty):szN (Ty.ptr x)=1+szN x:=by simp[Ty.ptr,szN,xY,JJ]
theorem J5 (x:Ty)(n:Int):szN (Ty.arr x n)=1+szN x:=by simp[Ty.arr,szN,xY,JJ]
theorem J6 (l:List (Int×Ty)):szN (Ty.str l)=1+JJ l:=by simp[Ty.str,szN,xY]
theorem V5 {l:List (Int×Ty)}{p n:Int}{t:Ty}(h:Zk p l=true)(ht:lkF l n=some t):Qd t=true:=(XF h (n,t) (Vm ht)).2.2
theorem pQ {a:Ty}(h:qP a):QZ a a=true:=by
 obtain⟨s,rfl|rfl⟩:=h
 ·simp[QZ,Ty.int,Ty.kind,Ty.size]
 ·simp[QZ,Ty.uint,Ty.kind,Ty.size]
theorem kw:∀(n:Nat) {a:Ty},szN a<=n->Qd a=true->QZ a a=true
 |0,a,h,_=>by cases a;rw[szN]at h;omega
 | n+1,a,h,hf=>by
  rcases Z1 hf with(rfl|rfl)|⟨s,hs,h0⟩|⟨x,rfl,hx⟩|⟨x,m,rfl,h1,h2,hx⟩|⟨l,rfl,hl⟩
  ·exact Kb _
  ·exact Kp _
  ·exact pQ ⟨s,h0⟩
  ·rw[YY]at h;rw[YG];exact kw n (by omega) hx
  ·rw[J5]at h;rw[YW,kw n (by omega) hx];simp
  ·rw[J6]at h;refine(JY (VV hl)).2 fun o u hu=>⟨u,hu, ?_⟩;have:=xV hu;exact kw n (by omega) (V5 hl hu)
theorem JB {a:Ty}(h:Qd a=true):QZ a a=true:=kw _ (Nat.le_refl _) h
theorem Dx {b:Ty}(hb:Qd b=true)(h:QZ b Ty.unk=true):b=Ty.unk:=by
 rcases Vx hb im h with h|h|⟨rfl,s,h|h⟩|⟨x,y,h1,h2,_⟩|⟨x,y,n,m,h1,h2,_⟩|⟨f,g,h1,h2,_⟩
 ·exact h
 ·cases h
 ·cases h
 ·cases h
 ·cases h2
 ·cases h2
 ·cases h2
theorem dZ {b:Ty}(hb:Qd b=true)(h:QZ Ty.any b=true):b=Ty.any:=by
 rcases Vx bP hb h with h|h|⟨h,s,h'|h'⟩|⟨x,y,h1,h2,_⟩|⟨x,y,n,m,h1,h2,_⟩|⟨f,g,h1,h2,_⟩
 ·cases h
 ·exact h
 ·cases h'
 ·cases h'
 ·cases h1
 ·cases h1
 ·cases h1
theorem jG:∀(k:Nat) {a b c:Ty},szN a<=k->Qd a=true->Qd b=true->Qd c=true->QZ a b=true->QZ b c=true->QZ a c=true
 |0,a,_,_,h,_,_,_,_,_=>by cases a;rw[szN]at h;omega
 | k+1,a,b,c,h,ha,hb,hc,h1,h2=>by
  rcases Vx ha hb h1 with rfl|rfl|⟨rfl,hw⟩|⟨x,y,rfl,rfl,hs⟩|⟨x,y,n,m,rfl,rfl,hm,hs⟩|⟨f,g,rfl,rfl,hs⟩
  ·exact Kb _
  ·rw[dZ hc h2];exact Kp _
  ·exact h2
  ·rcases Vx hb hc h2 with e|rfl|⟨rfl,_⟩|⟨x',y',e,rfl,hs'⟩|⟨x',y',n',m',e,rfl,hm',hs'⟩|⟨f',g',e,rfl,hs'⟩
   ·cases e
   ·exact Kp _
   ·exact h1
   ·injection e with _ _ _ e _
    injection e with e _
    subst e;rw[YY]at h;rw[YG];rw[Kg]at ha hb hc;exact jG k (by omega) ha hb hc hs hs'
   ·cases e
   ·cases e
  ·rcases Vx hb hc h2 with e|rfl|⟨rfl,_⟩|⟨x',y',e,rfl,hs'⟩|⟨x',y',n',m',e,rfl,hm',hs'⟩|⟨f',g',e,rfl,hs'⟩
   ·cases e
   ·exact Kp _
   ·exact h1
   ·cases e
   ·injection e with _ _ e' e _
    injection e with e _
    subst e e';rw[J5]at h;rw[YW,Bool.and_eq_true,decide_eq_true_eq];rw[V0]at ha hb hc;simp only[Bool.and_eq_true]at ha hb hc;exact⟨by omega,jG k (by omega) ha.2 hb.2 hc.2 hs hs'⟩
   ·cases e
  ·rcases Vx hb hc h2 with e|rfl|⟨rfl,_⟩|⟨x',y',e,rfl,hs'⟩|⟨x',y',n',m',e,rfl,hm',hs'⟩|⟨f',g',e,rfl,hs'⟩
   ·cases e
   ·exact Kp _
   ·exact h1
   ·cases e
   ·cases e
   ·injection e with _ _ _ _ e
    subst e;rw[J6]at h;rw[V4]at ha hb hc;refine(JY (VV hc)).2 fun o u hu=>?_;obtain⟨t,ht,hst⟩:=hs' o u hu;obtain⟨r,hr,hrt⟩:=hs o t ht;have:=xV hr;exact⟨r,hr,jG k (by omega) (V5 ha hr) (V5 hb ht) (V5 hc hu) hrt hst⟩
theorem VD {a b c:Ty}(ha:Qd a=true)(hb:Qd b=true)(hc:Qd c=true)(h1:QZ a b=true)(h2:QZ b c=true):QZ a c=true:=jG _ (Nat.le_refl _) ha hb hc h1 h2
theorem kv:∀(k:Nat) {a b:Ty},szN a<=k->Qd a=true->Qd b=true->QZ a b=true->QZ b a=true->a=b
 |0,a,_,h,_,_,_,_=>by cases a;rw[szN]at h;omega
 | k +1,a,b,h,ha,hb,h1,h2=>by
  rcases Vx ha hb h1 with rfl|rfl|⟨rfl,hw⟩|⟨x,y,rfl,rfl,hs⟩|⟨x,y,n,m,rfl,rfl,hm,hs⟩|⟨f,g,rfl,rfl,hs⟩
  ·exact(Dx hb h2).symm
  ·exact dZ ha h2
  ·rfl
  ·rw[YG]at h2;rw[YY]at h;rw[Kg]at ha hb;rw[kv k (by omega) ha hb hs h2]
  ·rw[YW,Bool.and_eq_true,decide_eq_true_eq]at h2;rw[J5]at h;rw[V0]at ha hb;simp only[Bool.and_eq_true]at ha hb;rw[kv k (by omega) ha.2 hb.2 hs h2.2,show n=m by omega]
  ·rw[J6]at h;rw[V4]at ha hb;have hs2:=(JY (VV ha)).1 h2;rw[yX (VV ha) (VV hb) fun o=>?_]
   cases e:lkF f o with
   | none=>
    cases e2:lkF g o with
    |none=>rfl
    |some u=>
     obtain⟨t,ht,_⟩:=hs o u e2;rw[e]at ht;cases ht
   |some t=>
    obtain⟨u,hu,h3⟩:=hs2 o t e;obtain⟨t',ht',h4⟩:=hs o u hu;rw[e]at ht';cases ht';have:=xV e;rw[hu,kv k (by omega) (V5 ha e) (V5 hb hu) h4 h3]
theorem mD {a b:Ty}(ha:Qd a=true)(hb:Qd b=true)(h1:QZ a b=true)(h2:QZ b a=true):a=b:=kv _ (Nat.le_refl _) ha hb h1 h2
theorem zM {a b:Ty}(ha:Qd a=true)(hb:Qd b=true):(a=Ty.unk/\QX a b=b)\/(b=Ty.unk/\QX a b=a)\/(a=b/\qP a/\QX a b=a)\/(∃x y,a=Ty.ptr x/\b=Ty.ptr y)\/
  (∃x y n m,a=Ty.arr x n/\b=Ty.arr y m)\/(∃f g,a=Ty.str f/\b=Ty.str g)\/(QX a b=Ty.any/\∀c,Qd c=true->QZ a c=true->QZ b c=true->c=Ty.any):=by
 by_cases hua:a=Ty.unk
 ·subst hua;exact .inl ⟨rfl,iX b⟩
 by_cases hub:b=Ty.unk
 ·subst hub;exact .inr (.inl ⟨rfl,lZ ha⟩)
 have key:(∀c,Qd c=true->QZ a c=true->QZ b c=true->c=Ty.any)\/(a=b/\qP a)\/(∃x y,a=Ty.ptr x/\b=Ty.ptr y)\/(∃x y n m,a=Ty.arr x n/\b=Ty.arr y m)\/(∃f g,a=Ty.str f/\b=Ty.str g):=by
  by_cases hq:(a=b/\qP a)\/(∃x y,a=Ty.ptr x/\b=Ty.ptr y)\/(∃x y n m,a=Ty.arr x n/\b=Ty.arr y m)\/(∃f g,a=Ty.str f/\b=Ty.str g)
  ·exact .inr hq
  refine .inl fun c hc h1 h2=>?_;rcases Vx ha hc h1 with e|e|⟨rfl,hw⟩|⟨x,y,rfl,rfl,hs⟩|⟨x,y,n,m,rfl,rfl,hm,hs⟩|⟨f,g,rfl,rfl,hs⟩
  ·exact absurd e hua
  ·exact e
  ·rcases Vx hb hc h2 with e|e|⟨rfl,hw'⟩|⟨x',y',rfl,e,hs'⟩|⟨x',y',n',m',rfl,e,hm',hs'⟩|⟨f',g',rfl,e,hs'⟩
   ·exact absurd e hub
   ·exact e
   ·exact absurd (.inl ⟨rfl,hw⟩) hq
   all_goals (subst e;obtain⟨s,e|e⟩:=hw <;> cases e)
  ·rcases Vx hb hc h2 with e|e|⟨rfl,s,e|e⟩|⟨x',y',rfl,e,hs'⟩|⟨x',y',n',m',rfl,e,hm',hs'⟩|⟨f',g',rfl,e,hs'⟩
   ·exact absurd e hub
   ·exact e
   ·cases e
   ·cases e
   ·exact absurd (.inr (.inl ⟨x,x',rfl,rfl⟩)) hq
   all_goals cases e
  ·rcases Vx hb hc h2 with e|e|⟨rfl,s,e|e⟩|⟨x',y',rfl,e,hs'⟩|⟨x',y',n',m',rfl,e,hm',hs'⟩|⟨f',g',rfl,e,hs'⟩
   ·exact absurd e hub
   ·exact e
   ·cases e
   ·cases e
   ·cases e
   ·exact absurd (.inr (.inr (.inl ⟨x,x',n,n',rfl,rfl⟩))) hq
   all_goals cases e
  ·rcases Vx hb hc h2 with e|e|⟨rfl,s,e|e⟩|⟨x',y',rfl,e,hs'⟩|⟨x',y',n',m',rfl,e,hm',hs'⟩|⟨f',g',rfl,e,hs'⟩
   ·exact absurd e hub
   ·exact e
   ·cases e
   ·cases e
   ·cases e
   ·cases e
   ·exact absurd (.inr (.inr (.inr ⟨f,f',rfl,rfl⟩))) hq
 rcases key with h|⟨rfl,hw⟩|h|h|h
 ·refine .inr (.inr ?_);by_cases hq:(∃x y,a=Ty.ptr x/\b=Ty.ptr y)\/(∃x y n m,a=Ty.arr x n/\b=Ty.arr y m)\/(∃f g,a=Ty.str f/\b=Ty.str g)\/(a=b/\qP a)
  ·rcases hq with h|h|h|⟨rfl,hw⟩
   ·exact .inr (.inl h)
   ·exact .inr (.inr (.inl h))
   ·exact .inr (.inr (.inr (.inl h)))
   ·have:=h a ha (pQ hw) (pQ hw);subst this;obtain⟨s,e|e⟩:=hw <;> cases e
  ·refine .inr (.inr (.inr (.inr ⟨?_,h⟩)));rcases Z1 ha with(rfl|rfl)|⟨s,hs,(rfl|rfl)⟩|⟨x,rfl,hx⟩|⟨x,n,rfl,h1,h2,hx⟩|⟨l,rfl,hl⟩
   ·exact absurd rfl hua
   all_goals (rcases Z1 hb with(rfl|rfl)|⟨s',hs',(rfl|rfl)⟩|⟨x',rfl,hx'⟩|⟨x',n',rfl,h1',h2',hx'⟩|⟨l',rfl,hl'⟩)
   all_goals first
    |exact absurd rfl hub
    |(simp[QX,Ty.unk,Ty.any,Ty.int,Ty.uint,Ty.ptr,Ty.arr,Ty.str,Ty.kind,Ty.size];done)
    |exact absurd (.inl ⟨_,_,rfl,rfl⟩) hq
    |exact absurd (.inr (.inl ⟨_,_,_,_,rfl,rfl⟩)) hq
    |exact absurd (.inr (.inr (.inl ⟨_,_,rfl,rfl⟩))) hq
    | (have hne:s≠s':=fun e=>hq (.inr (.inr (.inr ⟨by rw[e],s,.inl rfl⟩)))
       simp[QX,Ty.any,Ty.int,Ty.kind,Ty.size,hne])
    | (have hne:s≠s':=fun e=>hq (.inr (.inr (.inr ⟨by rw[e],s,.inr rfl⟩)))
       simp[QX,Ty.any,Ty.uint,Ty.kind,Ty.size,hne])
 ·refine .inr (.inr (.inl ⟨rfl,hw, ?_⟩));obtain⟨s,rfl|rfl⟩:=hw
  ·simp[QX,Ty.int,Ty.kind,Ty.size]
  ·simp[QX,Ty.uint,Ty.kind,Ty.size]
 ·exact .inr (.inr (.inr (.inl h)))
 ·exact .inr (.inr (.inr (.inr (.inl h))))
 ·exact .inr (.inr (.inr (.inr (.inr (.inl h)))))
theorem Jw:∀(k:Nat) {a b:Ty},szN a<=k->Qd a=true->Qd b=true->
  Qd (QX a b)=true/\QZ a (QX a b)=true/\QZ b (QX a b)=true/\∀c,Qd c=true->QZ a c=true->QZ b c=true->QZ (QX a b) c=true
 |0,a,_,h,_,_=>by cases a;rw[szN]at h;omega
 | k +1,a,b,h,ha,hb=>by
  rcases zM ha hb with⟨rfl,e⟩|⟨rfl,e⟩|⟨rfl,hw,e⟩|⟨x,y,rfl,rfl⟩|⟨x,y,n,m,rfl,rfl⟩|⟨f,g,rfl,rfl⟩|⟨e,hc⟩
  ·rw[e];exact⟨hb,Kb _,JB hb,fun c _ _ h=>h⟩
  ·rw[e];exact⟨ha,JB ha,Kb _,fun c _ h _=>h⟩
  ·rw[e];exact⟨ha,JB ha,JB ha,fun c _ h _=>h⟩
  ·rw[YY]at h;rw[Kg]at ha hb;obtain⟨h1,h2,h3,h4⟩:=Jw k (by omega) ha hb;rw[zD];refine⟨by rw[Kg];exact h1,by rw[YG];exact h2,by rw[YG];exact h3,fun c hc k1 k2=>?_⟩;rcases Vx (by rw[Kg];exact ha) hc k1 with e|rfl|⟨rfl,s,e|e⟩|⟨x',y',e,rfl,hs'⟩|⟨x',y',n',m',e,rfl,hm',hs'⟩|⟨f',g',e,rfl,hs'⟩
   ·cases e
   ·exact Kp _
   ·cases e
   ·cases e
   ·injection e with _ _ _ e _
    injection e with e _
    subst e;rw[YG]at k2 ⊢;rw[Kg]at hc;exact h4 _ hc hs' k2
   ·cases e
   ·cases e
  ·rw[J5]at h;rw[V0]at ha hb;simp only[Bool.and_eq_true,decide_eq_true_eq]at ha hb;obtain⟨h1,h2,h3,h4⟩:=Jw k (by omega) ha.2 hb.2;rw[zB];refine⟨by rw[V0];simp only[Bool.and_eq_true,decide_eq_true_eq];exact⟨⟨by omega,by omega⟩,h1⟩, ?_, ?_,fun c hc k1 k2=>?_⟩
   ·rw[YW,Bool.and_eq_true,decide_eq_true_eq];exact⟨by omega,h2⟩
   ·rw[YW,Bool.and_eq_true,decide_eq_true_eq];exact⟨by omega,h3⟩
   ·rcases Vx (by rw[V0];simp only[Bool.and_eq_true,decide_eq_true_eq];exact ha) hc k1 with e|rfl|⟨rfl,s,e|e⟩|⟨x',y',e,rfl,hs'⟩|⟨x',y',n',m',e,rfl,hm',hs'⟩|⟨f',g',e,rfl,hs'⟩
    ·cases e
    ·exact Kp _
    ·cases e
    ·cases e
    ·cases e
    ·injection e with _ _ e' e _
     injection e with e _
     subst e e';rw[YW,Bool.and_eq_true,decide_eq_true_eq]at k2 ⊢;rw[V0]at hc;simp only[Bool.and_eq_true]at hc;exact⟨by omega,h4 _ hc.2 hs' k2.2⟩
    ·cases e
  ·rw[J6]at h;rw[V4]at ha hb;have ia:=VV ha;have ib:=VV hb;rw[zC]
   have hall:∀o t u,lkF f o=some t->lkF g o=some u->Qd (QX t u)=true/\QZ t (QX t u)=true/\QZ u (QX t u)=true/\∀c,Qd c=true->QZ t c=true->QZ u c=true->QZ (QX t u) c=true:=fun o t u ht hu=>by
    have:=xV ht;exact Jw k (by omega) (V5 ha ht) (V5 hb hu)
   have hj:=pv g ia;refine⟨?_, ?_, ?_,fun c hc k1 k2=>?_⟩
   ·rw[V4];refine bY hj fun x hx=>?_;obtain⟨t,u,h1,h2,e⟩:=Ym hx;have h3:=XF ha _ h1;exact⟨h3.1,h3.2.1,by rw[e];exact(hall _ t u (Jk ia h1) h2).1⟩
   ·refine(JY hj).2 fun o v hv=>?_;rw[j7 ia]at hv
    split at hv
    ·rename_i t u ht hu
     cases hv;exact⟨t,ht,(hall o t u ht hu).2.1⟩
    ·cases hv
   ·refine(JY hj).2 fun o v hv=>?_;rw[j7 ia]at hv
    split at hv
    ·rename_i t u ht hu
     cases hv;exact⟨u,hu,(hall o t u ht hu).2.2.1⟩
    ·cases hv
   ·rcases Vx (by rw[V4];exact ha) hc k1 with e|rfl|⟨rfl,s,e|e⟩|⟨x',y',e,rfl,hs'⟩|⟨x',y',n',m',e,rfl,hm',hs'⟩|⟨f',g',e,rfl,hs'⟩
    ·cases e
    ·exact Kp _
    ·cases e
    ·cases e
    ·cases e
    ·cases e
    ·injection e with _ _ _ _ e
     subst e;rw[V4]at hc;have ic:=VV hc;have k2:=(JY ic).1 k2;refine(JY ic).2 fun o v hv=>?_;obtain⟨t,ht,h1⟩:=hs' o v hv;obtain⟨u,hu,h2⟩:=k2 o v hv;refine⟨QX t u,by rw[j7 ia,ht,hu], ?_⟩;exact(hall o t u ht hu).2.2.2 v (V5 hc hv) h1 h2
  ·rw[e];exact⟨bP,Kp _,Kp _,fun d hd k1 k2=>by rw[hc d hd k1 k2];exact Kp _⟩
theorem dz (x:Ty)(n:Int):Q0 (Ty.ptr x) n=(decide (1<=n) && Q0 x (n - 1)):=by simp[Ty.ptr,Q0,Yq,Jc]
theorem cC (x:Ty)(m n:Int):Q0 (Ty.arr x m) n=(decide (1<=n) && Q0 x (n - 1)):=by simp[Ty.arr,Q0,Yq,Jc]
theorem dq (l:List (Int×Ty))(n:Int):Q0 (Ty.str l) n=(decide (1<=n) && Jc l (n - 1)):=by simp[Ty.str,Q0,Yq]
theorem Gj (n:Int):Q0 Ty.any n=decide (1<=n):=by simp[Ty.any,Q0,Yq,Jc]
theorem Gv {t:Ty}{n:Int}(h:Q0 t n=true):1<=n:=by
 cases t;rw[Q0,Bool.and_eq_true,decide_eq_true_eq]at h;exact h.1
theorem mM {l:List (Int×Ty)}{n:Int}(h:Jc l n=true):∀f∈l,Q0 f.2 n=true:=by
 rw[jW,List.all_eq_true]at h;exact h
theorem jK:∀(k:Nat) {a b:Ty} (n:Int),szN a<=k->Qd a=true->Qd b=true->Q0 a n=true->Q0 b n=true->Q0 (QX a b) n=true
 |0,a,_,_,h,_,_,_,_=>by cases a;rw[szN]at h;omega
 | k+1,a,b,n,h,ha,hb,h1,h2=>by
  rcases zM ha hb with⟨rfl,e⟩|⟨rfl,e⟩|⟨rfl,hw,e⟩|⟨x,y,rfl,rfl⟩|⟨x,y,m,m',rfl,rfl⟩|⟨f,g,rfl,rfl⟩|⟨e,hc⟩
  ·rw[e];exact h2
  ·rw[e];exact h1
  ·rw[e];exact h1
  ·rw[YY]at h;rw[Kg]at ha hb;rw[dz,Bool.and_eq_true]at h1 h2;rw[zD,dz,Bool.and_eq_true];exact⟨h1.1,jK k _ (by omega) ha hb h1.2 h2.2⟩
  ·rw[J5]at h;rw[V0]at ha hb;simp only[Bool.and_eq_true]at ha hb;rw[cC,Bool.and_eq_true]at h1 h2;rw[zB,cC,Bool.and_eq_true];exact⟨h1.1,jK k _ (by omega) ha.2 hb.2 h1.2 h2.2⟩
  ·rw[J6]at h;rw[V4]at ha hb;rw[dq,Bool.and_eq_true]at h1 h2;rw[zC,dq,Bool.and_eq_true,jW,List.all_eq_true];refine⟨h1.1,fun x hx=>?_⟩;obtain⟨t,u,k1,k2,k3⟩:=Ym hx;have hs:=xm k1;rw[k3];exact jK k _ (by simp only at hs;omega) (XF ha _ k1).2.2 (V5 hb k2) (mM h1.2 _ k1) (mM h2.2 _ (Vm k2))
  ·rw[e,Gj,decide_eq_true_eq];exact Gv h1
theorem kP (x:Ty):szT (Ty.ptr x)=4:=by
 simp[Ty.ptr,szT]
 try decide
theorem yF (t:Ty)(n:Int):szT (Ty.arr t n)=min (n * szT t) 65537:=by simp[Ty.arr,szT,szE]
theorem yP (l:List (Int×Ty)):szT (Ty.str l)=min (szF 0 l) 65537:=by simp[Ty.str,szT]
theorem DY:szT Ty.any=0:=by decide
theorem pw:∀(k:Nat) {a b:Ty},szN a<=k->Qd a=true->Qd b=true->szT (QX a b)<=max (szT a) (szT b)
 |0,a,_,h,_,_=>by cases a;rw[szN]at h;omega
 | k +1,a,b,h,ha,hb=>by
  rcases zM ha hb with⟨rfl,e⟩|⟨rfl,e⟩|⟨rfl,hw,e⟩|⟨x,y,rfl,rfl⟩|⟨x,y,m,m',rfl,rfl⟩|⟨f,g,rfl,rfl⟩|⟨e,hc⟩
  ·rw[e];omega
  ·rw[e];omega
  ·rw[e];omega
  ·rw[zD,kP,kP,kP];omega
  ·rw[J5]at h;rw[V0]at ha hb;simp only[Bool.and_eq_true,decide_eq_true_eq]at ha hb;have ih:=pw k (by omega) ha.2 hb.2;have hx:=Kw x ha.2;have hy:=Kw y hb.2;have hj:=Kw _ (Jw _ (Nat.le_refl _) ha.2 hb.2).1;rw[zB,yF,yF,yF];rcases Int.le_total (szT x) (szT y) with hxy|hxy
   ·have h1:min m m' * szT (QX x y)<=m' * szT y:=Int.le_trans (Int.mul_le_mul_of_nonneg_right (show min m m'<=m' by omega) hj) (Int.mul_le_mul_of_nonneg_left (by omega) (by omega));omega
   ·have h1:min m m' * szT (QX x y)<=m * szT x:=Int.le_trans (Int.mul_le_mul_of_nonneg_right (show min m m'<=m by omega) hj) (Int.mul_le_mul_of_nonneg_left (by omega) (by omega));omega
  ·rw[J6]at h;rw[V4]at ha hb;rw[zC,yP,yP,yP]
   have h1:szF 0 (QC f g)<=max (szF 0 f) (szF 0 g):=by
    refine mC _ 0 _ ?_ fun x hx=>?_
    ·have:=kF f 0;omega
    ·obtain⟨t,u,k1,k2,k3⟩:=Ym hx;have hs:=xm k1;have ih:=pw k (a:=t) (b:=u) (by simp only at hs;omega) (XF ha _ k1).2.2 (V5 hb k2);have m1:=yY f 0 _ k1;have m2:=yY g 0 _ (Vm k2);rw[k3];simp only at m1 m2;omega
   omega
  ·rw[e,DY];have:=Kw a ha;omega
theorem rV (x:Ty):wiT (Ty.ptr x)=wiT x:=by
 rw[xW,kP];simp[Ty.ptr,Ty.fields,Ty.elem]
theorem rK (x:Ty)(n:Int):wiT (Ty.arr x n)=(decide (szT (Ty.arr x n)<=65536) && wiT x):=by
 rw[xW];simp[Ty.arr,Ty.fields,Ty.elem]
theorem rJ (l:List (Int×Ty)):wiT (Ty.str l)=(decide (l.length<=64) && decide (szT (Ty.str l)<=65536) && l.all fun f=>wiT f.2):=by
 rw[xW];simp[Ty.str,Ty.fields,Ty.elem]
 try rfl
theorem DD:wiT Ty.any=true:=by decide
theorem nW {t:Ty}(h:wiT t=true):szT t<=65536:=by
 rw[xW]at h;simp only[Bool.and_eq_true,decide_eq_true_eq]at h;exact h.1.1.2
theorem xg:∀(k:Nat) {a b:Ty},szN a<=k->Qd a=true->Qd b=true->wiT a=true->wiT b=true->wiT (QX a b)=true
 |0,a,_,h,_,_,_,_=>by cases a;rw[szN]at h;omega
 | k+1,a,b,h,ha,hb,h1,h2=>by
  have hsz:=pw _ (Nat.le_refl _) ha hb;have s1:=nW h1;have s2:=nW h2;rcases zM ha hb with⟨rfl,e⟩|⟨rfl,e⟩|⟨rfl,hw,e⟩|⟨x,y,rfl,rfl⟩|⟨x,y,m,m',rfl,rfl⟩|⟨f,g,rfl,rfl⟩|⟨e,hc⟩
  ·rw[e];exact h2
  ·rw[e];exact h1
  ·rw[e];exact h1
  ·rw[YY]at h;rw[Kg]at ha hb;rw[rV]at h1 h2;rw[zD,rV];exact xg k (by omega) ha hb h1 h2
  ·rw[J5]at h;rw[V0]at ha hb;simp only[Bool.and_eq_true]at ha hb;rw[rK,Bool.and_eq_true]at h1 h2;rw[zB]at hsz ⊢;rw[rK,Bool.and_eq_true,decide_eq_true_eq];exact⟨by omega,xg k (by omega) ha.2 hb.2 h1.2 h2.2⟩
  ·rw[J6]at h;rw[V4]at ha hb;rw[rJ]at h1 h2;simp only[Bool.and_eq_true,decide_eq_true_eq,List.all_eq_true]at h1 h2;rw[zC]at hsz ⊢;rw[rJ];simp only[Bool.and_eq_true,decide_eq_true_eq,List.all_eq_true];have hl:=zZ f g;refine⟨⟨by omega,by omega⟩,fun x hx=>?_⟩;obtain⟨t,u,k1,k2,k3⟩:=Ym hx;have hs:=xm k1;rw[k3];exact xg k (by simp only at hs;omega) (XF ha _ k1).2.2 (V5 hb k2) (h1.2 _ k1) (h2.2 _ (Vm k2))
  ·rw[e];exact DD
theorem QP {t:Ty}(h:Zq t=true):Qd t=true:=(VJ.1 h).2.1
theorem KY {a b:Ty}(ha:Zq a=true)(hb:Zq b=true):Zq (QX a b)=true:=by
 obtain⟨a1,a2,a3⟩:=VJ.1 ha;obtain⟨b1,b2,b3⟩:=VJ.1 hb;exact VJ.2 ⟨jK _ 64 (Nat.le_refl _) a2 b2 a1 b1,(Jw _ (Nat.le_refl _) a2 b2).1,xg _ (Nat.le_refl _) a2 b2 a3 b3⟩
theorem wG {a b:Ty}(ha:Zq a=true)(hb:Zq b=true):KZ a b=QX a b:=by unfold KZ;rw[if_pos ⟨ha,hb⟩]
theorem xw:Zq Ty.unk=true:=by decide
theorem YQ {a b:Ty}(ha:Qd a=true)(hb:Qd b=true):QZ a (QX a b)=true:=(Jw _ (Nat.le_refl _) ha hb).2.1
theorem qp {a b:Ty}(ha:Qd a=true)(hb:Qd b=true):QZ b (QX a b)=true:=(Jw _ (Nat.le_refl _) ha hb).2.2.1
theorem qq {a b c:Ty}(ha:Qd a=true)(hb:Qd b=true)(hc:Qd c=true)(h1:QZ a c=true)(h2:QZ b c=true):QZ (QX a b) c=true:=(Jw _ (Nat.le_refl _) ha hb).2.2.2 c hc h1 h2
theorem mj {a b:Ty}(ha:Qd a=true)(hb:Qd b=true):Qd (QX a b)=true:=(Jw _ (Nat.le_refl _) ha hb).1
def rB:Nat->Nat
 |0=>1
 |d+1=>65540+65 * (1+rB d)
mutual
def hgt:Ty->Nat->Nat
 | .mk _ _ _ _ _,0=>0
 | .mk k _ c e f,d+1=>if k=6 then 0 else if k=0 then rB (d+1) else 1+(if k=4 then c.toNat else 0)+(rM e d+rD f d)
def rM:List Ty->Nat->Nat
 |[],_=>0
 |t :: l,d=>hgt t d+rM l d
def rD:List (Int×Ty)->Nat->Nat
 |[],_=>0
 |(_,t) :: l,d=>(1+hgt t d)+rD l d
end
structure Con where
 kind:Int
 a:Int
 b:Int
 off:Int
 width:Int
 type:Ty
def QY (c:Con):Bool:=decide (c.kind=2\/c.kind=3)
def QQ (c:Con):Bool:=QY c && decide (c.width=4)
def X5 (n:Int)(c:Con):Nat:=
 if (c.kind<0\/4<c.kind)\/(QY c=true/\c.width≠1/\c.width≠2/\c.width≠4) then 2
 else if (c.a<0\/n<=c.a)\/(c.kind≠1/\(c.b<0\/n<=c.b)) then 7
 else if c.kind=1 then Zm c.type else 0
def XC (n:Int):List Con->Nat
 |[]=>0
 |c :: l=>if X5 n c≠0 then X5 n c else XC n l
def Xy (l:List Con)(n:Int):Nat:=if n<0 then 2 else if 65536<n\/65536<(l.length:Int) then 6 else XC n l
structure OkC (n:Int)(c:Con):Prop where
 k0:0<=c.kind
 k1:c.kind<=4
 w:QY c=true->c.width=1\/c.width=2\/c.width=4
 a0:0<=c.a
 a1:c.a<n
 b0:c.kind≠1->0<=c.b
 b1:c.kind≠1->c.b<n
 t:c.kind=1->Zq c.type=true
theorem uV {n:Int}{c:Con}:X5 n c=0↔OkC n c:=by
 unfold X5;constructor
 ·intro h
  split at h
  ·cases h
  ·split at h
   ·cases h
   ·rename_i h1 h2
    refine⟨by omega,by omega,fun ha=>?_,by omega,by omega,fun hk=>by omega,fun hk=>by omega,fun hk=>?_⟩
    ·by_cases hw:c.width=1\/c.width=2\/c.width=4
     ·exact hw
     ·exact absurd (.inr ⟨ha,by omega,by omega,by omega⟩) h1
    ·rw[if_pos hk]at h;unfold Zq;rw[decide_eq_true_eq];exact h
 ·intro h;rw[if_neg,if_neg]
  ·by_cases hk:c.kind=1
   ·rw[if_pos hk];have:=h.t hk;unfold Zq at this
    rwa [decide_eq_true_eq]at this
   ·rw[if_neg hk]
  ·rintro(h1|⟨hk,h1⟩)
   ·have:=h.a0;have:=h.a1;omega
   ·have:=h.b0 hk;have:=h.b1 hk;omega
  ·rintro(h1|⟨ha,h1,h2,h3⟩)
   ·have:=h.k0;have:=h.k1;omega
   ·have:=h.w ha;omega
theorem fw {n:Int}:∀{l:List Con},XC n l=0↔∀c∈l,OkC n c
 |[]=>by simp[XC]
 | c :: l=>by
  rw[XC];by_cases h:X5 n c=0
  ·rw[if_neg (by simp[h]),fw (l:=l)];simp only[List.mem_cons,forall_eq_or_imp];exact⟨fun k=>⟨uV.1 h,k⟩,fun k=>k.2⟩
  ·rw[if_pos h];exact⟨fun k=>absurd k h,fun k=>absurd (uV.2 (k c (List.mem_cons_self ..))) h⟩
theorem vP {l:List Con}{n:Int}:Xy l n=0↔0<=n/\n<=65536/\l.length<=65536/\∀c∈l,OkC n c:=by
 unfold Xy
 split
 ·constructor
  ·intro h;cases h
  ·intro h;omega
 ·split
  ·constructor
   ·intro h;cases h
   ·intro h;omega
  ·rw[fw];constructor
   ·intro h;exact⟨by omega,by omega,by omega,h⟩
   ·intro h;exact h.2.2.2
inductive VE (l:List Con):Int->Int->Prop
 |refl (x:Int):VE l x x
 |symm {x y:Int}:VE l x y->VE l y x
 |trans {x y z:Int}:VE l x y->VE l y z->VE l x z
 |sub {c:Con}:c∈l->c.kind=0->VE l c.a c.b
 |cell {c e:Con}:c∈l->e∈l->QQ c=true->QQ e=true->c.off=e.off->VE l c.a e.a->VE l c.b e.b
theorem VE.mono {l m:List Con}(h:∀c∈l,c∈m){x y:Int}(hv:VE l x y):VE m x y:=by
 induction hv with
 |refl x=>exact .refl x
 |symm _ ih=>exact .symm ih
 |trans _ _ i1 i2=>exact .trans i1 i2
 |sub hc hk=>exact .sub (h _ hc) hk
 |cell hc he w1 w2 ho _ ih=>exact .cell (h _ hc) (h _ he) w1 w2 ho ih
def Zc (l:List Con)(c e:Con):Prop:=QQ c=true/\QQ e=true/\c.off=e.off/\VE l c.a e.a
inductive Step (l:List Con):Int->Int->Prop
 |sub {c:Con}:c∈l->c.kind=0->Step l c.a c.b
 |cell {s d:Con}:s∈l->d∈l->Zc l s d->s.kind=3->d.kind=2->Step l s.b d.b
inductive Reach (l:List Con):Int->Int->Prop
 |refl (x:Int):Reach l x x
 |step {x y z:Int}:Reach l x y->Step l y z->Reach l x z
theorem Reach.trans {l:List Con}{x y z:Int}(h1:Reach l x y)(h2:Reach l y z):Reach l x z:=by
 induction h2 with
 |refl=>exact h1
 |step _ s ih=>exact .step ih s
def ZG (S:Ty->Prop)(t:Ty):Prop:=Zq t=true/\(∀s,S s->QZ s t=true)/\∀u,Zq u=true->(∀s,S s->QZ s u=true)->QZ t u=true
theorem ZG.unique {S:Ty->Prop}{t u:Ty}(h:ZG S t)(k:ZG S u):t=u:=
 mD (QP h.1) (QP k.1) (h.2.2 u k.1 k.2.1) (k.2.2 t h.1 h.2.1)
theorem ZG.congr {S S':Ty->Prop}{t:Ty}(h:ZG S t)(e:∀s,S s↔S' s):ZG S' t:=
 ⟨h.1,fun s hs=>h.2.1 s ((e s).2 hs),fun u hu hs=>h.2.2 u hu fun s k=>hs s ((e s).1 k)⟩
def qG (l:List Con)(x:Int)(t:Ty):Prop:=ZG (fun s=>∃k∈l,k.kind=1/\Reach l k.a x/\s=k.type) t
def X2 (l:List Con)(c:Con)(t:Ty):Prop:=ZG (fun s=>∃e∈l,e.kind=3/\Zc l e c/\∃k∈l,k.kind=1/\Reach l k.a e.b/\s=k.type) t
def Q9 (l:List Con)(x:Int):Prop:=∃c∈l,QY c=true/\VE l c.a x
inductive Z3 (l:List Con):Int->Int->Prop
 |one {c:Con} {x y:Int}:c∈l->QQ c=true->VE l c.a x->VE l c.b y->Z3 l x y
 |more {c:Con} {x y z:Int}:Z3 l x y->c∈l->QQ c=true->VE l c.a y->VE l c.b z->Z3 l x z
def Rec (l:List Con)(c:Con):Prop:=VE l c.b c.a\/Z3 l c.b c.a
def Xg (l:List Con)(c:Con)(kind:Int):Prop:=∃e∈l,Zc l c e/\e.kind=kind
def X1 (l:List Con)(x:Int):Prop:=∃c∈l,VE l c.a x/\
 ((c.kind=1/\c.type.kind≠0)\/(QY c=true/\c.off<0)\/(QY c=true/\∃e∈l,QY e=true/\VE l e.a x/\e.off=c.off/\e.width≠c.width)\/
  (QQ c=true/\Rec l c/\Xg l c 2/\Xg l c 3)\/(QQ c=true/\¬Q9 l c.b/\∃t,X2 l c t/\Xq t 0 4≠some t))
mutual
def QV:Ty->Nat
 | .mk _ _ _ e f=>1+Q7 e+cntF f
def Q7:List Ty->Nat
 |[]=>0
 |t :: l=>QV t+Q7 l
def cntF:List (Int×Ty)->Nat
 |[]=>0
 |(_,t) :: l=>QV t+cntF l
end
def Zv (l:List Con)(P:Int->Ty->Prop)(c:Con)(t:Ty):Prop:=
 if c.width≠4 then t=Ty.uint c.width
 else (¬Q9 l c.b/\X2 l c t)\/(Q9 l c.b/\¬Rec l c/\P c.b t)\/(Q9 l c.b/\Rec l c/\((Xg l c 3/\t=Ty.any)\/(¬Xg l c 3/\t=Ty.unk)))
def Fields (l:List Con)(P:Int->Ty->Prop)(x:Int)(F:List (Int×Ty)):Prop:=
 Zb F/\(∀f∈F,∃c∈l,QY c=true/\VE l c.a x/\c.off=f.1)/\∀c∈l,QY c=true->VE l c.a x->∃t,lkF F c.off=some t/\Zv l P c t
def Q8 (l:List Con):Nat->Int->Ty->Prop
 |0,_,_=>False
 |n+1,x,t=>(X1 l x/\t=Ty.any)\/(¬X1 l x/\∃F,Fields l (Q8 l n) x F/\t=if Zm (Ty.ptr (Ty.str F))≠0\/256<QV (Ty.ptr (Ty.str F)) then Ty.any else Ty.ptr (Ty.str F))
def qM (l:List Con)(x:Int)(t:Ty):Prop:=(Q9 l x/\∃n,Q8 l n x t)\/(¬Q9 l x/\qG l x t)
def J9 (l:List Con)(n:Int)(ts:List Ty):Prop:=(ts.length:Int)=n/\∀(v:Nat) (t:Ty),ts[v]? =some t->qM l v t
def ZZ (ts:List Ty):List Nat:=(ts.zipIdx.filter fun x=>decide (x.1.kind=6)).map Prod.snd
theorem Zc.rel {l:List Con}{c e:Con}(h:Zc l c e)(hc:c∈l)(he:e∈l):VE l c.b e.b:= .cell hc he h.1 h.2.1 h.2.2.1 h.2.2.2
theorem Zc.symm {l:List Con}{c e:Con}(h:Zc l c e):Zc l e c:=⟨h.2.1,h.1,h.2.2.1.symm,h.2.2.2.symm⟩
theorem Zc.trans {l:List Con}{c e d:Con}(h:Zc l c e)(k:Zc l e d):Zc l c d:=⟨h.1,k.2.1,h.2.2.1.trans k.2.2.1,h.2.2.2.trans k.2.2.2⟩
theorem Zv.unique {l:List Con}{P P':Int->Ty->Prop}(hP:∀x t t',P x t->P' x t'->t=t'){c:Con}{t t':Ty}(h:Zv l P c t)(k:Zv l P' c t'):t=t':=by
 unfold Zv at h k
 split at h
 ·rename_i hw
  rw[if_pos hw]at k;rw[h,k]
 ·rename_i hw
  rw[if_neg hw]at k;rcases h with⟨h1,h2⟩|⟨h1,h2,h3⟩|⟨h1,h2,h3⟩ <;> rcases k with⟨k1,k2⟩|⟨k1,k2,k3⟩|⟨k1,k2,k3⟩
  ·exact h2.unique k2
  ·exact absurd k1 h1
  ·exact absurd k1 h1
  ·exact absurd h1 k1
  ·exact hP _ _ _ h3 k3
  ·exact absurd k2 h2
  ·exact absurd h1 k1
  ·exact absurd h2 k2
  ·rcases h3 with⟨u,rfl⟩|⟨u,rfl⟩ <;> rcases k3 with⟨v,rfl⟩|⟨v,rfl⟩
   ·rfl
   ·exact absurd u v
   ·exact absurd v u
   ·rfl
theorem Fields.unique {l:List Con}{P P':Int->Ty->Prop}(hP:∀x t t',P x t->P' x t'->t=t'){x:Int}{F F':List (Int×Ty)}(h:Fields l P x F)(k:Fields l P' x F'):F=F':=by
 refine yX h.1 k.1 fun o=>?_
 cases e:lkF F o with
 | none=>
  cases e':lkF F' o with
  |none=>rfl
  |some u=>
   obtain⟨c,hc,ha,hv,ho⟩:=k.2.1 _ (Vm e');obtain⟨t,ht,_⟩:=h.2.2 c hc ha hv;simp only at ho;rw[ho,e]at ht;cases ht
 |some t=>
  obtain⟨c,hc,ha,hv,ho⟩:=h.2.1 _ (Vm e);simp only at ho;obtain⟨t1,ht1,k1⟩:=h.2.2 c hc ha hv;obtain⟨t2,ht2,k2⟩:=k.2.2 c hc ha hv;rw[ho]at ht1 ht2;rw[e]at ht1;cases ht1;rw[ht2,k1.unique hP k2]
theorem Q8.unique {l:List Con}:∀{n m:Nat} {x:Int} {t u:Ty},Q8 l n x t->Q8 l m x u->t=u
 |0,_,_,_,_,h,_=>h.elim
 |n+1,0,_,_,_,_,h=>h.elim
 | n+1,m+1,x,t,u,h,k=>by
  rcases h with⟨h1,h2⟩|⟨h1,F,hF,h2⟩ <;> rcases k with⟨k1,k2⟩|⟨k1,F',hF',k2⟩
  ·rw[h2,k2]
  ·exact absurd h1 k1
  ·exact absurd k1 h1
  ·have hP:∀(y:Int) (a b:Ty),Q8 l n y a->Q8 l m y b->a=b:=fun y a b ha hb=>Q8.unique ha hb;have e:=Fields.unique hP hF hF';rw[h2,k2,e]
theorem qM.unique {l:List Con}{x:Int}{t u:Ty}(h:qM l x t)(k:qM l x u):t=u:=by
 rcases h with⟨h1,n,h2⟩|⟨h1,h2⟩ <;> rcases k with⟨k1,m,k2⟩|⟨k1,k2⟩
 ·exact h2.unique k2
 ·exact absurd h1 k1
 ·exact absurd k1 h1
 ·exact h2.unique k2
theorem J9.unique {l:List Con}{n:Int}{ts us:List Ty}(h:J9 l n ts)(k:J9 l n us):ts=us:=by
 have hl:ts.length=us.length:=by have:=h.1;have:=k.1;omega
 refine List.ext_getElem? fun v=>?_;by_cases hv:v<ts.length
 ·obtain⟨t,ht⟩:∃t,ts[v]? =some t:=⟨_,Qq hv⟩;obtain⟨u,hu⟩:∃u,us[v]? =some u:=⟨_,Qq (by omega)⟩;rw[ht,hu,(h.2 v t ht).unique (k.2 v u hu)]
 ·rw[List.getElem?_eq_none (by omega),List.getElem?_eq_none (by omega)]
section
variable {α:Type}
structure vw (lt:α->α->Bool):Prop where
 asym:∀x y,lt x y=true->lt y x=false
 trans:∀x y z,lt y x=false->lt z y=false->lt z x=false
namespace vw
variable {lt:α->α->Bool}
theorem irr (W:vw lt)(x:α):lt x x=false:=by
 cases h:lt x x with
 |false=>rfl
 |true=>rw [<-W.asym x x h,h]
end vw
def Y1 (lt:α->α->Bool)(p x:α):Bool:= !lt p x && !lt x p
theorem ij {lt:α->α->Bool}{p x:α}:Y1 lt p x=true↔lt p x=false/\lt x p=false:=by
 unfold Y1;cases lt p x <;> cases lt x p <;> simp
def Srt (lt:α->α->Bool)(l:List α):Prop:=l.Pairwise fun x y=>lt y x=false
def Cls (lt:α->α->Bool)(l m:List α):Prop:=∀p,m.filter (Y1 lt p)=l.filter (Y1 lt p)
theorem Cls.refl (lt:α->α->Bool)(l:List α):Cls lt l l:=fun _=>rfl
theorem Cls.trans {lt:α->α->Bool}{a b c:List α}(h:Cls lt a b)(k:Cls lt b c):Cls lt a c:=fun p=>(k p).trans (h p)
theorem Cls.symm {lt:α->α->Bool}{a b:List α}(h:Cls lt a b):Cls lt b a:=fun p=>(h p).symm
theorem Cls.app {lt:α->α->Bool}{a b c d:List α}(h:Cls lt a b)(k:Cls lt c d):Cls lt (a ++ c) (b ++ d):=fun p=>by rw[List.filter_append,List.filter_append,h p,k p]
theorem Cls.mem {lt:α->α->Bool}(W:vw lt){l m:List α}(h:Cls lt l m)(x:α):x∈m↔x∈l:=by
 have hx:Y1 lt x x=true:=ij.2 ⟨W.irr x,W.irr x⟩;constructor
 ·intro hm;have:x∈m.filter (Y1 lt x):=List.mem_filter.2 ⟨hm,hx⟩;rw[h x]at this;exact(List.mem_filter.1 this).1
 ·intro hl;have:x∈l.filter (Y1 lt x):=List.mem_filter.2 ⟨hl,hx⟩;rw[<-h x]at this;exact(List.mem_filter.1 this).1
def rC (lt:α->α->Bool)(x:α):List α->List α
 |[]=>[x]
 |o :: t=>if lt x o then x :: o :: t else o :: rC lt x t
def stab (lt:α->α->Bool)(l:List α):List α:=l.foldl (fun O x=>rC lt x O) []
def mrg (lt:α->α->Bool):List α->List α->List α
 |[],R=>R
 |l :: L,[]=>l :: L
 |l :: L,r :: R=>if lt r l then r :: mrg lt (l :: L) R else l :: mrg lt L (r :: R)
termination_by L R=>L.length+R.length
def Swp (D:List α)(a b i:Nat)(D':List α):Prop:=
 D'.length=D.length/\∀k:Nat,D'[k]? =if a<=k/\k<a+i then D[k+(b - a)]? else if b<=k/\k<b+i then D[k - (b - a)]? else D[k]?
theorem Swp.start (D:List α)(a b:Nat):Swp D a b 0 D:=⟨rfl,fun k=>by rw[if_neg (by omega),if_neg (by omega)]⟩
theorem Swp.step {D D':List α}{a b i n:Nat}{x y:α}(h:Swp D a b i D')(hn:a+n<=b)(hi:i<n)(hx:D[b+i]? =some x)(hy:D[a+i]? =some y):Swp D a b (i+1) ((D'.set (a+i) x).set (b+i) y):=by
 have hbl:=(Qz hx).1;refine⟨by simp[h.1],fun k=>?_⟩;rw[List.getElem?_set,List.getElem?_set];simp only[List.length_set,h.1];by_cases e1:b+i=k
 ·subst e1;rw[if_pos rfl,if_pos hbl,if_neg (by omega),if_pos (by omega),<-hy]
  congr 1
  omega
 ·rw [if_neg e1];by_cases e2:a+i=k
  ·subst e2;rw[if_pos rfl,if_pos (by omega),if_pos (by omega),<-hx]
   congr 1
   omega
  ·rw[if_neg e2,h.2];by_cases c1:a<=k/\k<a+i
   ·have c1':a<=k/\k<a+(i+1):=by omega
    rw[if_pos c1,if_pos c1']
   ·have c1':¬(a<=k/\k<a+(i+1)):=by omega
    rw[if_neg c1,if_neg c1'];by_cases c2:b<=k/\k<b+i
    ·have c2':b<=k/\k<b+(i+1):=by omega
     rw[if_pos c2,if_pos c2']
    ·have c2':¬(b<=k/\k<b+(i+1)):=by omega
     rw[if_neg c2,if_neg c2']
end
end Go.Deco
namespace Go.Deco
open Go Go.RowKit
abbrev Fd:=Int×Ty
structure Acc where
 base:Int
 off:Int
 width:Int
 sgn:Bool
deriving DecidableEq
def kB (a:Acc):Bool:=decide (a.width=1\/a.width=2\/a.width=4) && decide (0<=a.off) && decide (a.off<=65532)
def rY (a:Acc):Fd:=(a.off,if a.sgn then Ty.int a.width else Ty.uint a.width)
def JZ (f:Fd):Int:=f.1+vk f.2
def ltF (x y:Fd):Bool:=decide (x.1<y.1)
def FJ (st:List (List Fd)×Int)(f:Fd):List (List Fd)×Int:=
 (if st.1≠[]/\f.1<st.2 then st.1.dropLast ++ [(st.1.getLast?.getD []) ++ [f]] else st.1 ++ [[f]],max st.2 (JZ f))
def nj (l:List Fd):List (List Fd):=((stab ltF l).foldl FJ ([],0)).1
def QG (t:Ty):Bool:=decide (t.kind=1) || decide (t.kind=2)
def V9 (g:List Fd):Fd:=g.head?.getD (0,Ty.unk)
def Fg (g:List Fd):Int:=g.foldl (fun n f=>max n (JZ f)) 0
def Fb (g:List Fd):Bool:=g.all fun f=>decide (f.1=(V9 g).1) && ZC f.2 (V9 g).2
def DW (g:List Fd):Bool:=QG (V9 g).2 && g.all fun f=>decide (f.1=(V9 g).1) && QG f.2 && decide (f.2.size=(V9 g).2.size)
def kY (g:List Fd):Fd×Bool:=
 if Fb g then (V9 g,false) else if DW g then (((V9 g).1,Ty.int (V9 g).2.size),false)
 else (((V9 g).1,Ty.arr (Ty.uint 1) (Fg g - (V9 g).1)),true)
def rowFrom (t:Ty):Int->List Fd->Bool
 |_,[]=>true
 |n,f :: l=>decide (f.1=n) && ZC f.2 t && rowFrom t (JZ f) l
def FY (l:List Fd):Bool:=decide (1<l.length) && rowFrom (V9 l).2 0 l
def bv (p:List Fd):Ty×Nat:=
 let l:=(nj p).map fun g=>(kY g).1
 if 64<l.length then (Ty.unk,6) else if FY l then (Ty.arr (V9 l).2 l.length,0) else (Ty.str l,0)
def FM (l:List Acc):Ty×Nat:=
 if 1024<l.length then (Ty.unk,6) else
 if l.all fun a=>kB a && decide (a.base=((l.head?.map Acc.base).getD 0)) then bv (l.map rY) else (Ty.unk,2)
def F4 (l:List Acc):List Int:=(l.filter kB).map Acc.off
def Fv (l:List Acc)(a:Acc):Nat:=
 ((nj (((l.filter kB).filter fun x=>decide (x.base=a.base)).map rY)).filter fun g=>(kY g).2 && decide ((kY g).1.1<=a.off) && decide (a.off<JZ (kY g).1)).length
def FC (l:List Acc):List Nat:=(l.zipIdx.filterMap fun x=>if kB x.1 then some (List.replicate (Fv l x.1) x.2) else none).flatten
def nm (t:Ty):Bool:=if t.kind=4 then decide (0<vk t) else decide (t.kind=5) && t.fields.all fun f=> !decide (vk f.2=0)
def rq (t:Ty):Int:=if t.kind=4 then t.count else t.fields.length
def cY (t:Ty)(n:Int):Nat->List Fd
 |0=>[]
 |k+1=>cY t n k ++ [(k * n,t)]
def rp (t:Ty):List Fd:=if t.kind=4 then (match t.elem with|[]=>[]|x :: _=>cY x (vk x) t.count.toNat) else t.fields
def F0 (a b:Ty):Ty×Nat:=
 if Zm a≠0 then (Ty.unk,Zm a) else if Zm b≠0 then (Ty.unk,Zm b) else
 if nm a=false\/nm b=false then (Ty.unk,16) else
 if 1024<rq a\/1024<rq b then (Ty.unk,6) else bv (rp a ++ rp b)
theorem Zb.tail {f:Int×Ty}{l:List (Int×Ty)}(h:Zb (f :: l)):Zb l:=(List.pairwise_cons.1 h).2
theorem jX:∀(l:List (Int×Ty)),QC l []=[]
 |[]=>rfl
 |(o,t) :: l=>by rw[QC,lkF];exact jX l
theorem vC:∀{l r r':List (Int×Ty)},(∀f∈l,lkF r f.1=lkF r' f.1)->QC l r=QC l r'
 |[],_,_,_=>rfl
 |(o,t) :: l,r,r',h=>by
  rw[QC,QC,vC fun f hf=>h f (List.mem_cons_of_mem _ hf)];have h0:=h (o,t) (List.mem_cons_self ..);simp only at h0;rw[h0]
theorem cy {o o':Int}{t u:Ty}{l r:List (Int×Ty)}(h:o<o')(hr:Zb ((o',u) :: r)):QC ((o,t) :: l) ((o',u) :: r)=QC l ((o',u) :: r):=by
 have hr':=List.pairwise_cons.1 hr;rw[QC,qm fun f hf=>?_];rcases List.mem_cons.1 hf with rfl|hf
 ·simp only;omega
 ·have:=hr'.1 f hf;simp only at this;omega
theorem cj {o o':Int}{t u:Ty}{l r:List (Int×Ty)}(h:o'<o)(hl:Zb ((o,t) :: l)):QC ((o,t) :: l) ((o',u) :: r)=QC ((o,t) :: l) r:=by
 have hl':=List.pairwise_cons.1 hl;refine vC fun f hf=>?_;rw[lkF,if_neg];rcases List.mem_cons.1 hf with rfl|hf
 ·simp only;omega
 ·have:=hl'.1 f hf;simp only at this;omega
theorem cx {o:Int}{t u:Ty}{l r:List (Int×Ty)}(hl:Zb ((o,t) :: l)):QC ((o,t) :: l) ((o,u) :: r)=(o,QX t u) :: QC l r:=by
 have hl':=List.pairwise_cons.1 hl;rw[QC,lkF,if_pos rfl];simp only;rw[vC fun f hf=>?_];rw[lkF,if_neg];have:=hl'.1 f hf;simp only at this;omega
def Hq (l:List (Int×Ty))(n:Int)(u:Ty):Bool:=l.any fun x=>decide (x.1=n) && QZ x.2 u
def Fj:List (Int×Ty)->Int->Option Nat
 |[],_=>none
 |(o,_) :: l,n=>if o=n then some 0 else (Fj l n).map (· +1)
def vg:Int->List Fd->List Fd×List Fd
 |_,[]=>([],[])
 |n,f :: l=>if f.1<n then (f :: (vg (max n (JZ f)) l).1,(vg (max n (JZ f)) l).2) else ([],f :: l)
def FK:Int->List Fd->Int
 |n,[]=>n
 |n,f :: l=>if f.1<n then FK (max n (JZ f)) l else n
def FV:Nat->List Fd->List (List Fd)
 |0,_=>[]
 |_,[]=>[]
 |k+1,f :: l=>(f :: (vg (JZ f) l).1) :: FV k (vg (JZ f) l).2
def F7 (l:List Fd):Prop:=l.Pairwise fun a b=>a.1<=b.1
def FB (l m:List Fd):Prop:=∀x,x∈l↔x∈m
def FF (l m:List Con):Prop:=∀c,c∈l↔c∈m
section
variable {l m:List Con}
end
section
variable {l:List Con}{x y:Int}
theorem X0 (h:VE l x y)(k:Q9 l x):Q9 l y:=by
 obtain⟨c,hc,ha,hv⟩:=k;exact⟨c,hc,ha,hv.trans h⟩
theorem ub (h:VE l x y)(k:X1 l x):X1 l y:=by
 obtain⟨c,hc,hv,k⟩:=k;refine⟨c,hc,hv.trans h, ?_⟩;rcases k with k|k|⟨k,e,he,k1,k2,k3⟩|k|k
 ·exact .inl k
 ·exact .inr (.inl k)
 ·exact .inr (.inr (.inl ⟨k,e,he,k1,k2.trans h,k3⟩))
 ·exact .inr (.inr (.inr (.inl k)))
 ·exact .inr (.inr (.inr (.inr k)))
theorem o6 {P:Int->Ty->Prop}(h:VE l x y){F:List (Int×Ty)}(k:Fields l P x F):Fields l P y F:=by
 obtain⟨h1,h2,h3⟩:=k;refine⟨h1,fun f hf=>?_,fun c hc ha hv=>h3 c hc ha (hv.trans h.symm)⟩;obtain⟨c,hc,ha,hv,ho⟩:=h2 f hf;exact⟨c,hc,ha,hv.trans h,ho⟩
theorem yq (h:VE l x y):∀{n:Nat} {t:Ty},Q8 l n x t->Q8 l n y t
 |0,_,k=>k.elim
 |n+1,t,k=>by
  rcases k with⟨h1,h2⟩|⟨h1,F,hF,h2⟩
  ·exact .inl ⟨ub h h1,h2⟩
  ·exact .inr ⟨fun k=>h1 (ub h.symm k),F,o6 h hF,h2⟩
end
theorem kM {l:List Con}{n:Int}(hok:∀c∈l,OkC n c){x y:Int}(h:VE l x y):x=y\/(x<n/\y<n):=by
 induction h with
 |refl=>exact .inl rfl
 |symm _ ih=>rcases ih with h|h;exact .inl h.symm;exact .inr ⟨h.2,h.1⟩
 | trans _ _ i1 i2=>
  rcases i1 with rfl|i1
  ·exact i2
  ·rcases i2 with rfl|i2
   ·exact .inr i1
   ·exact .inr ⟨i1.1,i2.2⟩
 |sub hc hk=>have:=hok _ hc;exact .inr ⟨this.a1,this.b1 (by omega)⟩
 |cell hc he w1 w2 _ _ _=>
  have h1:=hok _ hc;have h2:=hok _ he;have hw:∀c:Con,QQ c=true->c.kind≠1:=fun c h e=>by simp[QQ,QY,e]at h
  exact .inr ⟨h1.b1 (hw _ w1),h2.b1 (hw _ w2)⟩
def typeAt (ts:List Ty)(v:Int):Ty:=if 0<=v then (ts[v.toNat]?).getD Ty.unk else Ty.unk
def Hw (ts:List Ty) (c:Con):Bool:=
 if c.kind=0 then vm (typeAt ts c.a) (typeAt ts c.b) else if c.kind=1 then vm c.type (typeAt ts c.a) else if c.kind=4 then true
 else if c.kind=2\/c.kind=3 then
  (if (typeAt ts c.a).kind=6 then true else match (typeAt ts c.a).kind,(typeAt ts c.a).elem with
   |3,[x]=>(match Xq x c.off c.width with
    |none=>false
    |some f=>if c.width≠4 then true else if c.kind=2 then vm f (typeAt ts c.b) else vm (typeAt ts c.b) f)
   |_,_=>false)
 else false
theorem J7 {c:Con}(ha:QY c=true)(hw:c.width=4):QQ c=true:=by unfold QQ;rw[ha,Qv hw];rfl
end Go.Deco
namespace Go.Deco
def DnP (P:List Nat):Prop:=∀k p:Nat,P[k]? =some p->p<=k
def X6 (P:List Nat):Nat->Nat->Nat
 |0,k=>k
 |n+1,k=>match P[k]? with
  |some p=>if p=k then k else X6 P n p
  |none=>k
def Qb (P:List Nat)(k:Nat):Nat:=X6 P k k
theorem cW {P:List Nat}(h:DnP P):∀(n k:Nat),X6 P n k<=k
 |0,k=>by rw[X6];omega
 | n+1,k=>by
  rw[X6]
  cases e:P[k]? with
  |none=>simp
  |some p=>
   have hp:=h k p e;simp only
   split
   ·omega
   ·have:=cW h n p;omega
theorem uv {P:List Nat}(h:DnP P):∀(n m k:Nat),k<=n->k<=m->X6 P n k=X6 P m k
 |0,0,_,_,_=>rfl
 |0,m+1,k,h0,_=>by
  obtain rfl:k=0:=by omega
  rw[X6,X6]
  cases e:P[0]? with
  |none=>rfl
  |some p=>have:=h 0 p e;simp only;rw[if_pos (by omega)]
 |n+1,0,k,_,h0=>by
  obtain rfl:k=0:=by omega
  rw[X6,X6]
  cases e:P[0]? with
  |none=>rfl
  |some p=>have:=h 0 p e;simp only;rw[if_pos (by omega)]
 | n+1,m+1,k,h1,h2=>by
  rw[X6,X6]
  cases e:P[k]? with
  |none=>rfl
  |some p=>
   have:=h k p e;simp only
   split
   ·rfl
   ·exact uv h n m p (by omega) (by omega)
theorem qx {P:List Nat}(h:DnP P){k p:Nat}(hk:P[k]? =some p):Qb P k=if p=k then k else Qb P p:=by
 unfold Qb;have hp:=h k p hk
 cases k with
 |zero=>
  rw[X6,if_pos (by omega)]
 |succ k=>
  rw[X6,hk];simp only
  split
  ·rfl
  ·exact uv h k p p (by omega) (Nat.le_refl _)
theorem Kv {P:List Nat}(h:DnP P){k:Nat}(hk:P[k]? =some k):Qb P k=k:=by rw[qx h hk,if_pos rfl]
theorem J0 {P:List Nat}(h:DnP P){k p:Nat}(hk:P[k]? =some p):Qb P k=Qb P p:=by
 rw[qx h hk]
 split
 ·rename_i e
  rw[e]at hk;rw[e,Kv h hk]
 ·rfl
theorem zy {P:List Nat}{k:Nat}(hk:P[k]? =none):Qb P k=k:=by
 unfold Qb
 cases k with
 |zero=>rfl
 |succ k=>rw [X6,hk]
theorem cG {P:List Nat}(h:DnP P)(k:Nat):Qb P k<=k:=cW h k k
theorem qg {P:List Nat}(h:DnP P):∀(n k:Nat),k<=n->k<P.length->P[Qb P k]? =some (Qb P k)
 | n,k,hn,hk=>by
  have e:=Qq hk;have hp:=h k _ e;by_cases c:P[k]=k
  ·rw[qx h e,if_pos c];rw[c]at e;exact e
  ·rw[qx h e,if_neg c]
   cases n with
   |zero=>omega
   |succ n=>exact qg h n _ (by omega) (by omega)
theorem xj {P:List Nat}(h:DnP P){k:Nat}(hk:k<P.length):Qb P k<P.length:=by have:=cG h k;omega
theorem uw {P:List Nat}(h:DnP P){k:Nat}(hk:k<P.length):Qb P (Qb P k)=Qb P k:=Kv h (qg h k k (Nat.le_refl _) hk)
structure XM (P P':List Nat):Prop where
 len:P'.length=P.length
 dn:DnP P'
 root:∀x,Qb P' x=Qb P x
 sum:P'.sum<=P.sum
theorem XM.refl {P:List Nat}(h:DnP P):XM P P:=⟨rfl,h,fun _=>rfl,Nat.le_refl _⟩
theorem XM.trans {P Q R:List Nat}(h:XM P Q)(k:XM Q R):XM P R:=⟨k.len.trans h.len,k.dn,fun x=>(k.root x).trans (h.root x),Nat.le_trans k.sum h.sum⟩
theorem yG:∀(P:List Nat) (k p q:Nat),P[k]? =some p->(P.set k q).sum+p=P.sum+q
 |[],_,_,_,h=>by simp at h
 |x :: P,0,p,q,h=>by
  simp at h;subst h;simp;omega
 |x :: P,k+1,p,q,h=>by
  have:=yG P k p q (by simpa using h);simp;omega
theorem yC {P:List Nat}(h:DnP P){k q:Nat}(hq:q<=k):DnP (P.set k q):=by
 intro i p hi;by_cases e:k=i
 ·subst e;by_cases hl:k<P.length
  ·rw[List.getElem?_set_self hl]at hi;cases hi;exact hq
  ·rw[List.getElem?_eq_none (by simp;omega)]at hi;cases hi
 ·rw[List.getElem?_set_ne e]at hi;exact h i p hi
theorem aw {P:List Nat}(h:DnP P){k p q:Nat}(hk:P[k]? =some p)(hp:P[p]? =some q):XM P (P.set k q):=by
 have h1:=h k p hk;have h2:=h p q hp;have hd:DnP (P.set k q):=yC h (by omega);have hkl:=(Qz hk).1;refine⟨by simp,hd,fun x=>?_,by have:=yG P k p q hk;omega⟩
 induction x using Nat.strongRecOn with
 | _ x ih=>
  by_cases e:k=x
  ·subst e;have hs:(P.set k q)[k]? =some q:=List.getElem?_set_self hkl;rw[J0 h hk,J0 h hp];by_cases c:q=k
   ·subst c;rw[Kv hd hs];have:p=q:=by omega
    subst this;rw[Kv h hp]
   ·rw[J0 hd hs];exact ih q (by omega)
  ·cases hx:P[x]? with
   |none=>rw [zy hx,zy (by rw[List.getElem?_set_ne e];exact hx)]
   |some y=>
    have hy:=h x y hx;have hs:(P.set k q)[x]? =some y:=by rw[List.getElem?_set_ne e];exact hx
    rw[qx h hx,qx hd hs]
    split
    ·rfl
    ·exact ih y (by omega)
theorem wD {P:List Nat}(h:DnP P){a b:Nat}(ha:P[a]? =some a)(hb:P[b]? =some b)(hab:b<=a):
  DnP (P.set a b)/\(P.set a b).length=P.length/\(∀x,Qb (P.set a b) x=if Qb P x=a then b else Qb P x)/\(P.set a b).sum+a=P.sum+b:=by
 have hd:DnP (P.set a b):=yC h hab;have hal:=(Qz ha).1;refine⟨hd,by simp,fun x=>?_,yG P a a b ha⟩;have hs:(P.set a b)[a]? =some b:=List.getElem?_set_self hal
 have hrb:Qb (P.set a b) b=b:=by
  by_cases c:a=b
  ·subst c;exact Kv hd hs
  ·exact Kv hd (by rw[List.getElem?_set_ne c];exact hb)
 induction x using Nat.strongRecOn with
 | _ x ih=>
  by_cases e:a=x
  ·subst e;rw[Kv h ha,if_pos rfl,J0 hd hs,hrb]
  ·cases hx:P[x]? with
   |none=>
    rw[zy hx,zy (by rw[List.getElem?_set_ne e];exact hx),if_neg (fun c=>e c.symm)]
   | some y=>
    have hy:=h x y hx;have hs':(P.set a b)[x]? =some y:=by rw[List.getElem?_set_ne e];exact hx
    by_cases c:y=x
    ·subst c;rw[Kv h hx,Kv hd hs',if_neg (fun c=>e c.symm)]
    ·rw[J0 h hx,J0 hd hs'];exact ih y (by omega)
theorem jP (N:Nat):DnP (List.range N):=by
 intro k p h;obtain⟨h1,h2⟩:=Qz h;simp at h2;omega
theorem tP (N k:Nat):Qb (List.range N) k=k:=by
 by_cases h:k<N
 ·exact Kv (jP N) (by rw[List.getElem?_range h])
 ·exact zy (List.getElem?_eq_none (by simp;omega))
open Go Go.RowKit
def Zz (l:List Con)(n:Nat)(x:Nat):Int:=if x<n then x else match l[x - n]? with
 |some c=>if QQ c then c.b else x
 |none=>x
theorem Z5 {l:List Con}{n x:Nat}(h:x<n):Zz l n x=x:=by unfold Zz;rw[if_pos h]
theorem KG {l:List Con}{n k:Nat}{c:Con}(hc:l[k]? =some c)(hw:QQ c=true):Zz l n (n+k)=c.b:=by
 unfold Zz;rw[if_neg (by omega),show n+k - n=k by omega,hc];simp[hw]
def VQ (l:List Con)(n:Nat)(r:Nat->Nat):Prop:=∀x y,x<n+l.length->y<n+l.length->r x=r y->VE l (Zz l n x) (Zz l n y)
theorem tK (l:List Con)(n:Nat):VQ l n (fun x=>x):=fun x y _ _ h=>by simp only at h;rw[h];exact .refl _
theorem tV {l:List Con}{n:Nat}{r r':Nat->Nat}(h:VQ l n r)(e:∀x,r' x=r x):VQ l n r':=fun x y hx hy k=>h x y hx hy (by rw[<-e,<-e,k])
theorem fZ {l:List Con}{n:Nat}{r r':Nat->Nat}(h:VQ l n r){x0 y0 a b:Nat}(hx0:x0<n+l.length)(hy0:y0<n+l.length)(hv:VE l (Zz l n x0) (Zz l n y0))
  (hab:(r x0=a/\r y0=b)\/(r x0=b/\r y0=a)) (e:∀z,r' z=if r z=a then b else r z):VQ l n r':=by
 have key:∀x,x<n+l.length->(r x=a\/r x=b)->VE l (Zz l n x) (Zz l n x0):=fun x hx hr=>by
  rcases hab with⟨h1,h2⟩|⟨h1,h2⟩
  ·rcases hr with hr|hr
   ·exact h x x0 hx hx0 (by rw[hr,h1])
   ·exact(h x y0 hx hy0 (by rw[hr,h2])).trans hv.symm
  ·rcases hr with hr|hr
   ·exact(h x y0 hx hy0 (by rw[hr,h2])).trans hv.symm
   ·exact h x x0 hx hx0 (by rw[hr,h1])
 intro x y hx hy k;rw[e,e]at k;by_cases c1:r x=a
 ·rw[if_pos c1]at k;by_cases c2:r y=a
  ·exact(key x hx (.inl c1)).trans (key y hy (.inl c2)).symm
  ·rw[if_neg c2]at k;exact(key x hx (.inl c1)).trans (key y hy (.inr k.symm)).symm
 ·rw[if_neg c1]at k;by_cases c2:r y=a
  ·rw[if_pos c2]at k;exact(key x hx (.inr k)).trans (key y hy (.inl c2)).symm
  ·rw[if_neg c2]at k;exact h x y hx hy k
structure kf (l:List Con)(n:Nat)(r:Nat->Nat):Prop where
 sub:∀c∈l,c.kind=0->r c.a.toNat=r c.b.toNat
 node:∀k c,l[k]? =some c->QQ c=true->r (n+k)=r c.b.toNat
 cell:∀k i c e,l[k]? =some c->l[i]? =some e->QQ c=true->QQ e=true->c.off=e.off->r c.a.toNat=r e.a.toNat->r (n+k)=r (n+i)
theorem Zp {c:Con}(h:QQ c=true):c.kind≠1/\c.kind≠0/\(c.kind=2\/c.kind=3):=by
 unfold QQ QY at h;simp only[Bool.and_eq_true,decide_eq_true_eq]at h;omega
theorem t7 {l:List Con}{n:Nat}{r:Nat->Nat}(hok:∀c∈l,OkC n c)(h:kf l n r){x y:Int}(hv:VE l x y):r x.toNat=r y.toNat:=by
 induction hv with
 |refl=>rfl
 |symm _ ih=>exact ih.symm
 |trans _ _ i1 i2=>exact i1.trans i2
 |sub hc hk=>exact h.sub _ hc hk
 |cell hc he w1 w2 ho _ ih=>
  obtain⟨k,hk⟩:=List.getElem?_of_mem hc;obtain⟨i,hi⟩:=List.getElem?_of_mem he;rw[<-h.node k _ hk w1,<-h.node i _ hi w2];exact h.cell k i _ _ hk hi w1 w2 ho ih
def Xk (l:List Con)(n:Nat)(r:Nat->Nat):Prop:=∀x y,x<n+l.length->y<n+l.length->(r x=r y↔VE l (Zz l n x) (Zz l n y))
theorem bg {l:List Con}{n:Nat}{r:Nat->Nat}(hok:∀c∈l,OkC n c)(hs:VQ l n r)(hc:kf l n r):Xk l n r:=by
 have var:∀x,x<n+l.length->(r x=r (Zz l n x).toNat/\0<=Zz l n x/\Zz l n x<n)\/(Zz l n x=x/\(n:Int)<=x):=fun x hx=>by
  unfold Zz;by_cases h:x<n
  ·rw[if_pos h];exact .inl ⟨rfl,by omega,by omega⟩
  ·rw[if_neg h];have hg:=Qq (l:=l) (i:=x - n) (by omega);rw[hg];simp only
   split
   ·rename_i hw
    have ho:=hok _ (Qx hg);have hk:=(Zp hw).1;have:=hc.node (x - n) _ hg hw;rw[show n+(x - n)=x by omega]at this;exact .inl ⟨this,ho.b0 hk,ho.b1 hk⟩
   ·exact .inr ⟨rfl,by omega⟩
 intro x y hx hy;refine⟨hs x y hx hy,fun hv=>?_⟩;rcases var x hx with⟨h1,h2,h3⟩|⟨h1,h2⟩
 ·rcases var y hy with⟨k1,k2,k3⟩|⟨k1,k2⟩
  ·rw[h1,k1];exact t7 hok hc hv
  ·rw[k1]at hv;rcases kM hok hv with e|e <;> omega
 ·rw[h1]at hv;rcases kM hok hv with e|e
  ·rcases var y hy with⟨k1,k2,k3⟩|⟨k1,k2⟩
   ·omega
   ·have:x=y:=by omega
    rw[this]
  ·omega
section
variable {l:List Con}{n:Nat}{r:Nat->Nat}
theorem jm (h:Xk l n r){x y:Nat}(hx:x<n)(hy:y<n):r x=r y↔VE l (x:Int) (y:Int):=by
 rw[h x y (by omega) (by omega),Z5 hx,Z5 hy]
theorem zm (h:Xk l n r){x y:Int}(h0:0<=x)(h1:x<n)(k0:0<=y)(k1:y<n):r x.toNat=r y.toNat↔VE l x y:=by
 rw[jm h (by omega) (by omega),Qk h0,Qk k0]
theorem wX (h:Xk l n r){k:Nat}{c:Con}(hok:OkC n c)(hc:l[k]? =some c)(hw:QQ c=true):r (n+k)=r c.b.toNat:=by
 have h0:=hok.b0 (Zp hw).1;have h1:=hok.b1 (Zp hw).1;have hk:=(Qz hc).1;rw[h _ _ (by omega) (by omega),KG hc hw,Z5 (by omega),Qk h0];exact .refl _
theorem wZ (h:Xk l n r){c e:Con}(hc:OkC n c)(he:OkC n e)(w1:QQ c=true)(w2:QQ e=true):Zc l c e↔c.off=e.off/\r c.a.toNat=r e.a.toNat:=by
 unfold Zc;rw[zm h hc.a0 hc.a1 he.a0 he.a1];exact⟨fun k=>k.2.2,fun k=>⟨w1,w2,k⟩⟩
end
def inPlace (l:List Con)(r:Nat->Nat)(p:Nat×Int)(i:Nat):Bool:=match l[i]? with
 |some c=>QQ c && decide (r c.a.toNat=p.1) && decide (c.off=p.2)
 |none=>false
def X3 (l:List Con)(r:Nat->Nat)(m:Nat)(p:Nat×Int):List Nat:=(List.range m).filter (inPlace l r p)
def X4 (l:List Con)(r:Nat->Nat)(p:Nat×Int):List Nat:=X3 l r l.length p
theorem jq {l:List Con}{r:Nat->Nat}{m:Nat}{p:Nat×Int}{i:Nat}:i∈X3 l r m p↔i<m/\∃c,l[i]? =some c/\QQ c=true/\r c.a.toNat=p.1/\c.off=p.2:=by
 unfold X3 inPlace;rw[List.mem_filter,List.mem_range]
 cases h:l[i]? with
 |none=>simp
 |some c=>simp [and_assoc]
theorem ww {l:List Con}{r:Nat->Nat}{m:Nat}{c:Con}(hc:l[m]? =some c)(p:Nat×Int):X3 l r (m+1) p=if QQ c=true/\r c.a.toNat=p.1/\c.off=p.2 then X3 l r m p ++ [m] else X3 l r m p:=by
 unfold X3;rw[List.range_succ,List.filter_append];have:inPlace l r p m=(QQ c && decide (r c.a.toNat=p.1) && decide (c.off=p.2)):=by unfold inPlace;rw[hc]
 split
 ·rename_i h
  rw[List.filter_cons_of_pos (by rw[this,h.1,Qv h.2.1,Qv h.2.2];rfl)];rfl
 ·rename_i h
  rw[List.filter_cons_of_neg (by rw[this];simp only[Bool.and_eq_true,decide_eq_true_eq];exact fun k=>h ⟨k.1.1,k.1.2,k.2⟩)];simp
theorem sP {l:List Con}{r r':Nat->Nat}(h:∀x,r' x=r x)(m:Nat)(p:Nat×Int):X3 l r' m p=X3 l r m p:=by
 have:r'=r:=funext h;rw[this]
def placeOf (r:Nat->Nat)(c:Con):Nat×Int:=(r c.a.toNat,c.off)
def Xv (l:List Con)(n:Nat)(r:Nat->Nat)(c:Con):Nat:=n+(X4 l r (placeOf r c)).headD 0
section
variable {l:List Con}{n:Nat}{r:Nat->Nat}
theorem lK {k:Nat}{c:Con}(hc:l[k]? =some c)(hw:QQ c=true):k∈X4 l r (placeOf r c):=
 jq.2 ⟨(Qz hc).1,c,hc,hw,rfl,rfl⟩
theorem zj {c:Con}(hc:c∈l)(hw:QQ c=true):∃i e,Xv l n r c=n+i/\l[i]? =some e/\QQ e=true/\r e.a.toNat=r c.a.toNat/\e.off=c.off/\(X4 l r (placeOf r c))[0]? =some i:=by
 obtain⟨k,hk⟩:=List.getElem?_of_mem hc;have hm:=lK (r:=r) hk hw;unfold Xv
 cases h:X4 l r (placeOf r c) with
 |nil=>rw [h]at hm;cases hm
 |cons i rest=>
  have hi:i∈X4 l r (placeOf r c):=by rw[h];exact List.mem_cons_self ..
  obtain⟨_,e,h1,h2,h3,h4⟩:=jq.1 hi;exact⟨i,e,rfl,h1,h2,h3,h4,rfl⟩
theorem jB (c:Con):n<=Xv l n r c:=by unfold Xv;omega
theorem eC {c e:Con}(h1:c.off=e.off)(h2:r c.a.toNat=r e.a.toNat):Xv l n r c=Xv l n r e:=by unfold Xv placeOf;rw[h1,h2]
theorem oZ {c e:Con}(hc:c∈l)(he:e∈l)(w1:QQ c=true)(w2:QQ e=true)(h:Xv l n r c=Xv l n r e):c.off=e.off/\r c.a.toNat=r e.a.toNat:=by
 obtain⟨i,x,e1,h1,_,h2,h3,_⟩:=zj (n:=n) (r:=r) hc w1;obtain⟨j,y,e2,k1,_,k2,k3,_⟩:=zj (n:=n) (r:=r) he w2;obtain rfl:i=j:=by omega
 rw[h1]at k1;cases k1;exact⟨h3.symm.trans k3,h2.symm.trans k2⟩
theorem wm (h:Xk l n r)(hok:∀c∈l,OkC n c){c e:Con}(hc:c∈l)(he:e∈l)(w1:QQ c=true)(w2:QQ e=true):Xv l n r c=Xv l n r e↔Zc l c e:=by
 rw[wZ h (hok c hc) (hok e he) w1 w2];exact⟨oZ hc he w1 w2,fun k=>eC k.1 k.2⟩
theorem pV {c:Con}(hc:c∈l)(hw:QQ c=true):Xv l n r c<n+l.length:=by
 obtain⟨i,e,h1,h2,_⟩:=zj (n:=n) (r:=r) hc hw;have:=(Qz h2).1;omega
end
def Xf (l:List Con)(n:Nat)(r:Nat->Nat)(c:Con):Option (Nat×Nat):=
 if c.kind=0 then some (c.a.toNat,c.b.toNat) else if QQ c=true then (if c.kind=2 then some (Xv l n r c,c.b.toNat) else some (c.b.toNat,Xv l n r c)) else none
def YC (x:Nat)(L:List Nat):Option (Nat×Nat)->List Nat
 |some (a,b)=>if a=x then L ++ [b] else L
 |none=>L
def ZV (l:List Con)(n:Nat)(r:Nat->Nat):Nat->Nat->List Nat
 |0,_=>[]
 |m+1,x=>match l[m]? with
  |some c=>YC x (ZV l n r m x) (Xf l n r c)
  |none=>ZV l n r m x
def ZP (l:List Con):Nat->Nat->Ty
 |0,_=>Ty.unk
 |m+1,x=>match l[m]? with
  |some c=>if c.kind=1/\c.a.toNat=x then QX (ZP l m x) c.type else ZP l m x
  |none=>ZP l m x
def Yz (l:List Con)(n:Nat)(r:Nat->Nat)(x y:Nat):Prop:=∃c∈l,Xf l n r c=some (x,y)
inductive YF (l:List Con)(n:Nat)(r:Nat->Nat):Nat->Nat->Prop
 |refl (x:Nat):YF l n r x x
 |step {x y z:Nat}:YF l n r x y->Yz l n r y z->YF l n r x z
section
variable {l:List Con}{n:Nat}{r:Nat->Nat}
theorem qz:∀{m x y:Nat},y∈ZV l n r m x↔∃k c,k<m/\l[k]? =some c/\Xf l n r c=some (x,y)
 |0,x,y=>by simp[ZV]
 | m + 1,x,y=>by
  rw[ZV];constructor
  ·intro h
   cases hc:l[m]? with
   |none=>
    rw[hc]at h;obtain⟨k,c,h1,h2⟩:=qz.1 h;exact⟨k,c,by omega,h2⟩
   | some c=>
    rw[hc]at h;simp only at h;unfold YC at h
    split at h
    ·rename_i a b he
     split at h
     ·rename_i hx
      rcases List.mem_append.1 h with h|h
      ·obtain⟨k,c,h1,h2⟩:=qz.1 h;exact⟨k,c,by omega,h2⟩
      ·simp at h;subst h hx;exact⟨m,c,by omega,hc,he⟩
     ·obtain⟨k,c,h1,h2⟩:=qz.1 h;exact⟨k,c,by omega,h2⟩
    ·obtain⟨k,c,h1,h2⟩:=qz.1 h;exact⟨k,c,by omega,h2⟩
  ·rintro⟨k,c,h1,h2,h3⟩;by_cases hk:k=m
   ·subst hk;rw[h2];simp only;rw[h3];simp[YC]
   ·have h4:y∈ZV l n r m x:=qz.2 ⟨k,c,by omega,h2,h3⟩
    cases hc:l[m]? with
    |none=>exact h4
    | some c'=>
     simp only;unfold YC
     split
     ·split
      ·exact List.mem_append_left _ h4
      ·exact h4
     ·exact h4
theorem wK {x y:Nat}:y∈ZV l n r l.length x↔Yz l n r x y:=by
 rw[qz];constructor
 ·rintro⟨k,c,_,h1,h2⟩;exact⟨c,Qx h1,h2⟩
 ·rintro⟨c,hc,h⟩;obtain⟨k,hk⟩:=List.getElem?_of_mem hc;exact⟨k,c,(Qz hk).1,hk,h⟩
theorem dD (hok:∀c∈l,OkC n c){x y:Nat}(h:Yz l n r x y):x<n+l.length/\y<n+l.length:=by
 obtain⟨c,hc,h⟩:=h;have ho:=hok c hc;unfold Xf at h
 split at h
 ·rename_i hk
  cases h;have h1:=ho.a1;have h2:=ho.b1 (by omega);have h3:=ho.a0;have h4:=ho.b0 (by omega);omega
 ·split at h
  ·rename_i hw
   have h2:=ho.b1 (Zp hw).1;have h4:=ho.b0 (Zp hw).1;have h5:=pV (n:=n) (r:=r) hc hw
   split at h <;> cases h <;> omega
  ·cases h
theorem Jq (hok:∀c∈l,OkC n c):∀(m x:Nat),Zq (ZP l m x)=true
 |0,_=>xw
 | m+1,x=>by
  rw[ZP]
  cases hc:l[m]? with
  |none=>exact Jq hok m x
  | some c=>
   simp only
   split
   ·rename_i h
    exact KY (Jq hok m x) ((hok c (Qx hc)).t h.1)
   ·exact Jq hok m x
theorem bC (hok:∀c∈l,OkC n c):∀{m k:Nat} {c:Con},k<m->l[k]? =some c->c.kind=1->QZ c.type (ZP l m c.a.toNat)=true
 | m +1,k,c,hk,hc,h1=>by
  rw[ZP];have hgc:=QP ((hok c (Qx hc)).t h1);have hgm:=QP (Jq hok m c.a.toNat);by_cases e:k=m
  ·subst e;rw[hc];simp only[h1,and_self,if_true];exact qp hgm hgc
  ·have ih:=bC hok (m:=m) (by omega) hc h1
   cases hm:l[m]? with
   |none=>exact ih
   | some c'=>
    simp only
    split
    ·rename_i h
     have hgc':=QP ((hok c' (Qx hm)).t h.1);exact VD hgc hgm (mj hgm hgc') ih (YQ hgm hgc')
    ·exact ih
theorem fg (hok:∀c∈l,OkC n c){u:Ty}(hu:Zq u=true){x:Nat}(h:∀c∈l,c.kind=1->c.a.toNat=x->QZ c.type u=true):∀(m:Nat),QZ (ZP l m x) u=true
 |0=>Kb u
 | m+1=>by
  rw[ZP];have ih:=fg hok hu h m
  cases hc:l[m]? with
  |none=>exact ih
  | some c=>
   simp only
   split
   ·rename_i hk
    have hm:=Qx hc;exact qq (QP (Jq hok m x)) (QP ((hok c hm).t hk.1)) (QP hu) ih (h c hm hk.1 hk.2)
   ·exact ih
theorem mX (hcl:Xk l n r)(hok:∀c∈l,OkC n c){x y:Nat}(h:YF l n r x y)(hx:x<n):
  (y<n->Reach l (x:Int) (y:Int))/\∀c∈l,QQ c=true->y=Xv l n r c->∃e∈l,e.kind=3/\Zc l e c/\Reach l (x:Int) e.b:=by
 induction h with
 |refl=>exact⟨fun _=> .refl _,fun c hc hw e=>by have:=jB (l:=l) (n:=n) (r:=r) c;omega⟩
 | step _ s ih=>
  obtain⟨c,hc,he⟩:=s;have ho:=hok c hc;unfold Xf at he
  split at he
  ·rename_i hk
   cases he;have h1:=ho.a1;have h2:=ho.b1 (by omega);have h3:=ho.a0;have h4:=ho.b0 (by omega);have h5:=ih.1 (by omega);rw[Qk h3]at h5;refine⟨fun _=>by rw[Qk h4];exact .step h5 (.sub hc hk),fun c' _ _ e=>?_⟩;have:=jB (l:=l) (n:=n) (r:=r) c';omega
  ·split at he
   ·rename_i hw
    have h2:=ho.b1 (Zp hw).1;have h4:=ho.b0 (Zp hw).1
    split at he
    ·rename_i hk
     cases he;obtain⟨e,he,e3,hse,hr⟩:=ih.2 c hc hw rfl;refine⟨fun _=>by rw[Qk h4];exact .step hr (.cell he hc hse e3 hk),fun c' _ _ e=>?_⟩;have:=jB (l:=l) (n:=n) (r:=r) c';omega
    ·rename_i hk
     cases he;have h5:=ih.1 (by omega);rw[Qk h4]at h5;refine⟨fun h=>?_,fun c' hc' hw' e=>⟨c,hc,by have:=(Zp hw).2.2;omega,(wm hcl hok hc hc' hw hw').1 e,h5⟩⟩;have:=jB (l:=l) (n:=n) (r:=r) c;omega
   ·cases he
theorem mZ (hcl:Xk l n r)(hok:∀c∈l,OkC n c){x y:Int}(h:Reach l x y)(h0:0<=x):YF l n r x.toNat y.toNat:=by
 induction h with
 |refl=>exact .refl _
 | step _ s ih=>
  cases s with
  |sub hc hk=>exact .step ih ⟨_,hc,by unfold Xf;rw[if_pos hk]⟩
  | @cell s d hs hd hsd k3 k2=>
   have e1:Xf l n r s=some (s.b.toNat,Xv l n r s):=by
    unfold Xf;rw[if_neg (by omega),if_pos hsd.1,if_neg (by omega)]
   have e2:Xf l n r d=some (Xv l n r s,d.b.toNat):=by
    unfold Xf;rw[if_neg (by omega),if_pos hsd.2.1,if_pos k2,(wm hcl hok hs hd hsd.1 hsd.2.1).2 hsd]
   exact .step (.step ih ⟨_,hs,e1⟩) ⟨_,hd,e2⟩
structure VW (l:List Con)(n:Nat)(r:Nat->Nat)(opn:Nat->Prop)(S:Nat->Ty):Prop where
 good:∀x,Zq (S x)=true
 init:∀c∈l,c.kind=1->QZ c.type (S c.a.toNat)=true
 edge:∀x y,Yz l n r x y->¬opn x->QZ (S x) (S y)=true
 least:∀x u,Zq u=true->(∀c∈l,c.kind=1->YF l n r c.a.toNat x->QZ c.type u=true)->QZ (S x) u=true
theorem nx (hok:∀c∈l,OkC n c){S:Nat->Ty}(h:VW l n r (fun _=>False) S){x y:Nat}(hr:YF l n r x y):QZ (S x) (S y)=true:=by
 induction hr with
 |refl=>exact JB (QP (h.good _))
 |step _ s ih=>exact VD (QP (h.good _)) (QP (h.good _)) (QP (h.good _)) ih (h.edge _ _ s (fun k=>k))
theorem o8 (hcl:Xk l n r)(hok:∀c∈l,OkC n c){S:Nat->Ty}(h:VW l n r (fun _=>False) S){x:Nat}(hx:x<n):qG l (x:Int) (S x):=by
 refine⟨h.good x, ?_,fun u hu hs=>h.least x u hu fun c hc hk hr=>hs _ ⟨c,hc,hk, ?_,rfl⟩⟩
 ·rintro s ⟨k,hk,k1,hr,rfl⟩;have h1:=mZ hcl hok hr (hok k hk).a0;rw[Int.toNat_natCast]at h1;exact VD (QP ((hok k hk).t k1)) (QP (h.good _)) (QP (h.good _)) (h.init k hk k1) (nx hok h h1)
 ·have h0:=(hok c hc).a0;have h1:=(hok c hc).a1;have:=(mX hcl hok hr (by omega)).1 hx
  rwa [Qk h0]at this
theorem o7 (hcl:Xk l n r)(hok:∀c∈l,OkC n c){S:Nat->Ty}(h:VW l n r (fun _=>False) S){c:Con}(hc:c∈l)(hw:QQ c=true):X2 l c (S (Xv l n r c)):=by
 refine⟨h.good _, ?_,fun u hu hs=>h.least _ u hu fun k hk k1 hr=>hs _ ?_⟩
 ·rintro s ⟨e,he,e3,hse,k,hk,k1,hr,rfl⟩;have h1:=mZ hcl hok hr (hok k hk).a0
  have h2:Yz l n r e.b.toNat (Xv l n r c):=⟨e,he,by
   unfold Xf;rw[if_neg (by omega),if_pos hse.1,if_neg (by omega),(wm hcl hok he hc hse.1 hw).2 hse]⟩
  exact VD (QP ((hok k hk).t k1)) (QP (h.good _)) (QP (h.good _)) (h.init k hk k1) (nx hok h (.step h1 h2))
 ·have h0:=(hok k hk).a0;have h1:=(hok k hk).a1;obtain⟨e,he,e3,hse,hr'⟩:=(mX hcl hok hr (by omega)).2 c hc hw rfl;rw[Qk h0]at hr';exact⟨e,he,e3,hse,k,hk,k1,hr',rfl⟩
theorem lg (hok:∀c∈l,OkC n c):VW l n r (fun x=>(ZP l l.length x).kind≠0) (ZP l l.length):=by
 refine⟨fun x=>Jq hok _ x,fun c hc hk=>?_,fun x y _ hx=>?_,fun x u hu h=>fg hok hu (fun c hc hk hx=>h c hc hk (by rw[hx];exact .refl _)) _⟩
 ·obtain⟨k,hk'⟩:=List.getElem?_of_mem hc;exact bC hok (Qz hk').1 hk' hk
 ·have:ZP l l.length x=Ty.unk:=by
   have hg:=Jq hok l.length x
   have h0:(ZP l l.length x).kind=0:=by
    by_cases e:(ZP l l.length x).kind=0
    ·exact e
    ·exact absurd e hx
   rcases Z1 (QP hg) with(e|e)|⟨s,hs,(e|e)⟩|⟨x,e,hx⟩|⟨x,n,e,h1,h2,hx⟩|⟨f,e,hl⟩ <;> rw[e]at h0
   ·exact e
   all_goals simp[Ty.any,Ty.int,Ty.uint,Ty.ptr,Ty.arr,Ty.str,Ty.kind]at h0
  rw[this];exact Kb _
theorem o9 (hok:∀c∈l,OkC n c){S:Nat->Ty}{opn:Nat->Prop}(h:VW l n r opn S){k t:Nat}(hs:Yz l n r k t):
  VW l n r (fun x=>opn x\/x=t) (fun x=>if x=t then QX (S t) (S k) else S x):=by
 have hft:=QP (h.good t);have hfk:=QP (h.good k)
 have hup:∀x,QZ (S x) (if x=t then QX (S t) (S k) else S x)=true:=fun x=>by
  split
  ·rename_i e;rw[e];exact YQ hft hfk
  ·exact JB (QP (h.good x))
 have hgd:∀x,Zq (if x=t then QX (S t) (S k) else S x)=true:=fun x=>by
  split
  ·exact KY (h.good t) (h.good k)
  ·exact h.good x
 refine⟨hgd,fun c hc hk=>?_,fun x y hxy hx=>?_,fun x u hu hl=>?_⟩
 ·exact VD (QP ((hok c hc).t hk)) (QP (h.good _)) (QP (hgd _)) (h.init c hc hk) (hup _)
 ·have hx1:x≠t:=fun e=>hx (.inr e);rw[if_neg hx1];have:=h.edge x y hxy (fun e=>hx (.inl e));exact VD (QP (h.good _)) (QP (h.good _)) (QP (hgd _)) this (hup y)
 ·split
  ·rename_i e
   subst e;refine qq hft hfk (QP hu) (h.least x u hu hl) (h.least k u hu fun c hc hk hr=>hl c hc hk (.step hr hs))
  ·exact h.least x u hu hl
theorem VW.weaken {S:Nat->Ty}{opn opn':Nat->Prop}(h:VW l n r opn S)(hx:∀x y,Yz l n r x y->opn x->¬opn' x->QZ (S x) (S y)=true):VW l n r opn' S:=
 ⟨h.good,h.init,fun x y hs hn=>by
  by_cases c:opn x
  ·exact hx x y hs c hn
  ·exact h.edge x y hs c,h.least⟩
end
theorem Zv.mono {l:List Con}{P P':Int->Ty->Prop}(hP:∀x t,P x t->P' x t){c:Con}{t:Ty}(h:Zv l P c t):Zv l P' c t:=by
 unfold Zv at h ⊢
 split
 ·rename_i hw;rwa [if_pos hw]at h
 ·rename_i hw
  rw[if_neg hw]at h;rcases h with h|⟨h1,h2,h3⟩|h
  ·exact .inl h
  ·exact .inr (.inl ⟨h1,h2,hP _ _ h3⟩)
  ·exact .inr (.inr h)
theorem Fields.mono {l:List Con}{P P':Int->Ty->Prop}(hP:∀x t,P x t->P' x t){x:Int}{F:List (Int×Ty)}(h:Fields l P x F):Fields l P' x F:=
 ⟨h.1,h.2.1,fun c hc ha hv=>by obtain⟨t,h1,h2⟩:=h.2.2 c hc ha hv;exact⟨t,h1,h2.mono hP⟩⟩
theorem Q8.up {l:List Con}:∀{n:Nat} {x:Int} {t:Ty},Q8 l n x t->Q8 l (n+1) x t
 |0,_,_,h=>h.elim
 |n+1,x,t,h=>by
  rcases h with h|⟨h1,F,hF,h2⟩
  ·exact .inl h
  ·exact .inr ⟨h1,F,hF.mono fun y u k=>Q8.up k,h2⟩
theorem Q8.mono {l:List Con}{n m:Nat}(hm:n<=m){x:Int}{t:Ty}(h:Q8 l n x t):Q8 l m x t:=by
 induction hm with
 |refl=>exact h
 |step _ ih=>exact ih.up
theorem cX:∀(L:List Ty),(∀t∈L,Zq t=true)->∃t,ZG (fun s=>s∈L) t
 |[],_=>⟨Ty.unk,xw,fun s h=>(by cases h),fun u _ _=>Kb u⟩
 | s :: L,h=>by
  obtain⟨t,h1,h2,h3⟩:=cX L fun t ht=>h t (List.mem_cons_of_mem _ ht);have hs:=h s (List.mem_cons_self ..);refine⟨QX s t,KY hs h1,fun x hx=>?_,fun u hu hx=>?_⟩
  ·rcases List.mem_cons.1 hx with rfl|hx
   ·exact YQ (QP hs) (QP h1)
   ·exact VD (QP (h x (List.mem_cons_of_mem _ hx))) (QP h1) (QP (KY hs h1)) (h2 x hx) (qp (QP hs) (QP h1))
  ·exact qq (QP hs) (QP h1) (QP hu) (hx s (List.mem_cons_self ..)) (h3 u hu fun x k=>hx x (List.mem_cons_of_mem _ k))
open Classical in
theorem iV {l:List Con}{n:Int}(hok:∀c∈l,OkC n c)(p:Con->Prop):∃t,ZG (fun s=>∃k∈l,k.kind=1/\p k/\s=k.type) t:=by
 obtain⟨t,ht⟩:=cX ((l.filter fun k:Con=>decide (k.kind=1/\p k)).map Con.type) (fun t ht=>by
  obtain⟨k,hk,rfl⟩:=List.mem_map.1 ht;obtain⟨h1,h2⟩:=List.mem_filter.1 hk;exact(hok k h1).t (of_decide_eq_true h2).1)
 refine⟨t,ht.congr fun s=>?_⟩;constructor
 ·intro hs;obtain⟨k,hk,rfl⟩:=List.mem_map.1 hs;obtain⟨h1,h2⟩:=List.mem_filter.1 hk;exact⟨k,h1,(of_decide_eq_true h2).1,(of_decide_eq_true h2).2,rfl⟩
 ·rintro⟨k,hk,h1,h2,rfl⟩;exact List.mem_map.2 ⟨k,List.mem_filter.2 ⟨hk,Qv ⟨h1,h2⟩⟩,rfl⟩
theorem GZ {l:List Con}{n:Int}(hok:∀c∈l,OkC n c)(c:Con):∃t,X2 l c t:=by
 obtain⟨t,ht⟩:=iV hok fun k=>∃e∈l,e.kind=3/\Zc l e c/\Reach l k.a e.b;refine⟨t,ht.congr fun s=>?_⟩;constructor
 ·rintro⟨k,hk,k1,⟨e,he,e3,hse,hr⟩,rfl⟩;exact⟨e,he,e3,hse,k,hk,k1,hr,rfl⟩
 ·rintro⟨e,he,e3,hse,k,hk,k1,hr,rfl⟩;exact⟨k,hk,k1,⟨e,he,e3,hse,hr⟩,rfl⟩
theorem Z3.left {l:List Con}{x x' y:Int}(hv:VE l x' x)(h:Z3 l x y):Z3 l x' y:=by
 induction h with
 |one hc hw h1 h2=>exact .one hc hw (h1.trans hv.symm) h2
 |more _ hc hw h1 h2 ih=>exact .more (ih hv) hc hw h1 h2
theorem Z3.right {l:List Con}{x y y':Int}(h:Z3 l x y)(hv:VE l y y'):Z3 l x y':=by
 cases h with
 |one hc hw h1 h2=>exact .one hc hw h1 (h2.trans hv)
 |more h0 hc hw h1 h2=>exact .more h0 hc hw h1 (h2.trans hv)
theorem Z3.trans {l:List Con}{x y z:Int}(h:Z3 l x y)(k:Z3 l y z):Z3 l x z:=by
 induction k with
 |one hc hw h1 h2=>exact .more h hc hw h1 h2
 |more _ hc hw h1 h2 ih=>exact .more (ih h) hc hw h1 h2
def qZ (l:List Con)(x y:Int):Prop:=VE l x y\/Z3 l x y
open Classical in
noncomputable def mu (l:List Con) (n:Nat) (x:Int):Nat:=((List.range n).filter fun y:Nat=>decide (qZ l x (y:Int))).length
theorem f8 {p q:Nat->Bool}{L:List Nat}(h:∀x∈L,p x=true->q x=true){a:Nat}(ha:a∈L)(hp:p a=false)(hq:q a=true):(L.filter p).length<(L.filter q).length:=by
 induction L with
 |nil=>cases ha
 | cons b L ih=>
  have hle:(L.filter p).length<=(L.filter q).length:=by
   clear ih ha;have h':∀x∈L,p x=true->q x=true:=fun x hx=>h x (List.mem_cons_of_mem _ hx);clear h
   induction L with
   |nil=>simp
   | cons c L ih=>
    have h1:=ih fun x hx=>h' x (List.mem_cons_of_mem _ hx);by_cases hc:p c=true
    ·rw[List.filter_cons_of_pos hc,List.filter_cons_of_pos (h' c (List.mem_cons_self ..) hc)];simp;exact h1
    ·rw[List.filter_cons_of_neg hc];by_cases hq:q c=true
     ·rw[List.filter_cons_of_pos hq];simp;omega
     ·rw[List.filter_cons_of_neg hq];exact h1
  rcases List.mem_cons.1 ha with rfl|ha
  ·rw[List.filter_cons_of_neg (by simp[hp]),List.filter_cons_of_pos hq];simp;omega
  ·have h1:=ih (fun x hx=>h x (List.mem_cons_of_mem _ hx)) ha;by_cases hc:p b=true
   ·rw[List.filter_cons_of_pos hc,List.filter_cons_of_pos (h b (List.mem_cons_self ..) hc)];simp;exact h1
   ·rw[List.filter_cons_of_neg hc];by_cases hq':q b=true
    ·rw[List.filter_cons_of_pos hq'];simp;omega
    ·rw[List.filter_cons_of_neg hq'];exact h1
open Classical in
theorem vz {l:List Con}{n:Nat}(hok:∀c∈l,OkC n c){c:Con}(hc:c∈l)(hw:QQ c=true){x:Int}(hv:VE l c.a x)(hr:¬Rec l c):mu l n c.b<mu l n x:=by
 have ho:=hok c hc;have h0:=ho.a0;have h1:=ho.a1;unfold mu;refine f8 (a:=c.a.toNat) (fun y _ hy=>?_) (List.mem_range.2 (by omega)) ?_ ?_
 ·have hy':=of_decide_eq_true hy;refine Qv (.inr ?_);rcases hy' with hy'|hy'
  ·exact .one hc hw hv hy'
  ·exact(Z3.one hc hw hv (.refl _)).trans hy'
 ·refine Qw ?_;rw[Qk h0];rintro(k|k)
  ·exact hr (.inl k)
  ·exact hr (.inr k)
 ·refine Qv ?_;rw[Qk h0];exact .inl hv.symm
theorem Fy {l:List Con}{n:Nat}{x y:Int}(hv:VE l x y):mu l n x=mu l n y:=by
 have:∀z,qZ l x z↔qZ l y z:=fun z=>by
  constructor
  ·rintro(h|h)
   ·exact .inl (hv.symm.trans h)
   ·exact .inr (h.left hv.symm)
  ·rintro(h|h)
   ·exact .inl (hv.trans h)
   ·exact .inr (h.left hv)
 unfold mu;exact congrArg List.length (List.filter_congr fun z _=>decide_eq_decide.2 (this z))
theorem Rec.cell {l:List Con}{c e:Con}(hc:c∈l)(he:e∈l)(h:Zc l c e)(k:Rec l c):Rec l e:=by
 have hb:=h.rel hc he;rcases k with k|k
 ·exact .inl (hb.symm.trans (k.trans h.2.2.2))
 ·exact .inr ((k.right h.2.2.2).left hb.symm)
theorem Xg.cell {l:List Con}{c e:Con}{k:Int}(h:Zc l c e)(u:Xg l c k):Xg l e k:=by
 obtain⟨x,hx,h1,h2⟩:=u;exact⟨x,hx,h.symm.trans h1,h2⟩
theorem X2.cell {l:List Con}{c e:Con}{t:Ty}(h:Zc l c e)(k:X2 l c t):X2 l e t:=by
 refine ZG.congr k fun s=>?_;constructor
 ·rintro⟨x,hx,x3,hs,r⟩;exact⟨x,hx,x3,hs.trans h,r⟩
 ·rintro⟨x,hx,x3,hs,r⟩;exact⟨x,hx,x3,hs.trans h.symm,r⟩
theorem Zv.cell {l:List Con}{m:Nat}{c e:Con}{t:Ty}(hc:c∈l)(he:e∈l)(ac:QY c=true)(ae:QY e=true)(hv:VE l c.a e.a)(ho:c.off=e.off)(hw:c.width=e.width)(h:Zv l (Q8 l m) c t):Zv l (Q8 l m) e t:=by
 unfold Zv at h ⊢;rw[<-hw]
 split
 ·rename_i k;rwa [if_pos k]at h
 ·rename_i k
  rw[if_neg k]at h;have k4:c.width=4:=by omega
  have wc:QQ c=true:=J7 ac k4;have we:QQ e=true:=J7 ae (by omega);have hs:Zc l c e:=⟨wc,we,ho,hv⟩;have hb:=hs.rel hc he;rcases h with⟨h1,h2⟩|⟨h1,h2,h3⟩|⟨h1,h2,h3⟩
  ·exact .inl ⟨fun k=>h1 (X0 hb.symm k),h2.cell hs⟩
  ·exact .inr (.inl ⟨X0 hb h1,fun k=>h2 (k.cell he hc hs.symm),yq hb h3⟩)
  ·refine .inr (.inr ⟨X0 hb h1,h2.cell hc he hs, ?_⟩);rcases h3 with⟨u,rfl⟩|⟨u,rfl⟩
   ·exact .inl ⟨u.cell hs,rfl⟩
   ·exact .inr ⟨fun k=>u (k.cell hs.symm),rfl⟩
def XY (o:Int)(t:Ty):List (Int×Ty)->List (Int×Ty)
 |[]=>[(o,t)]
 |(p,u) :: l=>if o<p then (o,t) :: (p,u) :: l else (p,u) :: XY o t l
theorem JC {o:Int}{t:Ty}:∀{l:List (Int×Ty)} {f:Int×Ty},f∈XY o t l↔f=(o,t)\/f∈l
 |[],f=>by simp[XY]
 | (p,u) :: l,f=>by
  rw[XY]
  split
  ·simp
  ·rw[List.mem_cons,JC (l:=l),List.mem_cons];constructor
   ·rintro(h|h|h)
    ·exact .inr (.inl h)
    ·exact .inl h
    ·exact .inr (.inr h)
   ·rintro(h|h|h)
    ·exact .inr (.inl h)
    ·exact .inl h
    ·exact .inr (.inr h)
theorem yx {o:Int}{t:Ty}:∀{l:List (Int×Ty)},Zb l->(∀f∈l,f.1≠o)->Zb (XY o t l)
 |[],_,_=>by simp[XY,Zb]
 | (p,u) :: l,h,hn=>by
  have h':=List.pairwise_cons.1 h;have hp:=hn (p,u) (List.mem_cons_self ..);simp only at hp;rw[XY]
  split
  ·rename_i hlt
   refine List.pairwise_cons.2 ⟨fun f hf=>?_,h⟩;rcases List.mem_cons.1 hf with rfl|hf
   ·exact hlt
   ·have:=h'.1 f hf;simp only at this ⊢;omega
  ·rename_i hlt
   refine List.pairwise_cons.2 ⟨fun f hf=>?_,yx h'.2 fun f hf=>hn f (List.mem_cons_of_mem _ hf)⟩;rcases JC.1 hf with rfl|hf
   ·simp only;omega
   ·exact h'.1 f hf
theorem u7 {l:List Con}{m:Nat}{x:Int}(hC:∀c∈l,QY c=true->VE l c.a x->∃t,Zv l (Q8 l m) c t)
  (hS:∀c∈l,∀e∈l,QY c=true->QY e=true->VE l c.a x->VE l e.a x->c.off=e.off->c.width=e.width):∃F,Fields l (Q8 l m) x F:=by
 have key:∀L:List Con,(∀c∈L,c∈l/\QY c=true/\VE l c.a x)->∃F,Zb F/\(∀f∈F,∃c∈L,c.off=f.1)/\∀c∈L,∃t,lkF F c.off=some t/\Zv l (Q8 l m) c t:=by
  intro L
  induction L with
  |nil=>exact fun _=>⟨[],List.Pairwise.nil,fun f h=>(by cases h),fun c h=>(by cases h)⟩
  | cons c L ih=>
   intro hL;obtain⟨F,h1,h2,h3⟩:=ih fun e he=>hL e (List.mem_cons_of_mem _ he);obtain⟨hc,ac,vc⟩:=hL c (List.mem_cons_self ..);by_cases hx:∃e∈L,e.off=c.off
   ·obtain⟨e,he,ho⟩:=hx;obtain⟨hel,ae,ve⟩:=hL e (List.mem_cons_of_mem _ he);obtain⟨t,k1,k2⟩:=h3 e he;refine⟨F,h1,fun f hf=>?_,fun d hd=>?_⟩
    ·obtain⟨d,hd,e'⟩:=h2 f hf;exact⟨d,List.mem_cons_of_mem _ hd,e'⟩
    ·rcases List.mem_cons.1 hd with rfl|hd
     ·exact⟨t,by rw[<-ho];exact k1,k2.cell hel hc ae ac (ve.trans vc.symm) ho (hS e hel _ hc ae ac ve vc ho)⟩
     ·exact h3 d hd
   ·obtain⟨t,ht⟩:=hC c hc ac vc
    have hn:∀f∈F,f.1≠c.off:=fun f hf e=>by
     obtain⟨d,hd,e'⟩:=h2 f hf;exact hx ⟨d,hd,e'.trans e⟩
    have ha:=yx (t:=t) h1 hn;refine⟨XY c.off t F,ha,fun f hf=>?_,fun d hd=>?_⟩
    ·rcases JC.1 hf with rfl|hf
     ·exact⟨c,List.mem_cons_self ..,rfl⟩
     ·obtain⟨d,hd,e'⟩:=h2 f hf;exact⟨d,List.mem_cons_of_mem _ hd,e'⟩
    ·rcases List.mem_cons.1 hd with rfl|hd
     ·exact⟨t,Jk ha (JC.2 (.inl rfl)),ht⟩
     ·obtain⟨u,k1,k2⟩:=h3 d hd;exact⟨u,Jk ha (JC.2 (.inr (Vm k1))),k2⟩
 classical
 obtain⟨F,h1,h2,h3⟩:=key (l.filter fun c=>decide (QY c=true/\VE l c.a x)) (fun c hc=>by
  obtain⟨k1,k2⟩:=List.mem_filter.1 hc;exact⟨k1,of_decide_eq_true k2⟩)
 refine⟨F,h1,fun f hf=>?_,fun c hc ac vc=>h3 c (List.mem_filter.2 ⟨hc,Qv ⟨ac,vc⟩⟩)⟩;obtain⟨c,hc,ho⟩:=h2 f hf;obtain⟨k1,k2⟩:=List.mem_filter.1 hc;have k2:=of_decide_eq_true k2;exact⟨c,k1,k2.1,k2.2,ho⟩
theorem vZ {l:List Con}{x:Int}(h:¬X1 l x):∀c∈l,∀e∈l,QY c=true->QY e=true->VE l c.a x->VE l e.a x->c.off=e.off->c.width=e.width:=by
 intro c hc e he ac ae vc ve ho;by_cases hw:c.width=e.width
 ·exact hw
 ·exact absurd ⟨c,hc,vc,.inr (.inr (.inl ⟨ac,e,he,ae,ve,ho.symm,fun k=>hw k.symm⟩))⟩ h
theorem fC {l:List Con}{n:Nat}(hok:∀c∈l,OkC n c){m:Nat}{c:Con}(hc:c∈l)(ac:QY c=true)(hP:Q9 l c.b->QQ c=true->¬Rec l c->∃t,Q8 l m c.b t):∃t,Zv l (Q8 l m) c t:=by
 unfold Zv;by_cases hw:c.width=4
 ·simp only[hw,ne_eq,not_true_eq_false,if_false];by_cases hp:Q9 l c.b
  ·by_cases hr:Rec l c
   ·by_cases hu:Xg l c 3
    ·exact⟨Ty.any,.inr (.inr ⟨hp,hr,.inl ⟨hu,rfl⟩⟩)⟩
    ·exact⟨Ty.unk,.inr (.inr ⟨hp,hr,.inr ⟨hu,rfl⟩⟩)⟩
   ·obtain⟨t,ht⟩:=hP hp (J7 ac hw) hr;exact⟨t,.inr (.inl ⟨hp,hr,ht⟩)⟩
  ·obtain⟨t,ht⟩:=GZ hok c;exact⟨t,.inl ⟨hp,ht⟩⟩
 ·exact⟨_,by rw[if_pos hw]⟩
theorem rm {l:List Con}{n:Nat}(hok:∀c∈l,OkC n c):∀(m:Nat) (x:Int),mu l n x<m->∃t,Q8 l m x t
 |0,_,h=>by omega
 | m+1,x,h=>by
  by_cases hs:X1 l x
  ·exact⟨Ty.any,.inl ⟨hs,rfl⟩⟩
  ·obtain⟨F,hF⟩:=u7 (l:=l) (m:=m) (x:=x) (fun c hc ac vc=>fC hok hc ac fun hp hw hr=>by
    have:=vz hok hc hw vc hr;exact rm hok m c.b (by omega)) (vZ hs)
   exact⟨_,.inr ⟨hs,F,hF,rfl⟩⟩
theorem lj {l:List Con}{n:Nat}(hok:∀c∈l,OkC n c){m:Nat}{x:Int}(h:mu l n x<=m)(hs:¬X1 l x):∃F,Fields l (Q8 l m) x F:=
 u7 (fun c hc ac vc=>fC hok hc ac fun hp hw hr=>by
  have:=vz hok hc hw vc hr;exact rm hok m c.b (by omega)) (vZ hs)
theorem zW (t:Ty):1<=QV t:=by cases t;rw[QV];omega
theorem pY:∀{G F:List (Int×Ty)},Zb G->Zb F->(∀f∈G,f∈F)->cntF G<=cntF F
 |[],F,_,_,_=>by rw[cntF];omega
 |(o,t) :: G,[],_,_,h=>by have:=h (o,t) (List.mem_cons_self ..);cases this
 | (o,t) :: G,(p,u) :: F,hG,hF,h=>by
  have hG':=List.pairwise_cons.1 hG;have hF':=List.pairwise_cons.1 hF;by_cases e:o=p
  ·subst e
   have h0:t=u:=by
    rcases List.mem_cons.1 (h (o,t) (List.mem_cons_self ..)) with k|k
    ·cases k;rfl
    ·have:=hF'.1 _ k;simp only at this;omega
   subst h0;rw[cntF,cntF]
   have:=pY hG'.2 hF'.2 fun f hf=>by
    rcases List.mem_cons.1 (h f (List.mem_cons_of_mem _ hf)) with k|k
    ·have:=hG'.1 f hf;rw[k]at this;simp only at this;omega
    ·exact k
   omega
  ·have hm:∀f∈(o,t) :: G,f∈F:=fun f hf=>by
    rcases List.mem_cons.1 (h f hf) with k|k
    ·rcases List.mem_cons.1 hf with k'|k'
     ·rw[k]at k';cases k';exact absurd rfl e
     ·have h1:=hG'.1 f k';rw[k]at h1;rcases List.mem_cons.1 (h (o,t) (List.mem_cons_self ..)) with k2|k2
      ·cases k2;exact absurd rfl e
      ·have h2:=hF'.1 _ k2;simp only at h1 h2;omega
    ·exact k
   have:=pY hG hF'.2 hm;rw[show cntF ((p,u) :: F)=QV u+cntF F from by rw[cntF]];omega
structure Cl2 (l:List Con)(n:Nat)(r:Nat->Nat)(k:Nat):Prop where
 sub:∀i c,i<k->l[i]? =some c->c.kind=0->r c.a.toNat=r c.b.toNat
 node:∀i c,i<k->l[i]? =some c->QQ c=true->r (n+i)=r c.b.toNat
section
variable {l:List Con}{n:Nat}{r r':Nat->Nat}
theorem Cl2.start:Cl2 l n r 0:=⟨fun i _ h=>by omega,fun i _ h=>by omega⟩
theorem Cl2.mono {k:Nat}(h:Cl2 l n r k)(e:∀x y,r x=r y->r' x=r' y):Cl2 l n r' k:=⟨fun i c h1 h2 h3=>e _ _ (h.sub i c h1 h2 h3),fun i c h1 h2 h3=>e _ _ (h.node i c h1 h2 h3)⟩
theorem Cl2.step {k:Nat}{c:Con}(h:Cl2 l n r k)(hc:l[k]? =some c)(e:∀x y,r x=r y->r' x=r' y)(h1:c.kind=0->r' c.a.toNat=r' c.b.toNat)(h2:QQ c=true->r' (n+k)=r' c.b.toNat):Cl2 l n r' (k+1):=by
 have h':=h.mono e;refine⟨fun i d hi hd hk=>?_,fun i d hi hd hk=>?_⟩
 ·by_cases hik:i=k
  ·subst hik;rw[hc]at hd;cases hd;exact h1 hk
  ·exact h'.sub i d (by omega) hd hk
 ·by_cases hik:i=k
  ·subst hik;rw[hc]at hd;cases hd;exact h2 hk
  ·exact h'.node i d (by omega) hd hk
theorem jf {a b:Nat}(e:∀x,r' x=if r x=a then b else r x):∀x y,r x=r y->r' x=r' y:=fun x y h=>by rw[e,e,h]
theorem dw {x0 y0:Nat}(e:∀x,r' x=if r x=max (r x0) (r y0) then min (r x0) (r y0) else r x):r' x0=r' y0:=by
 rw[e,e];rcases Nat.lt_trichotomy (r x0) (r y0) with h|h|h
 ·rw[if_neg (by omega),if_pos (by omega)];omega
 ·rw[h]
 ·rw[if_pos (by omega),if_neg (by omega)];omega
theorem xD (h:VQ l n r){x0 y0:Nat}(hx0:x0<n+l.length)(hy0:y0<n+l.length)(hv:VE l (Zz l n x0) (Zz l n y0))(e:∀x,r' x=if r x=max (r x0) (r y0) then min (r x0) (r y0) else r x):VQ l n r':=by
 refine fZ h hx0 hy0 hv (a:=max (r x0) (r y0)) (b:=min (r x0) (r y0)) ?_ e;rcases Nat.le_total (r x0) (r y0) with h|h
 ·right;omega
 ·left;omega
structure X9 (l:List Con)(n:Nat)(r0 r:Nat->Nat)(k:Nat)(ch:Bool)(cf:Nat->Int->List Nat):Prop where
 snd:∀q o i,i∈cf q o->i<k/\q<n+l.length/\∃c,l[i]? =some c/\QQ c=true/\c.off=o/\VE l c.a (Zz l n q)
 no:ch=false->(∀x,r x=r0 x)/\(∀q o,cf q o=X3 l r0 k (q,o))/\∀i c,i<k->l[i]? =some c->QQ c=true->r0 (n+i)=r0 (n+(X3 l r0 k (placeOf r0 c)).headD 0)
theorem X9.start:X9 l n r r 0 false (fun _ _=>[]):=⟨fun _ _ _ h=>(by cases h),fun _=>⟨fun _=>rfl,fun _ _=>rfl,fun i _ h=>by omega⟩⟩
theorem ay {L:List Nat}{k:Nat}(h:L≠[]):(L ++ [k]).headD 0=L.headD 0:=by
 cases L with
 |nil=>exact absurd rfl h
 |cons x L=>rfl
theorem X9.skip {r0:Nat->Nat}{k:Nat}{ch:Bool}{cf:Nat->Int->List Nat}{c:Con}(h:X9 l n r0 r k ch cf)(hc:l[k]? =some c)(hw:QQ c=false):X9 l n r0 r (k+1) ch cf:=by
 refine⟨fun q o i hi=>?_,fun hn=>?_⟩
 ·obtain⟨h1,h2⟩:=h.snd q o i hi;exact⟨by omega,h2⟩
 ·obtain⟨h1,h2,h3⟩:=h.no hn;have hp:∀p,X3 l r0 (k+1) p=X3 l r0 k p:=fun p=>by rw[ww hc,if_neg (by rw[hw];simp)]
  refine⟨h1,fun q o=>by rw[h2,hp],fun i d hi hd hwd=>?_⟩;rw[hp];by_cases hik:i=k
  ·subst hik;rw[hc]at hd;cases hd;rw[hw]at hwd;cases hwd
  ·exact h3 i d (by omega) hd hwd
theorem X9.first {r0:Nat->Nat}{k:Nat}{ch:Bool}{cf:Nat->Int->List Nat}{c:Con}(h:X9 l n r0 r k ch cf)(hc:l[k]? =some c)(hw:QQ c=true)(hs:VQ l n r)(hok:OkC n c)(hq:r c.a.toNat<n+l.length)(hidem:r (r c.a.toNat)=r c.a.toNat)
  {i:Nat} (hi:(cf (r c.a.toNat) c.off ++ [k])[0]? =some i):i<=k/\VE l (Zz l n (n+i)) (Zz l n (n+k)):=by
 have hkl:=(Qz hc).1;have ha:=hok.a0;have ha1:=hok.a1
 have hva:VE l c.a (Zz l n (r c.a.toNat)):=by
  have:=hs c.a.toNat (r c.a.toNat) (by omega) hq hidem.symm
  rwa [Z5 (by omega),Qk ha]at this
 cases e:cf (r c.a.toNat) c.off with
 |nil=>
  rw[e]at hi;simp at hi;subst hi;exact⟨Nat.le_refl _,.refl _⟩
 |cons j L=>
  rw[e]at hi;simp at hi;subst hi;obtain⟨h1,_,d,hd,hwd,ho,hv⟩:=h.snd (r c.a.toNat) c.off j (by rw[e];exact List.mem_cons_self ..);refine⟨by omega, ?_⟩;rw[KG hd hwd,KG hc hw];exact .cell (Qx hd) (Qx hc) hwd hw ho (hv.trans hva.symm)
theorem X9.step {r0:Nat->Nat}{k:Nat}{ch:Bool}{cf cf':Nat->Int->List Nat}{c:Con}(h:X9 l n r0 r k ch cf)(hc:l[k]? =some c)(hw:QQ c=true)(hs:VQ l n r)(hok:OkC n c)(hq:r c.a.toNat<n+l.length)(hidem:r (r c.a.toNat)=r c.a.toNat)
  {i:Nat} (hi:(cf (r c.a.toNat) c.off ++ [k])[0]? =some i) (e:∀x,r' x=if r x=max (r (n+i)) (r (n+k)) then min (r (n+i)) (r (n+k)) else r x)
  (hcf:∀q o,cf' q o=if q=r c.a.toNat/\o=c.off then cf (r c.a.toNat) c.off ++ [k] else cf q o):X9 l n r0 r' (k+1) (decide (r (n+i)≠r (n+k)) || ch) cf':=by
 have ha:=hok.a0;have ha1:=hok.a1
 have hva:VE l c.a (Zz l n (r c.a.toNat)):=by
  have:=hs c.a.toNat (r c.a.toNat) (by omega) hq hidem.symm
  rwa [Z5 (by omega),Qk ha]at this
 refine⟨fun q o j hj=>?_,fun hn=>?_⟩
 ·rw[hcf]at hj
  split at hj
  ·rename_i hqo
   obtain⟨rfl,rfl⟩:=hqo;rcases List.mem_append.1 hj with hj|hj
   ·obtain⟨h1,h2,h3⟩:=h.snd _ _ j hj;exact⟨by omega,h2,h3⟩
   ·simp at hj;subst hj;exact⟨by omega,hq,c,hc,hw,rfl,hva⟩
  ·obtain⟨h1,h2⟩:=h.snd q o j hj;exact⟨by omega,h2⟩
 ·simp only[Bool.or_eq_false_iff,decide_eq_false_iff_not,ne_eq,Decidable.not_not]at hn;obtain⟨h1,h2,h3⟩:=h.no hn.2;have hrr:∀x,r' x=r x:=fun x=>by rw[e,hn.1,Nat.max_self,Nat.min_self];split <;> omega
  have hpl:∀q o,cf' q o=X3 l r0 (k+1) (q,o):=fun q o=>by
   rw[hcf,ww hc];by_cases hqo:q=r c.a.toNat/\o=c.off
   ·rw[if_pos hqo,if_pos ⟨hw,by rw[<-h1];exact hqo.1.symm,hqo.2.symm⟩,<-hqo.1,<-hqo.2,h2]
   ·rw[if_neg hqo,if_neg (fun hh=>hqo ⟨by rw[h1];exact hh.2.1.symm,hh.2.2.symm⟩),h2]
  refine⟨fun x=>(hrr x).trans (h1 x),hpl,fun j d hj hd hwd=>?_⟩;by_cases hjk:j=k
  ·subst hjk;rw[hc]at hd;cases hd
   have e1:X3 l r0 (j+1) (placeOf r0 c)=cf (r c.a.toNat) c.off ++ [j]:=by
    have:=hpl (r c.a.toNat) c.off;rw[hcf,if_pos ⟨rfl,rfl⟩]at this;rw[this,h1];rfl
   rw[e1]
   have e2:(cf (r c.a.toNat) c.off ++ [j]).headD 0=i:=by
    cases hL:cf (r c.a.toNat) c.off ++ [j] with
    |nil=>simp at hL
    |cons x L=>rw [hL]at hi;simp at hi;exact hi
   rw[e2,<-h1,<-h1];exact hn.1.symm
  ·have hjk':j<k:=by omega
   rw[h3 j d hjk' hd hwd,ww hc]
   split
   ·rw[ay];have:j∈X3 l r0 k (placeOf r0 d):=jq.2 ⟨hjk',d,hd,hwd,rfl,rfl⟩;intro e0;rw[e0]at this;cases this
   ·rfl
theorem X9.closed {cf:Nat->Int->List Nat}(h2:Cl2 l n r l.length){r0:Nat->Nat}(h:X9 l n r0 r l.length false cf):kf l n r:=by
 obtain⟨h1,_,h3⟩:=h.no rfl;refine⟨fun c hc hk=>?_,fun k c hc hw=>h2.node k c (Qz hc).1 hc hw,fun k i c e hk hi w1 w2 ho hr=>?_⟩
 ·obtain⟨k,hk'⟩:=List.getElem?_of_mem hc;exact h2.sub k c (Qz hk').1 hk' hk
 ·rw[h1,h1]at hr;rw[h1,h1,h3 k c (Qz hk).1 hk w1,h3 i e (Qz hi).1 hi w2];unfold placeOf;rw[ho,hr]
theorem X9.cells {cf:Nat->Int->List Nat}{r0:Nat->Nat}(h:X9 l n r0 r l.length false cf)(q:Nat)(o:Int):cf q o=X4 l r (q,o):=by
 obtain⟨h1,h2,_⟩:=h.no rfl;rw[h2];exact(sP h1 _ _).symm
end
def vy (l:List Con)(r:Nat->Nat)(q:Nat)(o:Int)(i:Nat):Bool:=match l[i]? with
 |some c=>QY c && decide (r c.a.toNat=q) && decide (c.off=o)
 |none=>false
def JQ (l:List Con)(r:Nat->Nat)(m q:Nat)(o:Int):List Nat:=(List.range m).filter (vy l r q o)
def Yk (l:List Con)(r:Nat->Nat)(m q:Nat):Bool:=(List.range m).any fun i=>match l[i]? with
 |some c=>decide (c.kind=1) && decide (c.type.kind≠0) && decide (r c.a.toNat=q)
 |none=>false
section
variable {l:List Con}{n:Nat}{r:Nat->Nat}
theorem zJ {m q:Nat}{o:Int}{i:Nat}:i∈JQ l r m q o↔i<m/\∃c,l[i]? =some c/\QY c=true/\r c.a.toNat=q/\c.off=o:=by
 unfold JQ vy;rw[List.mem_filter,List.mem_range]
 cases h:l[i]? with
 |none=>simp
 |some c=>simp [and_assoc]
theorem pz {m:Nat}{c:Con}(hc:l[m]? =some c)(q:Nat)(o:Int):JQ l r (m+1) q o=if QY c=true/\r c.a.toNat=q/\c.off=o then JQ l r m q o ++ [m] else JQ l r m q o:=by
 unfold JQ;rw[List.range_succ,List.filter_append];have:vy l r q o m=(QY c && decide (r c.a.toNat=q) && decide (c.off=o)):=by unfold vy;rw[hc]
 split
 ·rename_i h
  rw[List.filter_cons_of_pos (by rw[this,h.1,Qv h.2.1,Qv h.2.2];rfl)];rfl
 ·rename_i h
  rw[List.filter_cons_of_neg (by rw[this];simp only[Bool.and_eq_true,decide_eq_true_eq];exact fun k=>h ⟨k.1.1,k.1.2,k.2⟩)];simp
theorem uC {m:Nat}{c:Con}(hc:l[m]? =some c)(q:Nat):Yk l r (m+1) q=(Yk l r m q || (decide (c.kind=1) && decide (c.type.kind≠0) && decide (r c.a.toNat=q))):=by
 unfold Yk;rw[List.range_succ,List.any_append];simp[hc]
theorem bZ {q:Nat}:Yk l r l.length q=true↔∃c∈l,c.kind=1/\c.type.kind≠0/\r c.a.toNat=q:=by
 unfold Yk;rw[List.any_eq_true];constructor
 ·rintro⟨i,hi,h⟩
  cases hc:l[i]? with
  |none=>rw [hc]at h;cases h
  |some c=>
   rw[hc]at h;simp only[Bool.and_eq_true,decide_eq_true_eq]at h;exact⟨c,Qx hc,h.1.1,h.1.2,h.2⟩
 ·rintro⟨c,hc,h1,h2,h3⟩;obtain⟨i,hi⟩:=List.getElem?_of_mem hc;exact⟨i,List.mem_range.2 (Qz hi).1,by rw[hi];simp[h1,h2,h3]⟩
end
theorem xz {α:Type}{p:α->Prop}{μ:α->Nat}(h:∃a,p a):∃n,(∃a,p a/\μ a=n)/\∀a,p a->n<=μ a:=by
 obtain⟨a,ha⟩:=h
 have key:∀k (a:α),p a->μ a<=k->∃n,(∃a,p a/\μ a=n)/\∀a,p a->n<=μ a:=by
  intro k
  induction k with
  |zero=>exact fun a ha h=>⟨0,⟨a,ha,by omega⟩,fun _ _=>Nat.zero_le _⟩
  | succ k ih=>
   intro a ha h;by_cases hb:∃b,p b/\μ b<=k
   ·obtain⟨b,h1,h2⟩:=hb;exact ih b h1 h2
   ·refine⟨μ a,⟨a,ha,rfl⟩,fun b hb'=>?_⟩;by_cases hbk:μ b<=k
    ·exact absurd ⟨b,hb',hbk⟩ hb
    ·omega
 exact key _ a ha (Nat.le_refl _)
open Classical in
noncomputable def Jy {α:Type} (p:α->Prop) (μ:α->Nat):Nat:=if h:∃a,p a then (xz (μ:=μ) h).choose else 0
theorem wq {α:Type}{p:α->Prop}{μ:α->Nat}(h:∃a,p a):∃a,p a/\μ a=Jy p μ:=by
 have e:Jy p μ=(xz (μ:=μ) h).choose:=by unfold Jy;rw[dif_pos h]
 rw[e];exact(xz (μ:=μ) h).choose_spec.1
theorem pg {α:Type}{p:α->Prop}{μ:α->Nat}{a:α}(ha:p a):Jy p μ<=μ a:=by
 have h:∃a,p a:=⟨a,ha⟩;have e:Jy p μ=(xz (μ:=μ) h).choose:=by unfold Jy;rw[dif_pos h]
 rw[e];exact(xz (μ:=μ) h).choose_spec.2 a ha
def vx (l:List Con)(t:Ty)(k:Nat):Bool:=match l[k]? with
 |some c=>decide (c.kind=1) && !QZ c.type t
 |none=>false
def pot (l:List Con)(t:Ty):Nat:=((List.range l.length).filter (vx l t)).length
def JV (l:List Con)(S:Nat->Ty)(N:Nat):Nat:=((List.range N).map fun x=>pot l (S x)).sum
def Kk (l:List Con)(t:Ty):Prop:=∀u,Zq u=true->(∀c∈l,c.kind=1->QZ c.type t=true->QZ c.type u=true)->QZ t u=true
section
variable {l:List Con}{n:Nat}
theorem DX (l:List Con)(t:Ty):pot l t<=l.length:=Nat.le_trans (List.length_filter_le _ _) (by simp)
theorem gJ {α:Type}{p q:α->Bool}:∀{L:List α} {a:α},(∀x,p x=true->q x=true)->a∈L->q a=true->p a=false->(L.filter p).length<(L.filter q).length
 | b :: L,a,h,ha,hq,hp=>by
  have hle:(L.filter p).length<=(L.filter q).length:=by
   rw[<-List.countP_eq_length_filter,<-List.countP_eq_length_filter];exact List.countP_mono_left fun x _=>h x
  rcases List.mem_cons.1 ha with rfl|ha
  ·rw[List.filter_cons_of_neg (by rw[hp];simp),List.filter_cons_of_pos hq];simp;omega
  ·have ih:=gJ h ha hq hp
   cases hb:p b with
   |true=>rw [List.filter_cons_of_pos hb,List.filter_cons_of_pos (h b hb)];simp;omega
   |false=>
    rw[List.filter_cons_of_neg (by rw[hb];simp)]
    cases hb':q b with
    |true=>rw [List.filter_cons_of_pos hb'];simp;omega
    |false=>rw [List.filter_cons_of_neg (by rw[hb'];simp)];exact ih
theorem DK (hok:∀c∈l,OkC n c){t u:Ty}(ht:Zq t=true)(hu:Zq u=true)(hs:Kk l u)(htu:QZ t u=true)(hne:u≠t):pot l u<pot l t:=by
 have hex:∃c∈l,c.kind=1/\QZ c.type u=true/\QZ c.type t=false:=by
  by_cases h:∃c∈l,c.kind=1/\QZ c.type u=true/\QZ c.type t=false
  ·exact h
  ·exfalso
   apply hne;refine mD (QP hu) (QP ht) (hs t ht fun c hc hk h1=>?_) htu
   cases h2:QZ c.type t with
   |true=>rfl
   |false=>exact absurd ⟨c,hc,hk,h1,h2⟩ h
 obtain⟨c,hc,hk,h1,h2⟩:=hex;obtain⟨k,hk'⟩:=List.getElem?_of_mem hc;refine gJ (a:=k) (fun x hx=>?_) (List.mem_range.2 (Qz hk').1) (by unfold vx;rw[hk'];simp[hk,h2]) (by unfold vx;rw[hk'];simp[hk,h1]);unfold vx at hx ⊢
 cases hx':l[x]? with
 |none=>rw [hx']at hx;cases hx
 | some e=>
  rw[hx']at hx;simp only[Bool.and_eq_true,decide_eq_true_eq,Bool.not_eq_true']at hx ⊢;refine⟨hx.1, ?_⟩
  cases h3:QZ e.type t with
  |false=>rfl
  |true=>
   have he:=Qx hx';have:=VD (QP ((hok e he).t hx.1)) (QP ht) (QP hu) h3 htu;rw[hx.2]at this;cases this
theorem Dq:Kk l Ty.unk:=fun u _ _=>Kb _
theorem dx {t u:Ty}(ht:Zq t=true)(hu:Zq u=true)(h1:Kk l t)(h2:Kk l u)(hok:∀c∈l,OkC n c):Kk l (QX t u):=by
 intro v hv h;have hft:=QP ht;have hfu:=QP hu;have hj:=QP (KY ht hu);refine qq hft hfu (QP hv) (h1 v hv fun c hc hk hs=>h c hc hk ?_) (h2 v hv fun c hc hk hs=>h c hc hk ?_)
 ·exact VD (QP ((hok c hc).t hk)) hft hj hs (YQ hft hfu)
 ·exact VD (QP ((hok c hc).t hk)) hfu hj hs (qp hft hfu)
theorem eQ (hok:∀c∈l,OkC n c){c:Con}(hc:c∈l)(hk:c.kind=1):Kk l c.type:=fun u _ h=>h c hc hk (JB (QP ((hok c hc).t hk)))
theorem kg (hok:∀c∈l,OkC n c):∀(m x:Nat),Kk l (ZP l m x)
 |0,_=>Dq
 | m+1,x=>by
  rw[ZP]
  split
  ·rename_i c hc
   split
   ·rename_i h
    have hmem:=Qx hc;exact dx (Jq hok m x) ((hok c hmem).t h.1) (kg hok m x) (eQ hok hmem h.1) hok
   ·exact kg hok m x
  ·exact kg hok m x
theorem nX {f f':Nat->Nat}{t:Nat}(he:∀x,x≠t->f' x=f x):∀N,((List.range N).map f').sum+(if t<N then f t else 0)=((List.range N).map f).sum+(if t<N then f' t else 0)
 |0=>by simp
 | N+1=>by
  have ih:=nX he N;rw[List.range_succ,List.map_append,List.map_append,List.sum_append,List.sum_append];simp only[List.map_cons,List.map_nil,List.sum_cons,List.sum_nil];by_cases h:t<N
  ·rw[if_pos h]at ih;rw[if_pos (by omega),if_pos (by omega),he N (by omega)];rw[if_pos h]at ih;omega
  ·rw[if_neg h]at ih;rw[if_neg h]at ih;by_cases h2:t=N
   ·subst h2;rw[if_pos (by omega),if_pos (by omega)];omega
   ·rw[if_neg (by omega),if_neg (by omega),he N (fun e=>h2 e.symm)];omega
theorem G4 {S S':Nat->Ty}{N t:Nat}(ht:t<N)(he:∀x,x≠t->S' x=S x)(hlt:pot l (S' t)<pot l (S t)):JV l S' N<JV l S N:=by
 have:=nX (f:=fun x=>pot l (S x)) (f':=fun x=>pot l (S' x)) (t:=t) (fun x hx=>by simp only[he x hx]) N;rw[if_pos ht,if_pos ht]at this;unfold JV;omega
theorem np (S:Nat->Ty):∀N,JV l S N<=N * l.length
 |0=>by simp[JV]
 |N+1=>by
  have ih:=np S N;have h:=DX l (S N);unfold JV at ih ⊢;rw[List.range_succ,List.map_append,List.sum_append,Nat.succ_mul];simp;omega
end
theorem yd (x:Ty):QV (Ty.ptr x)=1+QV x:=by simp[Ty.ptr,QV,Q7,cntF]
theorem ym (x:Ty)(n:Int):QV (Ty.arr x n)=1+QV x:=by simp[Ty.arr,QV,Q7,cntF]
theorem jM (f:List (Int×Ty)):QV (Ty.str f)=1+cntF f:=by simp[Ty.str,QV,Q7,cntF]
theorem jZ {m:Nat}:∀(k:Nat) {l r:List (Int×Ty)},l.length+r.length<=k->Zb l->Zb r->(∀f∈l,∀g∈r,QV (QX f.2 g.2)<=QV f.2+QV g.2)->cntF (QC l r)<=cntF l+cntF r
 |_,[],r,_,_,_,_=>by rw[QC,cntF];omega
 |_,(o,t) :: l,[],_,_,_,_=>by rw[jX,cntF];omega
 |0,(o,t) :: l,(o',u) :: r,h,_,_,_=>by simp at h
 | k+1,(o,t) :: l,(o',u) :: r,h,hl,hr,hc=>by
  simp only[List.length_cons]at h;have e1:cntF ((o,t) :: l)=QV t+cntF l:=by rw[cntF]
  have e2:cntF ((o',u) :: r)=QV u+cntF r:=by rw[cntF]
  rcases Int.lt_trichotomy o o' with ho|ho|ho
  ·rw[cy ho hr];have:=jZ (m:=m) k (l:=l) (r:=(o',u) :: r) (by simp only[List.length_cons];omega) hl.tail hr (fun f hf g hg=>hc f (List.mem_cons_of_mem _ hf) g hg);omega
  ·subst ho;rw[cx hl,cntF];have:=jZ (m:=m) k (l:=l) (r:=r) (by omega) hl.tail hr.tail (fun f hf g hg=>hc f (List.mem_cons_of_mem _ hf) g (List.mem_cons_of_mem _ hg));have h0:=hc (o,t) (List.mem_cons_self ..) (o,u) (List.mem_cons_self ..);simp only at h0;omega
  ·rw[cj ho hl];have:=jZ (m:=m) k (l:=(o,t) :: l) (r:=r) (by simp only[List.length_cons];omega) hl hr.tail (fun f hf g hg=>hc f hf g (List.mem_cons_of_mem _ hg));omega
theorem j6:∀(k:Nat) {a b:Ty},szN a<=k->Qd a=true->Qd b=true->QV (QX a b)<=QV a+QV b
 |0,a,_,h,_,_=>by cases a;rw[szN]at h;omega
 | k+1,a,b,h,ha,hb=>by
  rcases zM ha hb with⟨rfl,e⟩|⟨rfl,e⟩|⟨rfl,hw,e⟩|⟨x,y,rfl,rfl⟩|⟨x,y,m,m',rfl,rfl⟩|⟨f,g,rfl,rfl⟩|⟨e,hc⟩
  ·rw[e];omega
  ·rw[e];omega
  ·rw[e];omega
  ·rw[YY]at h;rw[Kg]at ha hb;have ih:=j6 k (by omega) ha hb;rw[zD,yd,yd,yd];omega
  ·rw[J5]at h;rw[V0]at ha hb;simp only[Bool.and_eq_true,decide_eq_true_eq]at ha hb;have ih:=j6 k (by omega) ha.2 hb.2;rw[zB,ym,ym,ym];omega
  ·rw[J6]at h;rw[V4]at ha hb;rw[zC,jM,jM,jM]
   have:=jZ (m:=0) _ (Nat.le_refl _) (VV ha) (VV hb) (fun x hx y hy=>by
    have hs:=xm hx;exact j6 k (by omega) (XF ha _ hx).2.2 (XF hb _ hy).2.2)
   omega
  ·rw[e];have h1:=zW a;have h2:QV Ty.any=1:=by decide
   omega
theorem gB:∀(L:List Ty),(∀t∈L,Zq t=true)->∃t,ZG (fun s=>s∈L) t/\QV t<=1+(L.map QV).sum
 |[],_=>⟨Ty.unk,⟨xw,fun s h=>(by cases h),fun u _ _=>Kb u⟩,by decide⟩
 | s :: L,h=>by
  obtain⟨t,⟨h1,h2,h3⟩,h4⟩:=gB L fun t ht=>h t (List.mem_cons_of_mem _ ht);have hs:=h s (List.mem_cons_self ..);refine⟨QX s t,⟨KY hs h1,fun x hx=>?_,fun u hu hx=>?_⟩, ?_⟩
  ·rcases List.mem_cons.1 hx with rfl|hx
   ·exact YQ (QP hs) (QP h1)
   ·exact VD (QP (h x (List.mem_cons_of_mem _ hx))) (QP h1) (QP (KY hs h1)) (h2 x hx) (qp (QP hs) (QP h1))
  ·exact qq (QP hs) (QP h1) (QP hu) (hx s (List.mem_cons_self ..)) (h3 u hu fun x k=>hx x (List.mem_cons_of_mem _ k))
  ·have:=j6 _ (Nat.le_refl _) (QP hs) (QP h1);rw[List.map_cons,List.sum_cons];omega
def K5 (l:List Con):Nat:=1+((l.filter fun c=>decide (c.kind=1)).map fun c=>QV c.type).sum
theorem um (p q:Con->Bool)(f:Con->Nat)(hpq:∀c,p c=true->q c=true):∀l:List Con,((l.filter p).map f).sum<=((l.filter q).map f).sum
 |[]=>by simp
 | c :: l=>by
  have:=um p q f hpq l;by_cases h:p c=true
  ·rw[List.filter_cons_of_pos h,List.filter_cons_of_pos (hpq c h),List.map_cons,List.map_cons,List.sum_cons,List.sum_cons];omega
  ·rw[List.filter_cons_of_neg h];by_cases h':q c=true
   ·rw[List.filter_cons_of_pos h',List.map_cons,List.sum_cons];omega
   ·rw[List.filter_cons_of_neg h'];exact this
theorem dF {B:Nat}:∀{l:List Con},(∀c∈l,c.kind=1->QV c.type<=B)->K5 l<=1+l.length * B
 |[],_=>by simp[K5]
 | c :: l,h=>by
  have ih:=dF (l:=l) (B:=B) fun c hc=>h c (List.mem_cons_of_mem _ hc);unfold K5 at ih ⊢;rw[List.length_cons,Nat.succ_mul];by_cases hk:decide (c.kind=1)=true
  ·rw[List.filter_cons_of_pos (p:=fun c:Con=>decide (c.kind=1)) hk,List.map_cons,List.sum_cons];have:=h c (List.mem_cons_self ..) (of_decide_eq_true hk);omega
  ·rw[List.filter_cons_of_neg (p:=fun c:Con=>decide (c.kind=1)) hk];omega
open Classical in
theorem gP {l:List Con}{n:Int}(hok:∀c∈l,OkC n c)(p:Con->Prop){t:Ty}(ht:ZG (fun s=>∃k∈l,k.kind=1/\p k/\s=k.type) t):QV t<=K5 l:=by
 obtain⟨t',ht',hc⟩:=gB ((l.filter fun k:Con=>decide (k.kind=1/\p k)).map Con.type) (fun t ht=>by
  obtain⟨k,hk,rfl⟩:=List.mem_map.1 ht;obtain⟨h1,h2⟩:=List.mem_filter.1 hk;exact(hok k h1).t (of_decide_eq_true h2).1)
 have e:t=t':=ht.unique (ht'.congr fun s=>by
  constructor
  ·intro hs;obtain⟨k,hk,rfl⟩:=List.mem_map.1 hs;obtain⟨h1,h2⟩:=List.mem_filter.1 hk;exact⟨k,h1,(of_decide_eq_true h2).1,(of_decide_eq_true h2).2,rfl⟩
  ·rintro⟨k,hk,h1,h2,rfl⟩;exact List.mem_map_of_mem (List.mem_filter.2 ⟨hk,Qv ⟨h1,h2⟩⟩))
 rw[e];have h2:=um (fun k:Con=>decide (k.kind=1/\p k)) (fun c=>decide (c.kind=1)) (fun c=>QV c.type) (fun c hc=>Qv (of_decide_eq_true hc).1) l;rw[List.map_map]at hc;unfold K5;have h3:(QV ∘ Con.type)=fun c:Con=>QV c.type:=rfl;rw[h3]at hc;omega
theorem qG.cnt {l:List Con}{n:Int}(hok:∀c∈l,OkC n c){x:Int}{t:Ty}(h:qG l x t):QV t<=K5 l:=gP hok (fun k=>Reach l k.a x) h
theorem X2.cnt {l:List Con}{n:Int}(hok:∀c∈l,OkC n c){c:Con}{t:Ty}(h:X2 l c t):QV t<=K5 l:=by
 refine gP hok (fun k=>∃e∈l,e.kind=3/\Zc l e c/\Reach l k.a e.b) (ZG.congr h fun s=>?_);constructor
 ·rintro⟨e,he,e3,hse,k,hk,k1,hr,rfl⟩;exact⟨k,hk,k1,⟨e,he,e3,hse,hr⟩,rfl⟩
 ·rintro⟨k,hk,k1,⟨e,he,e3,hse,hr⟩,rfl⟩;exact⟨e,he,e3,hse,k,hk,k1,hr,rfl⟩
mutual
theorem kW:∀(t:Ty),QV t<=1000000->bnT t=true
 | .mk k s c e f,h=>by
  rw[QV]at h;rw[bnT];have h1:=dV e (by omega);have h2:=dJ f (by omega);simp only[h1.1,h2.1,Bool.and_true,Bool.true_and,Bool.and_eq_true,decide_eq_true_eq];exact⟨by have:=h1.2;omega,by have:=h2.2;omega⟩
theorem dV:∀(l:List Ty),Q7 l<=1000000->bnE l=true/\l.length<=1000000
 |[],_=>⟨rfl,by simp⟩
 |t :: l,h=>by
  rw[Q7]at h;have h1:=kW t (by omega);have h2:=dV l (by omega);have h3:=zW t;have h4:=cQ l;refine⟨by rw[bnE,h1,h2.1];rfl, ?_⟩;simp only[List.length_cons];omega
theorem dJ:∀(l:List (Int×Ty)),cntF l<=1000000->bnF l=true/\l.length<=1000000
 |[],_=>⟨rfl,by simp⟩
 |(o,t) :: l,h=>by
  rw[cntF]at h;have h1:=kW t (by omega);have h2:=dJ l (by omega);have h3:=zW t;have h4:=pM l;refine⟨by rw[bnF,h1,h2.1];rfl, ?_⟩;simp only[List.length_cons];omega
theorem cQ:∀(l:List Ty),l.length<=Q7 l
 |[]=>by simp
 |t :: l=>by have:=cQ l;have:=zW t;rw[Q7,List.length_cons];omega
theorem pM:∀(l:List (Int×Ty)),l.length<=cntF l
 |[]=>by simp
 |(o,t) :: l=>by have:=pM l;have:=zW t;rw[cntF,List.length_cons];omega
end
inductive VX (l:List Con)(r:Nat->Nat):Nat->Nat->Prop
 |refl (q:Nat):VX l r q q
 |step {q y:Nat} {c:Con}:VX l r q y->c∈l->QQ c=true->r c.a.toNat=y->Q9 l c.b->VX l r q (r c.b.toNat)
section
variable {l:List Con}{n:Nat}{r:Nat->Nat}
structure Jg (n:Nat)(r:Nat->Nat):Prop where
 lt:∀x,x<n->r x<n
 idem:∀x,x<n->r (r x)=r x
theorem DF {l:List Con}{n:Nat}(hok:∀c∈l,OkC n c){x y:Int}(h:VE l x y)(hx:0<=x):0<=y:=by
 have key:∀{x y:Int},VE l x y->x=y\/(0<=x/\0<=y):=fun {x y} h=>by
  induction h with
  |refl=>exact .inl rfl
  |symm _ ih=>rcases ih with h|h;exact .inl h.symm;exact .inr ⟨h.2,h.1⟩
  | trans _ _ i1 i2=>
   rcases i1 with rfl|i1
   ·exact i2
   ·rcases i2 with rfl|i2
    ·exact .inr i1
    ·exact .inr ⟨i1.1,i2.2⟩
  |sub hc hk=>have:=hok _ hc;exact .inr ⟨this.a0,this.b0 (by omega)⟩
  |cell hc he w1 w2 _ _ _=>exact .inr ⟨(hok _ hc).b0 (Zp w1).1,(hok _ he).b0 (Zp w2).1⟩
 rcases key h with e|e
 ·omega
 ·exact e.2
theorem r8 {c:Con}(h:OkC n c):∃a:Nat,c.a=a/\a<n:=⟨c.a.toNat,(Qk h.a0).symm,by have:=h.a0;have:=h.a1;omega⟩
theorem Yj {c:Con}(h:OkC n c)(hw:QQ c=true):∃b:Nat,c.b=b/\b<n:=⟨c.b.toNat,(Qk (h.b0 (Zp hw).1)).symm,by have:=h.b0 (Zp hw).1;have:=h.b1 (Zp hw).1;omega⟩
theorem YJ (hcl:Xk l n r)(hr:Jg n r){x:Nat}(hx:x<n):VE l (x:Int) (r x:Int):=(jm hcl hx (hr.lt x hx)).1 (hr.idem x hx).symm
theorem DV (hr:Jg n r)(hok:∀c∈l,OkC n c){q y:Nat}(hq:q<n)(h:VX l r q y):y<n:=by
 induction h with
 |refl=>exact hq
 |step _ hc hw _ _ ih=>
  obtain⟨b,hb,hbn⟩:=Yj (hok _ hc) hw;rw[hb];exact hr.lt _ hbn
theorem DJ (hcl:Xk l n r)(hr:Jg n r)(hok:∀c∈l,OkC n c){q y:Nat}(hq:q<n)(hqq:r q=q)(h:VX l r q y):qZ l (q:Int) (y:Int):=by
 induction h with
 |refl=>exact .inl (.refl _)
 |@step y c h0 hc hw ha hp ih=>
  have h1:=DV hr hok hq h0;obtain⟨a,han,hal⟩:=r8 (hok _ hc);obtain⟨b,hbn,hbl⟩:=Yj (hok _ hc) hw;rw[han]at ha;have ha':r a=y:=ha;have hva:VE l c.a (y:Int):=by rw[han,<-ha'];exact YJ hcl hr hal
  have hvb:VE l c.b ((r c.b.toNat:Nat):Int):=by rw[hbn];exact YJ hcl hr hbl
  rcases ih with h2|h2
  ·exact .inr (.one hc hw (hva.trans h2.symm) hvb)
  ·exact .inr (.more h2 hc hw hva hvb)
theorem kQ (hcl:Xk l n r)(hok:∀c∈l,OkC n c){x y:Int}(hx:0<=x/\x<n)(h:VE l x y):r x.toNat=r y.toNat/\0<=y/\y<n:=by
 rcases kM hok h with e|⟨h1,h2⟩
 ·subst e;exact⟨rfl,hx⟩
 ·have h0:0<=y:=by
   rcases kM hok h with e|_
   ·omega
   ·exact DF hok h hx.1
  exact⟨(zm hcl hx.1 hx.2 h0 h2).2 h,h0,h2⟩
theorem aC (hcl:Xk l n r)(hr:Jg n r)(hok:∀c∈l,OkC n c){x z:Int}(h:Z3 l x z)(hx:0<=x/\x<n)(hz:Q9 l z):VX l r (r x.toNat) (r z.toNat):=by
 induction h with
 |one hc hw h1 h2=>
  have e1:=(kQ hcl hok hx h1.symm).1;obtain⟨b,hbn,hbl⟩:=Yj (hok _ hc) hw;have e2:=(kQ hcl hok (by omega) h2).1;rw[<-e2];exact .step (.refl _) hc hw e1.symm (X0 h2.symm hz)
 |more h0 hc hw h1 h2 ih=>
  obtain⟨b,hbn,hbl⟩:=Yj (hok _ hc) hw;obtain⟨a,han,hal⟩:=r8 (hok _ hc);have e2:=(kQ hcl hok (by omega) h2).1;have e1:=(kQ hcl hok (by omega) h1).1;rw[<-e2];refine .step (ih hx ?_) hc hw e1 (X0 h2.symm hz);refine⟨_,hc, ?_,h1⟩
  revert hw
  unfold QQ;intro hw;exact(Bool.and_eq_true_iff.1 hw).1
theorem nZ (hcl:Xk l n r)(hr:Jg n r)(hok:∀c∈l,OkC n c){q y:Nat}(hq:q<n)(hqq:r q=q)(hy:y<n)(hyy:r y=y)(hp:Q9 l (y:Int)):VX l r q y↔qZ l (q:Int) (y:Int):=by
 refine⟨DJ hcl hr hok hq hqq, ?_⟩;rintro(h|h)
 ·have:=(jm hcl hq hy).2 h;rw[hqq,hyy]at this;subst this;exact .refl _
 ·have:=aC hcl hr hok h (by omega) hp
  rwa [Int.toNat_natCast,Int.toNat_natCast,hqq,hyy]at this
end
def kK (l:List Con)(x:Int):Prop:=∃c∈l,VE l c.a x/\c.kind=1/\c.type.kind≠0
def Dk (l:List Con)(x:Int)(c:Con):Prop:=
 c.off<0\/(∃e∈l,QY e=true/\VE l e.a x/\e.off=c.off/\e.width≠c.width)\/(QQ c=true/\Rec l c/\Xg l c 2/\Xg l c 3)\/(QQ c=true/\¬Q9 l c.b/\∃t,X2 l c t/\Xq t 0 4≠some t)
def Ky (l:List Con)(x o:Int):Prop:=∃c∈l,VE l c.a x/\QY c=true/\c.off=o/\Dk l x c
theorem qQ {c:Con}(h:QQ c=true):QY c=true:=by
 unfold QQ at h;exact(Bool.and_eq_true_iff.1 h).1
theorem wy {l:List Con}{x:Int}:X1 l x↔kK l x\/∃o,Ky l x o:=by
 constructor
 ·rintro⟨c,hc,hv,h|h|⟨h,k⟩|h|h⟩
  ·exact .inl ⟨c,hc,hv,h⟩
  ·exact .inr ⟨_,c,hc,hv,h.1,rfl,.inl h.2⟩
  ·exact .inr ⟨_,c,hc,hv,h,rfl,.inr (.inl k)⟩
  ·exact .inr ⟨_,c,hc,hv,qQ h.1,rfl,.inr (.inr (.inl h))⟩
  ·exact .inr ⟨_,c,hc,hv,qQ h.1,rfl,.inr (.inr (.inr h))⟩
 ·rintro(⟨c,hc,hv,h⟩|⟨o,c,hc,hv,ha,rfl,h|h|h|h⟩)
  ·exact⟨c,hc,hv,.inl h⟩
  ·exact⟨c,hc,hv,.inr (.inl ⟨ha,h⟩)⟩
  ·exact⟨c,hc,hv,.inr (.inr (.inl ⟨ha,h⟩))⟩
  ·exact⟨c,hc,hv,.inr (.inr (.inr (.inl h)))⟩
  ·exact⟨c,hc,hv,.inr (.inr (.inr (.inr h)))⟩
def yy (l:List Con)(x o:Int)(t:Ty)(k:Nat)(ok:Bool):Prop:=
 (ok=false/\Ky l x o)\/(ok=true/\¬Ky l x o/\k=QV t/\∃m,∀c∈l,QY c=true->VE l c.a x->c.off=o->Zv l (Q8 l m) c t)
section
variable {l:List Con}{x o:Int}{c:Con}
theorem zG (hc:c∈l)(ac:QY c=true)(vc:VE l c.a x)(ho:c.off=o)(hw:∀e∈l,QY e=true->VE l e.a x->e.off=o->e.width=c.width){t:Ty}{m:Nat}(h:Zv l (Q8 l m) c t)(hs:¬Ky l x o):yy l x o t (QV t) true:=
 .inr ⟨rfl,hs,rfl,m,fun e he ae ve hoe=>h.cell hc he ac ae (vc.trans ve.symm) (ho.trans hoe.symm) (hw e he ae ve hoe).symm⟩
theorem Yc (hw:∀e∈l,QY e=true->VE l e.a x->e.off=o->e.width=c.width)(hc:c∈l)(ac:QY c=true)(vc:VE l c.a x)(ho:c.off=o):Ky l x o↔o<0\/(QQ c=true/\Rec l c/\Xg l c 2/\Xg l c 3)\/(QQ c=true/\¬Q9 l c.b/\∃t,X2 l c t/\Xq t 0 4≠some t):=by
 constructor
 ·rintro⟨e,he,ve,ae,hoe,h|⟨d,hd,ad,vd,hod,hne⟩|⟨h1,h2,h3,h4⟩|⟨h1,h2,t,h3,h4⟩⟩
  ·exact .inl (by omega)
  ·exact absurd ((hw d hd ad vd (hod.trans hoe)).trans (hw e he ae ve hoe).symm) hne
  ·have k:=hw e he ae ve hoe;have wc:QQ c=true:=J7 ac (by unfold QQ at h1;have:=(Bool.and_eq_true_iff.1 h1).2;have:=of_decide_eq_true this;omega);have hs:Zc l e c:=⟨h1,wc,hoe.trans ho.symm,ve.trans vc.symm⟩;exact .inr (.inl ⟨wc,h2.cell he hc hs,h3.cell hs,h4.cell hs⟩)
  ·have k:=hw e he ae ve hoe;have wc:QQ c=true:=J7 ac (by unfold QQ at h1;have:=(Bool.and_eq_true_iff.1 h1).2;have:=of_decide_eq_true this;omega);have hs:Zc l e c:=⟨h1,wc,hoe.trans ho.symm,ve.trans vc.symm⟩;exact .inr (.inr ⟨wc,fun k=>h2 (X0 (hs.rel he hc).symm k),t,h3.cell hs,h4⟩)
 ·rintro(h|h|h)
  ·exact⟨c,hc,vc,ac,ho,.inl (by omega)⟩
  ·exact⟨c,hc,vc,ac,ho,.inr (.inr (.inl h))⟩
  ·exact⟨c,hc,vc,ac,ho,.inr (.inr (.inr h))⟩
theorem tJ {e:Con}(hc:c∈l)(he:e∈l)(ac:QY c=true)(ae:QY e=true)(vc:VE l c.a x)(ve:VE l e.a x)(ho:c.off=o)(hoe:e.off=o)(hw:e.width≠c.width):Ky l x o:=
 ⟨c,hc,vc,ac,ho,.inr (.inl ⟨e,he,ae,ve,hoe.trans ho.symm,hw⟩)⟩
end
structure Jb (l:List Con)(x:Int)(O:List Int)(F:List (Int×Ty)):Prop where
 offs:F.map Prod.fst=O
 no:∀f∈F,¬Ky l x f.1
 cont:∃m,∀f∈F,∀c∈l,QY c=true->VE l c.a x->c.off=f.1->Zv l (Q8 l m) c f.2
theorem Jb.nil {l:List Con}{x:Int}:Jb l x [] []:=⟨rfl,fun _ h=>(by cases h),0,fun _ h=>(by cases h)⟩
theorem dM {l:List Con}{m m':Nat}(h:m<=m'){c:Con}{t:Ty}(k:Zv l (Q8 l m) c t):Zv l (Q8 l m') c t:=k.mono fun _ _ p=>p.mono h
theorem Jb.snoc {l:List Con}{x:Int}{O:List Int}{F:List (Int×Ty)}(h:Jb l x O F){o:Int}{t:Ty}(hs:¬Ky l x o)(hc:∃m,∀c∈l,QY c=true->VE l c.a x->c.off=o->Zv l (Q8 l m) c t):Jb l x (O ++ [o]) (F ++ [(o,t)]):=by
 obtain⟨m,hm⟩:=h.cont;obtain⟨k,hk⟩:=hc;refine⟨by simp[h.offs],fun f hf=>?_,max m k,fun f hf c h1 h2 h3 h4=>?_⟩
 ·rcases List.mem_append.1 hf with hf|hf
  ·exact h.no f hf
  ·obtain rfl:f=(o,t):=by simpa using hf
   exact hs
 ·rcases List.mem_append.1 hf with hf|hf
  ·exact dM (by omega) (hm f hf c h1 h2 h3 h4)
  ·obtain rfl:f=(o,t):=by simpa using hf
   exact dM (by omega) (hk c h1 h2 h3 h4)
theorem jd:∀(F:List (Int×Ty)) (o:Int) (t:Ty),cntF (F ++ [(o,t)])=cntF F+QV t
 |[],o,t=>by simp[cntF]
 |(p,u) :: F,o,t=>by rw[List.cons_append,cntF,cntF,jd F];omega
theorem dP (F:List (Int×Ty)):QV (Ty.ptr (Ty.str F))=2+cntF F:=by
 simp[Ty.ptr,Ty.str,QV,Q7,cntF];omega
theorem nC {F:List (Int×Ty)}{O:List Int}(h:F.map Prod.fst=O)(hO:O.Pairwise (· <·)):Zb F:=by
 subst h;exact List.pairwise_map.1 hO
def YX (l:List Con)(x:Int)(t:Ty)(k:Nat):Prop:=
 (t=Ty.unk/\k=0/\∃m,Q8 l m x Ty.any)\/(k<=256/\k=QV t/\∃F m,t=Ty.ptr (Ty.str F)/\¬X1 l x/\Fields l (Q8 l m) x F)
section
variable {l:List Con}{n:Nat}{x:Int}
theorem yV (h:X1 l x):∃m,Q8 l m x Ty.any:=⟨1,.inl ⟨h,rfl⟩⟩
theorem sM (h:kK l x):YX l x Ty.unk 0:= .inl ⟨rfl,rfl,yV (wy.2 (.inl h))⟩
theorem tW {o:Int}(h:Ky l x o):YX l x Ty.unk 0:= .inl ⟨rfl,rfl,yV (wy.2 (.inr ⟨o,h⟩))⟩
theorem lY (hok:∀c∈l,OkC n c){O:List Int}{F:List (Int×Ty)}(h:Jb l x O F)(hO:O.Pairwise (· <·))(hacc:∀o∈O,∃c∈l,QY c=true/\VE l c.a x/\c.off=o)(hm:256<2+cntF F):YX l x Ty.unk 0:=by
 refine .inl ⟨rfl,rfl, ?_⟩;by_cases hs:X1 l x
 ·exact yV hs
 ·obtain⟨G,hG⟩:=lj hok (m:=mu l n x) (x:=x) (Nat.le_refl _) hs;refine⟨mu l n x+1,.inr ⟨hs,G,hG, ?_⟩⟩;rw[if_pos];refine .inr ?_;rw[dP];have hsub:=pY (nC h.offs hO) hG.1 fun f hf=>?_
  ·omega
  ·have hfo:f.1∈O:=by rw[<-h.offs];exact List.mem_map_of_mem hf
   obtain⟨c,hc,ac,vc,ho⟩:=hacc f.1 hfo;obtain⟨t,ht,hct⟩:=hG.2.2 c hc ac vc;obtain⟨m,hmm⟩:=h.cont;have h1:=hmm f hf c hc ac vc ho;have h2:=Zv.unique (fun _ _ _=>Q8.unique) h1 hct;rw[ho]at ht;rw[<-h2]at ht;exact Vm ht
theorem ef {O:List Int}{F:List (Int×Ty)}(h:Jb l x O F)(hO:O.Pairwise (· <·))(hacc:∀o,o∈O↔∃c∈l,QY c=true/\VE l c.a x/\c.off=o)(hd:¬kK l x)(hm:2+cntF F<=256):YX l x (Ty.ptr (Ty.str F)) (2+cntF F):=by
 obtain⟨m,hmm⟩:=h.cont;have hasc:=nC h.offs hO;refine .inr ⟨hm,(dP F).symm,F,m,rfl,fun hs=>?_,hasc,fun f hf=>?_,fun c hc ac vc=>?_⟩
 ·rcases wy.1 hs with k|⟨o,c,hc,vc,ac,rfl,k⟩
  ·exact hd k
  ·have ho:c.off∈F.map Prod.fst:=by rw[h.offs];exact(hacc _).2 ⟨c,hc,ac,vc,rfl⟩
   obtain⟨f,hf,hfo⟩:=List.mem_map.1 ho;exact h.no f hf ⟨c,hc,vc,ac,hfo.symm,k⟩
 ·have hfo:f.1∈O:=by rw[<-h.offs];exact List.mem_map_of_mem hf
  obtain⟨c,hc,ac,vc,ho⟩:=(hacc _).1 hfo;exact⟨c,hc,ac,vc,ho⟩
 ·have ho:c.off∈F.map Prod.fst:=by rw[h.offs];exact(hacc _).2 ⟨c,hc,ac,vc,rfl⟩
  obtain⟨f,hf,hfo⟩:=List.mem_map.1 ho;refine⟨f.2, ?_,hmm f hf c hc ac vc hfo.symm⟩;rw[<-hfo];exact Jk hasc hf
theorem eb {t:Ty}{k:Nat}(h:YX l x t k):∃m,Q8 l m x (if 256<k\/t.kind≠3\/Zm t≠0 then Ty.any else t):=by
 rcases h with⟨rfl,rfl,m,h⟩|⟨h1,h2,F,m,rfl,hs,hF⟩
 ·refine⟨m, ?_⟩;rw[if_pos (.inr (.inl (by decide)))];exact h
 ·refine⟨m+1,.inr ⟨hs,F,hF, ?_⟩⟩;have hk:(Ty.ptr (Ty.str F)).kind=3:=rfl;rw[<-h2];by_cases hc:Zm (Ty.ptr (Ty.str F))≠0
  ·rw[if_pos (.inr (.inr hc)),if_pos (.inl hc)]
  ·rw[if_neg (by rintro(e|e|e);omega;exact e hk;exact hc e),if_neg (by rintro(e|e);exact hc e;omega)]
theorem ep {t:Ty}{k:Nat}(h:YX l x t k):(if 256<k\/t.kind≠3\/Zm t≠0 then 1 else k)=QV (if 256<k\/t.kind≠3\/Zm t≠0 then Ty.any else t):=by
 split
 ·decide
 ·rename_i hn
  rcases h with⟨rfl,rfl, -⟩|⟨h1,h2, -⟩
  ·exact absurd (.inr (.inl (by decide))) hn
  ·exact h2
end
def Vg (n:Nat)(f:Int->Option Value):Nat:=((List.range n).filter fun q:Nat=>(f q).isSome).length
theorem YK (n:Nat)(f:Int->Option Value):Vg n f<=n:=Nat.le_trans (List.length_filter_le _ _) (by simp)
theorem pJ (n:Nat):Vg n (fun _=>none)=0:=by
 unfold Vg;rw[List.length_eq_zero_iff,List.filter_eq_nil_iff];intro a _;simp
theorem filter_one {p p':Nat->Bool}{q:Nat}:∀{L:List Nat},L.Nodup->q∈L->p q=false->p' q=true->(∀x,x≠q->p' x=p x)->(L.filter p').length=(L.filter p).length+1
 |[],_,h,_,_,_=>by cases h
 | x :: L,hn,hq,h0,h1,he=>by
  rw[List.nodup_cons]at hn;by_cases hx:x=q
  ·subst hx;rw[List.filter_cons_of_pos h1,List.filter_cons_of_neg (by simp[h0]),List.length_cons];have:L.filter p'=L.filter p:=List.filter_congr fun y hy=>he y (fun e=>hn.1 (by rw[<-e];exact hy));rw[this]
  ·have hq':q∈L:=by
    rcases List.mem_cons.1 hq with e|e
    ·exact absurd e.symm hx
    ·exact e
   have ih:=filter_one hn.2 hq' h0 h1 he;have ex:=he x hx;by_cases hp:p x=true
   ·rw[List.filter_cons_of_pos (by rw[ex];exact hp),List.filter_cons_of_pos hp,List.length_cons,List.length_cons,ih]
   ·rw[List.filter_cons_of_neg (by rw[ex];exact hp),List.filter_cons_of_neg hp,ih]
theorem pW {n:Nat}{f:Int->Option Value}{q:Nat}{v:Value}(hq:q<n)(hf:f q=none):Vg n (fun j=>if j=(q:Int) then some v else f j)=Vg n f+1:=by
 unfold Vg;refine filter_one (q:=q) List.nodup_range (List.mem_range.2 hq) (by simp[hf]) (by simp) (fun x hx=>?_);have:¬((x:Int)=(q:Int)):=by omega
 simp[this]
def VF (L:List Nat)(x:Int):Option Value:=if 0<=x/\x.toNat∈L then some (.bool true) else none
theorem Gx (L:List Nat)(y:Nat):VF L y=if y∈L then some (.bool true) else none:=by
 unfold VF;by_cases h:y∈L
 ·rw[if_pos ⟨by omega,by simpa using h⟩,if_pos h]
 ·rw[if_neg (fun e=>h (by simpa using e.2)),if_neg h]
theorem pm (L:List Nat)(y:Nat):(VF L y).getD (.bool false)= .bool (decide (y∈L)):=by
 rw[Gx];by_cases h:y∈L <;> simp[h]
theorem mY (L:List Nat)(y:Nat)(x:Int):VF (L ++ [y]) x=if x=(y:Int) then some (.bool true) else VF L x:=by
 unfold VF;by_cases hx:x=(y:Int)
 ·subst hx;simp
 ·rw[if_neg hx];by_cases h:0<=x/\x.toNat∈L
  ·rw[if_pos h,if_pos ⟨h.1,List.mem_append_left _ h.2⟩]
  ·rw[if_neg h,if_neg];rintro⟨h0,h1⟩;rcases List.mem_append.1 h1 with h1|h1
   ·exact h ⟨h0,h1⟩
   ·have:x.toNat=y:=by simpa using h1
    omega
theorem jV {n:Nat}{L:List Nat}(h:L.Nodup)(hs:∀x∈L,x<n):L.length<=n:=by
 have key:∀{L E:List Nat},L.Nodup->(∀x∈L,x∈E)->L.length<=E.length:=by
  intro L
  induction L with
  |nil=>intro E _ _;simp
  |cons y L ih=>
   intro E h hs;rw[List.nodup_cons]at h;have hy:y∈E:=hs y (by simp);have h1:=ih (E:=E.erase y) h.2 fun x hx=>(List.mem_erase_of_ne (fun e=>h.1 (by rw[<-e];exact hx))).2 (hs x (by simp[hx]));rw[List.length_erase_of_mem hy]at h1;have:=List.length_pos_of_mem hy;rw[List.length_cons];omega
 have:=key (E:=List.range n) h (fun x hx=>List.mem_range.2 (hs x hx));simpa using this
structure LdR (l:List Con)(n:Nat)(r:Nat->Nat)(a:Nat)(SN WK:List Nat)(cur:Option (Nat×List Nat)):Prop where
 nd:SN.Nodup
 start:a∈SN
 ok:∀x∈SN,x<n/\r x=x/\Q9 l (x:Int)/\VX l r a x
 wnd:WK.Nodup
 wk:∀x∈WK,x∈SN
 cl:∀x∈SN,x∉WK->(∀k Z,cur=some (k,Z)->x≠k)->∀c∈l,QQ c=true->r c.a.toNat=x->Q9 l c.b->r c.b.toNat∈SN
 now:∀k Z,cur=some (k,Z)->k∈SN/\∀x∈Z,x∈SN
section
variable {l:List Con}{n:Nat}{r:Nat->Nat}{a:Nat}{SN WK:List Nat}
theorem LdR.begin (ha : a < n) (hr :r a=a) (hp:Q9 l (a:Int)):LdR l n r a [a] [a] none:=
 ⟨by simp, by simp, fun x hx => by obtain rfl:x=a:=by simpa using hx
                                   exact⟨ha,hr,hp,.refl _⟩,by simp,fun x hx=>hx,fun x hx hn=>absurd hx hn,fun _ _ h=>(by cases h)⟩
theorem LdR.pop {k:Nat}(h:LdR l n r a SN (WK ++ [k]) none):LdR l n r a SN WK (some (k,[])):=by
 have hn:=List.nodup_append.1 h.wnd;refine⟨h.nd,h.start,h.ok,hn.1,fun x hx=>h.wk x (List.mem_append_left _ hx),fun x hx hw hk=>h.cl x hx ?_ (fun _ _ e=>by cases e),fun k' Z e=>?_⟩
 ·intro e;rcases List.mem_append.1 e with e|e
  ·exact hw e
  ·exact hk k [] rfl (by simpa using e)
 ·cases e;exact⟨h.wk k (by simp),fun x hx=>by cases hx⟩
theorem LdR.had {k y:Nat}{Z:List Nat}(h:LdR l n r a SN WK (some (k,Z)))(hy:y∈SN):LdR l n r a SN WK (some (k,Z ++ [y])):=
 ⟨h.nd,h.start,h.ok,h.wnd,h.wk,fun x hx hw hk=>h.cl x hx hw (fun k' Z' e=>by cases e;exact hk k _ rfl),fun k' Z' e=>by
  cases e;refine⟨(h.now k Z rfl).1,fun x hx=>?_⟩;rcases List.mem_append.1 hx with hx|hx
  ·exact(h.now k Z rfl).2 x hx
  ·obtain rfl:x=y:=by simpa using hx
   exact hy⟩
theorem LdR.add {k y:Nat}{Z:List Nat}(h:LdR l n r a SN WK (some (k,Z)))(hy:y∉SN)(hok:y<n/\r y=y/\Q9 l (y:Int)/\VX l r a y):LdR l n r a (SN ++ [y]) (WK ++ [y]) (some (k,Z ++ [y])):=by
 refine⟨List.nodup_append.2 ⟨h.nd,by simp,fun x hx z hz e=>?_⟩,List.mem_append_left _ h.start,fun x hx=>?_,List.nodup_append.2 ⟨h.wnd,by simp,fun x hx z hz e=>?_⟩,fun x hx=>?_,fun x hx hw hk c hc w ha hp=>?_,fun k' Z' e=>?_⟩
 ·obtain rfl:z=y:=by simpa using hz
  exact hy (by rw[<-e];exact hx)
 ·rcases List.mem_append.1 hx with hx|hx
  ·exact h.ok x hx
  ·obtain rfl:x=y:=by simpa using hx
   exact hok
 ·obtain rfl:z=y:=by simpa using hz
  exact hy (h.wk z (by rw[<-e];exact hx))
 ·rcases List.mem_append.1 hx with hx|hx
  ·exact List.mem_append_left _ (h.wk x hx)
  ·exact List.mem_append_right _ hx
 ·rcases List.mem_append.1 hx with hx|hx
  ·exact List.mem_append_left _ (h.cl x hx (fun e=>hw (List.mem_append_left _ e)) (fun k' Z' e=>by cases e;exact hk k _ rfl) c hc w ha hp)
  ·exact absurd (List.mem_append_right _ hx) hw
 ·cases e;refine⟨List.mem_append_left _ (h.now k Z rfl).1,fun x hx=>?_⟩;rcases List.mem_append.1 hx with hx|hx
  ·exact List.mem_append_left _ ((h.now k Z rfl).2 x hx)
  ·exact List.mem_append_right _ hx
theorem LdR.close {k:Nat}{Z:List Nat}(h:LdR l n r a SN WK (some (k,Z)))(hz:∀c∈l,QQ c=true->r c.a.toNat=k->Q9 l c.b->r c.b.toNat∈Z):LdR l n r a SN WK none:=by
 refine⟨h.nd,h.start,h.ok,h.wnd,h.wk,fun x hx hw _ c hc w ha hp=>?_,fun _ _ e=>(by cases e)⟩;by_cases hxk:x=k
 ·exact(h.now k Z rfl).2 _ (hz c hc w (ha.trans hxk) hp)
 ·exact h.cl x hx hw (fun k' Z' e=>by cases e;exact hxk) c hc w ha hp
theorem LdR.done (h:LdR l n r a SN [] none){y:Nat}:y∈SN↔VX l r a y:=by
 refine⟨fun hy=>(h.ok y hy).2.2.2,fun hy=>?_⟩
 induction hy with
 |refl=>exact h.start
 |step _ hc hw ha hp ih=>exact h.cl _ ih (by simp) (fun _ _ e=>by cases e) _ hc hw ha hp
theorem LdR.len {cur:Option (Nat×List Nat)}(h:LdR l n r a SN WK cur):SN.length<=n/\WK.length<=n:=
 ⟨jV h.nd fun x hx=>(h.ok x hx).1,jV h.wnd fun x hx=>(h.ok x (h.wk x hx)).1⟩
end
def QW (C:List Nat)(x:Nat):Nat:=(C[x]?).getD 0
def Z8 (C:List Nat)(a b:Nat):List Nat:=C.map fun x=>if x=QW C b then QW C a else x
theorem zV (C:List Nat)(a b:Nat):(Z8 C a b).length=C.length:=by unfold Z8;simp
theorem qc {C:List Nat}{a b x:Nat}(hx:x<C.length):QW (Z8 C a b) x=if QW C x=QW C b then QW C a else QW C x:=by
 unfold Z8 QW;rw[List.getElem?_map,Qq hx];rfl
theorem lC {C:List Nat}{a b:Nat}(h:QW C a=QW C b):Z8 C a b=C:=by
 unfold Z8;rw[h]
 have:(fun x=>if x=QW C b then QW C b else x)=fun x=>x:=by
  funext x
  split
  ·rename_i e;exact e.symm
  ·rfl
 rw[this,List.map_id']
theorem fV {C:List Nat}{a b x y:Nat}(hx:x<C.length)(hy:y<C.length)(h:QW C x=QW C y):QW (Z8 C a b) x=QW (Z8 C a b) y:=by
 rw[qc hx,qc hy,h]
theorem fK {C:List Nat}{a b:Nat}(ha:a<C.length)(hb:b<C.length):QW (Z8 C a b) a=QW (Z8 C a b) b:=by
 rw[qc ha,qc hb,if_pos rfl]
 split <;> rfl
theorem m0 {C:List Nat}{a b v:Nat}(ha:a<C.length)(h:v∈Z8 C a b):v∈C:=by
 unfold Z8 at h;obtain⟨x,hx,rfl⟩:=List.mem_map.1 h
 split
 ·unfold QW;rw[Qq ha];exact List.getElem_mem ..
 ·exact hx
theorem lD {C:List Nat}{a b:Nat}(h:QW C a≠QW C b):QW C b∉Z8 C a b:=by
 unfold Z8;intro k;obtain⟨x,hx,e⟩:=List.mem_map.1 k
 split at e
 ·exact h e
 ·rename_i hn;exact hn e
def K4 (C:List Nat):Nat:=((List.range C.length).filter fun v=>decide (v∈C)).length
theorem GX {C:List Nat}{a b:Nat}(hl:∀v∈C,v<C.length)(ha:a<C.length)(hb:b<C.length)(h:QW C a≠QW C b):K4 (Z8 C a b)<K4 C:=by
 have hm:QW C b∈C:=by unfold QW;rw[Qq hb];exact List.getElem_mem ..
 unfold K4;rw[zV];refine f8 (a:=QW C b) (fun v _ hv=>?_) (List.mem_range.2 (hl _ hm)) (Qw (lD h)) (Qv hm);exact Qv (m0 ha (of_decide_eq_true hv))
structure LabP (l:List Con)(n:Nat)(C:List Nat):Prop where
 len:C.length=n+l.length
 sound:VQ l n (QW C)
 lt:∀v∈C,v<C.length
theorem mf (N x:Nat)(h:x<N):QW (List.range N) x=x:=by unfold QW;rw[List.getElem?_range h];rfl
theorem LabP.start (l:List Con)(n:Nat):LabP l n (List.range (n+l.length)):=
 ⟨by simp,fun x y hx hy h=>by rw[mf _ _ hx,mf _ _ hy]at h;rw[h];exact .refl _,fun v hv=>by simpa using hv⟩
theorem LabP.unite {l:List Con}{n:Nat}{C:List Nat}(h:LabP l n C){a b:Nat}(ha:a<n+l.length)(hb:b<n+l.length)(hv:VE l (Zz l n a) (Zz l n b)):LabP l n (Z8 C a b):=by
 have hl:=h.len;refine⟨by rw[zV,hl],fun x y hx hy k=>?_,fun v hv=>by rw[zV];exact h.lt v (m0 (by omega) hv)⟩;have key:=fZ (r':=fun z=>if QW C z=QW C b then QW C a else QW C z) h.sound ha hb hv (.inr ⟨rfl,rfl⟩) (fun z=>rfl);refine key x y hx hy ?_;rw[qc (by omega),qc (by omega)]at k;exact k
structure Xz (l:List Con)(n:Nat)(C:List Nat)(m:Nat):Prop extends LabP l n C where
 sub:∀k c,k<m->l[k]? =some c->c.kind=0->QW C c.a.toNat=QW C c.b.toNat
 node:∀k c,k<m->l[k]? =some c->QQ c=true->QW C (n+k)=QW C c.b.toNat
theorem Xz.start (l:List Con)(n:Nat):Xz l n (List.range (n+l.length)) 0:=⟨LabP.start l n,fun k c h=>by omega,fun k c h=>by omega⟩
theorem Jd {n:Nat}{c:Con}(h:OkC n c):c.a.toNat<n:=by have:=h.a0;have:=h.a1;omega
theorem YD {n:Nat}{c:Con}(h:OkC n c)(hk:c.kind≠1):c.b.toNat<n:=by have:=h.b0 hk;have:=h.b1 hk;omega
theorem Xz.unite {l:List Con}{n:Nat}{C:List Nat}{m:Nat}(h:Xz l n C m)(hok:∀c∈l,OkC n c){a b:Nat}(ha:a<n+l.length)(hb:b<n+l.length)(hv:VE l (Zz l n a) (Zz l n b)):Xz l n (Z8 C a b) m:=by
 have hl:=h.len;refine⟨h.toLabP.unite ha hb hv,fun k c hk hc h0=>?_,fun k c hk hc hw=>?_⟩
 ·have ho:=hok c (Qx hc);have h1:=Jd ho;have h2:=YD ho (by omega);exact fV (by omega) (by omega) (h.sub k c hk hc h0)
 ·have ho:=hok c (Qx hc);have h2:=YD ho (Zp hw).1;have h3:=(Qz hc).1;exact fV (by omega) (by omega) (h.node k c hk hc hw)
theorem Xz.sub_step {l:List Con}{n:Nat}{C:List Nat}{m:Nat}(h:Xz l n C m)(hok:∀c∈l,OkC n c){c:Con}(hc:l[m]? =some c)(h0:c.kind=0):Xz l n (Z8 C c.a.toNat c.b.toNat) (m+1):=by
 have hm:=Qx hc;have ho:=hok c hm;have h1:=Jd ho;have h2:=YD ho (by omega);have hl:=h.len;have k:=h.unite hok (a:=c.a.toNat) (b:=c.b.toNat) (by omega) (by omega) (by rw[Z5 h1,Z5 h2,Qk ho.a0,Qk (ho.b0 (by omega))];exact .sub hm h0);refine⟨k.toLabP,fun i e hi he e0=>?_,fun i e hi he ew=>?_⟩
 ·by_cases hx:i=m
  ·subst hx;rw[hc]at he;cases he;exact fK (by omega) (by omega)
  ·exact k.sub i e (by omega) he e0
 ·by_cases hx:i=m
  ·subst hx;rw[hc]at he;cases he;exact absurd h0 (Zp ew).2.1
  ·exact k.node i e (by omega) he ew
theorem Xz.wide_step {l:List Con}{n:Nat}{C:List Nat}{m:Nat}(h:Xz l n C m)(hok:∀c∈l,OkC n c){c:Con}(hc:l[m]? =some c)(hw:QQ c=true):Xz l n (Z8 C (n+m) c.b.toNat) (m+1):=by
 have hm:=Qx hc;have hml:=(Qz hc).1;have ho:=hok c hm;have h2:=YD ho (Zp hw).1;have hl:=h.len;have k:=h.unite hok (a:=n+m) (b:=c.b.toNat) (by omega) (by omega) (by rw[KG hc hw,Z5 h2,Qk (ho.b0 (Zp hw).1)];exact .refl _);refine⟨k.toLabP,fun i e hi he e0=>?_,fun i e hi he ew=>?_⟩
 ·by_cases hx:i=m
  ·subst hx;rw[hc]at he;cases he;exact absurd e0 (Zp hw).2.1
  ·exact k.sub i e (by omega) he e0
 ·by_cases hx:i=m
  ·subst hx;rw[hc]at he;cases he;exact fK (by omega) (by omega)
  ·exact k.node i e (by omega) he ew
theorem Xz.no_step {l:List Con}{n:Nat}{C:List Nat}{m:Nat}(h:Xz l n C m){c:Con}(hc:l[m]? =some c)(h0:c.kind≠0)(hw:QQ c=false):Xz l n C (m+1):=by
 refine⟨h.toLabP,fun i e hi he e0=>?_,fun i e hi he ew=>?_⟩
 ·by_cases hx:i=m
  ·subst hx;rw[hc]at he;cases he;exact absurd e0 h0
  ·exact h.sub i e (by omega) he e0
 ·by_cases hx:i=m
  ·subst hx;rw[hc]at he;cases he;rw[hw]at ew;cases ew
  ·exact h.node i e (by omega) he ew
def KP (l:List Con)(n:Nat)(C:List Nat)(k i:Nat):Prop:=∃c e,l[k]? =some c/\l[i]? =some e/\QQ c=true/\QQ e=true/\c.off=e.off/\QW C c.a.toNat=QW C e.a.toNat/\QW C (n+k)≠QW C (n+i)
theorem KP.lt {l:List Con}{n:Nat}{C:List Nat}{k i:Nat}(h:KP l n C k i):k<l.length/\i<l.length:=by
 obtain⟨c,e,h1,h2,_⟩:=h;exact⟨(Qz h1).1,(Qz h2).1⟩
theorem Xz.cell_step {l:List Con}{n:Nat}{C:List Nat}(h:Xz l n C l.length)(hok:∀c∈l,OkC n c){k i:Nat}(ha:KP l n C k i):Xz l n (Z8 C (n+k) (n+i)) l.length/\K4 (Z8 C (n+k) (n+i))<K4 C:=by
 have hlt:=ha.lt;obtain⟨c,e,h1,h2,w1,w2,ho,hr,hne⟩:=ha;have hl:=h.len;have c1:=hok c (Qx h1);have c2:=hok e (Qx h2);have a1:=Jd c1;have a2:=Jd c2;have hv:=h.sound c.a.toNat e.a.toNat (by omega) (by omega) hr;rw[Z5 a1,Z5 a2,Qk c1.a0,Qk c2.a0]at hv;refine⟨h.unite hok (by omega) (by omega) ?_,GX h.lt (by omega) (by omega) hne⟩;rw[KG h1 w1,KG h2 w2];exact .cell (Qx h1) (Qx h2) w1 w2 ho hv
theorem Xz.class {l:List Con}{n:Nat}{C:List Nat}(h:Xz l n C l.length)(hok:∀c∈l,OkC n c)(hn:∀k i,i<k->¬KP l n C k i):Xk l n (QW C):=by
 refine bg hok h.sound ⟨fun c hc h0=>?_,fun k c hk hw=>h.node k c (Qz hk).1 hk hw,fun k i c e hk hi w1 w2 ho hr=>?_⟩
 ·obtain⟨k,hk⟩:=List.getElem?_of_mem hc;exact h.sub k c (Qz hk).1 hk h0
 ·by_cases hx:QW C (n+k)=QW C (n+i)
  ·exact hx
  ·rcases Nat.lt_trichotomy k i with hlt|he|hgt
   ·exact absurd ⟨e,c,hi,hk,w2,w1,ho.symm,hr.symm,fun q=>hx q.symm⟩ (hn i k hlt)
   ·subst he;rfl
   ·exact absurd ⟨c,e,hk,hi,w1,w2,ho,hr,hx⟩ (hn k i hgt)
def YP (l:List Con)(k i:Nat):Prop:=∃c e,l[k]? =some c/\l[i]? =some e/\Zc l c e
def Jm (l:List Con)(n x y:Nat):Prop:=∃k c,l[k]? =some c/\
 ((c.kind=0/\c.a=(x:Int)/\c.b=(y:Int))\/(c.kind=2/\n<=x/\YP l k (x - n)/\c.b=(y:Int))\/(c.kind=3/\n<=y/\YP l k (y - n)/\c.b=(x:Int)))
inductive ETo (l:List Con)(n x:Nat):Nat->Prop
 |refl:ETo l n x x
 |step {y z:Nat}:Jm l n y z->ETo l n x z->ETo l n x y
theorem YP.lt {l:List Con}{k i:Nat}(h:YP l k i):k<l.length/\i<l.length:=by
 obtain⟨c,e,h1,h2,_⟩:=h;exact⟨(Qz h1).1,(Qz h2).1⟩
theorem bG {l:List Con}{n:Nat}(hok:∀c∈l,OkC n c){x y:Nat}(h:Jm l n x y):x<n+l.length/\y<n+l.length:=by
 obtain⟨k,c,hc,h⟩:=h;have ho:=hok c (Qx hc);have h0:=ho.a0;have h1:=ho.a1;rcases h with⟨hk,ha,hb⟩|⟨hk,hx,hs,hb⟩|⟨hk,hx,hs,hb⟩
 ·have h2:=ho.b1 (by omega);omega
 ·have h2:=ho.b1 (by omega);have:=hs.lt;omega
 ·have h2:=ho.b1 (by omega);have:=hs.lt;omega
def qW (l:List Con)(n x:Nat)(y:Int):Prop:=(x<n/\Reach l y (x:Int))\/(∃k c,x=n+k/\l[k]? =some c/\QQ c=true/\∃e∈l,e.kind=3/\Zc l e c/\Reach l y e.b)
theorem uk {l:List Con}{x y z:Int}(s:Step l x y)(h:Reach l y z):Reach l x z:=(Reach.step (.refl _) s).trans h
theorem qW.head {l:List Con}{n x:Nat}{y z:Int}(s:Step l y z)(h:qW l n x z):qW l n x y:=by
 rcases h with⟨h1,h2⟩|⟨k,c,h1,h2,h3,e,he,e3,hs,hr⟩
 ·exact .inl ⟨h1,uk s h2⟩
 ·exact .inr ⟨k,c,h1,h2,h3,e,he,e3,hs,uk s hr⟩
theorem bK {l:List Con}{n x:Nat}(hok:∀c∈l,OkC n c){y:Nat}(h:ETo l n x y):
  (y<n->qW l n x (y:Int))/\∀i s,y=n+i->l[i]? =some s->QQ s=true->(∃k c,x=n+k/\l[k]? =some c/\Zc l s c)\/∃d∈l,d.kind=2/\Zc l s d/\qW l n x d.b:=by
 induction h with
 |refl=>exact⟨fun h=> .inl ⟨h,.refl _⟩,fun i s h1 h2 h3=> .inl ⟨i,s,h1,h2,h3,h3,rfl,.refl _⟩⟩
 | @step y z hf hz ih=>
  obtain⟨k,c,hc,hf⟩:=hf;have hm:=Qx hc;have ho:=hok c hm;rcases hf with⟨h0,ha,hb⟩|⟨h0,hx,⟨c',e,hc',he,hs⟩,hb⟩|⟨h0,hx,⟨c',e,hc',he,hs⟩,hb⟩
  ·have h1:=ho.a1;have h2:=ho.b1 (by omega);refine⟨fun _=>?_,fun i s h1=>by omega⟩;have:=ih.1 (by omega);rw[<-hb]at this;rw[<-ha];exact this.head (.sub hm h0)
  ·rw[hc]at hc';cases hc';have h2:=ho.b1 (by omega);refine⟨fun h=>by omega,fun i s h1 h2' h3=> .inr ⟨c,hm,h0, ?_,by rw[hb];exact ih.1 (by omega)⟩⟩;have hi:y - n=i:=by omega
   rw[hi,h2']at he;cases he;exact hs.symm
  ·rw[hc]at hc';cases hc';have h2:=ho.b1 (by omega);refine⟨fun _=>?_,fun i s h1=>by omega⟩;rw[<-hb];rcases ih.2 (z - n) e (by omega) he hs.2.1 with⟨i,s,h3,h4,h5⟩|⟨d,hd,d2,h4,h5⟩
   ·exact .inr ⟨i,s,h3,h4,h5.2.1,c,hm,h0,hs.trans h5,.refl _⟩
   ·exact h5.head (.cell hm hd (hs.trans h4) h0 d2)
theorem dC {l:List Con}{n x:Nat}(hok:∀c∈l,OkC n c){y z:Int}(h:Reach l y z)(h0:0<=y)(hz:ETo l n x z.toNat):ETo l n x y.toNat:=by
 induction h with
 |refl=>exact hz
 | @step y' z' hr s ih=>
  refine ih ?_
  cases s with
  |@sub c hc hk=>
   obtain⟨k,hk'⟩:=List.getElem?_of_mem hc;have ho:=hok c hc;exact .step ⟨k,c,hk',.inl ⟨hk,(Qk ho.a0).symm,(Qk (ho.b0 (by omega))).symm⟩⟩ hz
  |@cell s d hs hd k k3 k2=>
   obtain⟨i,hi⟩:=List.getElem?_of_mem hs;obtain⟨j,hj⟩:=List.getElem?_of_mem hd;have o1:=hok s hs;have o2:=hok d hd;have e1:Jm l n s.b.toNat (n+i):=⟨i,s,hi,.inr (.inr ⟨k3,by omega,⟨s,s,hi,by rw[show n+i - n=i by omega];exact hi,k.1,k.1,rfl,.refl _⟩,(Qk (o1.b0 (by omega))).symm⟩)⟩;have e2:Jm l n (n+i) d.b.toNat:=⟨j,d,hj,.inr (.inl ⟨k2,by omega,⟨d,s,hj,by rw[show n+i - n=i by omega];exact hi,k.symm⟩,(Qk (o2.b0 (by omega))).symm⟩)⟩;exact .step e1 (.step e2 hz)
theorem bM {l:List Con}{n x:Nat}(hok:∀c∈l,OkC n c){y:Int}(h0:0<=y)(h:qW l n x y):ETo l n x y.toNat:=by
 rcases h with⟨h1,h2⟩|⟨k,c,h1,h2,h3,e,he,e3,hs,hr⟩
 ·refine dC hok h2 h0 ?_;rw[Int.toNat_natCast];exact .refl
 ·refine dC hok hr h0 ?_;obtain⟨i,hi⟩:=List.getElem?_of_mem he;have ho:=hok e he;subst h1;exact .step ⟨i,e,hi,.inr (.inr ⟨e3,by omega,⟨e,c,hi,by rw[show n+k - n=k by omega];exact h2,hs⟩,(Qk (ho.b0 (by omega))).symm⟩)⟩ .refl
def k8 (l:List Con)(n x:Nat)(t:Ty):Prop:=ZG (fun s=>∃k∈l,k.kind=1/\ETo l n x k.a.toNat/\s=k.type) t
theorem ek {l:List Con}{n x:Nat}(hok:∀c∈l,OkC n c)(hx:x<n){t:Ty}(h:k8 l n x t):qG l (x:Int) t:=by
 refine ZG.congr h fun s=>?_;constructor
 ·rintro⟨k,hk,k1,hr,rfl⟩;have ho:=hok k hk;refine⟨k,hk,k1, ?_,rfl⟩;have:=(bK hok hr).1 (Jd ho);rw[Qk ho.a0]at this;rcases this with⟨_,h⟩|⟨i,c,h1,_⟩
  ·exact h
  ·omega
 ·rintro⟨k,hk,k1,hr,rfl⟩;exact⟨k,hk,k1,bM hok (hok k hk).a0 (.inl ⟨hx,hr⟩),rfl⟩
theorem uy {l:List Con}{n i:Nat}(hok:∀c∈l,OkC n c){c:Con}(hc:l[i]? =some c)(hw:QQ c=true){t:Ty}(h:k8 l n (n+i) t):X2 l c t:=by
 refine ZG.congr h fun s=>?_;constructor
 ·rintro⟨k,hk,k1,hr,rfl⟩;have ho:=hok k hk;have:=(bK hok hr).1 (Jd ho);rw[Qk ho.a0]at this;rcases this with⟨h,_⟩|⟨j,e,h1,h2,h3,x,hx,x3,hs,hr'⟩
  ·omega
  ·have hj:j=i:=by omega
   rw[hj,hc]at h2;cases h2;exact⟨x,hx,x3,hs,k,hk,k1,hr',rfl⟩
 ·rintro⟨x,hx,x3,hs,k,hk,k1,hr,rfl⟩;exact⟨k,hk,k1,bM hok (hok k hk).a0 (.inr ⟨i,c,rfl,hc,hw,x,hx,x3,hs,hr⟩),rfl⟩
structure Vz (l:List Con)(n x:Nat)(S:List Nat)(i:Nat):Prop where
 to:∀y∈S,ETo l n x y
 self:x∈S
 nd:S.Nodup
 lt:∀y∈S,y<n+l.length
 done:∀j z y,j<i->S[j]? =some z->Jm l n y z->y∈S
theorem Vz.start {l:List Con}{n x:Nat}(hx:x<n+l.length):Vz l n x [x] 0:=
 ⟨fun y hy=>by rw[List.mem_singleton.1 hy];exact .refl,List.mem_singleton.2 rfl,by simp,fun y hy=>by rw[List.mem_singleton.1 hy];exact hx,fun j z y h=>by omega⟩
theorem Vz.len {l:List Con}{n x:Nat}{S:List Nat}{i:Nat}(h:Vz l n x S i):S.length<=n+l.length:=jV h.nd h.lt
theorem Vz.add {l:List Con}{n x:Nat}{S:List Nat}{i:Nat}(h:Vz l n x S i){y z:Nat}(hz:S[i]? =some z)(hf:Jm l n y z)(hok:∀c∈l,OkC n c)(hy:y∉S):Vz l n x (S ++ [y]) i:=by
 have hzm:=Qx hz;refine⟨fun w hw=>?_,List.mem_append_left _ h.self, ?_,fun w hw=>?_,fun j u w hj hu hf=>?_⟩
 ·rcases List.mem_append.1 hw with hw|hw
  ·exact h.to w hw
  ·rw[List.mem_singleton.1 hw];exact .step hf (h.to z hzm)
 ·rw[List.nodup_append];refine⟨h.nd,by simp,fun a ha b hb=>?_⟩;rw[List.mem_singleton.1 hb];intro e;exact hy (e ▸ ha)
 ·rcases List.mem_append.1 hw with hw|hw
  ·exact h.lt w hw
  ·rw[List.mem_singleton.1 hw];exact(bG hok hf).1
 ·have hi:=(Qz hz).1;rw[List.getElem?_append_left (by omega)]at hu;exact List.mem_append_left _ (h.done j u w hj hu hf)
theorem Vz.next {l:List Con}{n x:Nat}{S:List Nat}{i:Nat}(h:Vz l n x S i){z:Nat}(hz:S[i]? =some z)(hd:∀y,Jm l n y z->y∈S):Vz l n x S (i+1):=
 ⟨h.to,h.self,h.nd,h.lt,fun j u y hj hu hf=>by
  by_cases e:j=i
  ·subst e;rw[hz]at hu;cases hu;exact hd y hf
  ·exact h.done j u y (by omega) hu hf⟩
theorem Vz.end {l:List Con}{n x:Nat}{S:List Nat}(h:Vz l n x S S.length){y:Nat}:y∈S↔ETo l n x y:=by
 refine⟨h.to y,fun k=>?_⟩
 induction k with
 |refl=>exact h.self
 |@step y z hf _ ih=>
  obtain⟨j,hj⟩:=List.getElem?_of_mem ih;exact h.done j z y (Qz hj).1 hj hf
structure XQ (l:List Con)(n:Nat)(r:Nat->Nat)(x y:Nat)(S:List Nat)(i:Nat):Prop where
 to:∀q∈S,q=r x\/∃z:Nat,z<n/\r z=q/\Z3 l (Zz l n x) (z:Int)
 self:r x∈S
 nd:S.Nodup
 lt:∀q∈S,q<n+l.length
 done:∀j q c,j<i->S[j]? =some q->c∈l->QQ c=true->r c.a.toNat=q->r c.b.toNat∈S/\r c.b.toNat≠r y
theorem cd {l:List Con}{n:Nat}{r:Nat->Nat}(hcl:Xk l n r)(hok:∀c∈l,OkC n c){x:Nat}(hx:x<n+l.length){q:Nat}(hq:q=r x\/∃z:Nat,z<n/\r z=q/\Z3 l (Zz l n x) (z:Int)){c:Con}(hc:c∈l)(hw:QQ c=true)(ha:r c.a.toNat=q):Z3 l (Zz l n x) (c.b.toNat:Int):=by
 have ho:=hok c hc;have h1:=Jd ho;have hb:=Qk (ho.b0 (Zp hw).1);rw[hb];rcases hq with rfl|⟨z,hz,e,hl⟩
 ·have:=(hcl c.a.toNat x (by omega) hx).1 ha;rw[Z5 h1,Qk ho.a0]at this;exact .one hc hw this (.refl _)
 ·have:=(jm hcl h1 hz).1 (ha.trans e.symm);rw[Qk ho.a0]at this;exact .more hl hc hw this (.refl _)
theorem XQ.end {l:List Con}{n:Nat}{r:Nat->Nat}(hcl:Xk l n r)(hok:∀c∈l,OkC n c){x y:Nat}(hx:x<n+l.length)(hy:y<n+l.length){S:List Nat}(h:XQ l n r x y S S.length):¬Z3 l (Zz l n x) (Zz l n y):=by
 have key:∀{z:Int},Z3 l (Zz l n x) z->∃c∈l,QQ c=true/\VE l c.b z/\r c.b.toNat∈S/\r c.b.toNat≠r y:=by
  intro z hz
  have hx0:∀c∈l,VE l c.a (Zz l n x)->r c.a.toNat=r x:=fun c hc h1=>by
   have ho:=hok c hc;have h3:=Jd ho;exact(hcl c.a.toNat x (by omega) hx).2 (by rw[Z5 h3,Qk ho.a0];exact h1)
  have at_:∀{c:Con},c∈l->QQ c=true->r c.a.toNat∈S->r c.b.toNat∈S/\r c.b.toNat≠r y:=fun {c} hc hw hm=>by
   obtain⟨j,hj⟩:=List.getElem?_of_mem hm;exact h.done j _ c (Qz hj).1 hj hc hw rfl
  generalize Zz l n x=X at hz hx0
  induction hz with
  |@one c x1 z hc hw h1 h2=>
   have e:r c.a.toNat=r x:=hx0 c hc h1;have:=at_ hc hw (by rw[e];exact h.self);exact⟨c,hc,hw,h2,this⟩
  |@more c x1 y1 z h0 hc hw h1 h2 ih=>
   obtain⟨e,he,ew,ev,em, -⟩:=ih hx0;have ho:=hok c hc;have hoe:=hok e he;have e1:r c.a.toNat=r e.b.toNat:=(zm hcl ho.a0 ho.a1 (hoe.b0 (Zp ew).1) (hoe.b1 (Zp ew).1)).2 (h1.trans ev.symm);have:=at_ hc hw (by rw[e1];exact em);exact⟨c,hc,hw,h2,this⟩
 intro hz;obtain⟨c,hc,hw,hv,_,hne⟩:=key hz;have ho:=hok c hc;have hb:=YD ho (Zp hw).1;refine hne ((hcl c.b.toNat y (by omega) hy).2 ?_);rw[Z5 hb,Qk (ho.b0 (Zp hw).1)];exact hv
theorem XQ.start {l:List Con}{n:Nat}{r:Nat->Nat}{x y:Nat}(h:r x<n+l.length):XQ l n r x y [r x] 0:=
 ⟨fun q hq=> .inl (List.mem_singleton.1 hq),List.mem_singleton.2 rfl,by simp,fun q hq=>by rw[List.mem_singleton.1 hq];exact h,fun j q c h=>by omega⟩
theorem XQ.len {l:List Con}{n:Nat}{r:Nat->Nat}{x y:Nat}{S:List Nat}{i:Nat}(h:XQ l n r x y S i):S.length<=n+l.length:=jV h.nd h.lt
theorem XQ.add {l:List Con}{n:Nat}{r:Nat->Nat}(hcl:Xk l n r)(hok:∀c∈l,OkC n c){x y:Nat}(hx:x<n+l.length){S:List Nat}{i:Nat}(h:XQ l n r x y S i){q:Nat}(hq:S[i]? =some q){c:Con}(hc:c∈l)(hw:QQ c=true)(ha:r c.a.toNat=q)(hlt:r c.b.toNat<n+l.length)(hn:r c.b.toNat∉S):XQ l n r x y (S ++ [r c.b.toNat]) i:=by
 have hqm:=Qx hq;refine⟨fun w hw'=>?_,List.mem_append_left _ h.self, ?_,fun w hw'=>?_,fun j u d hj hu hd hdw hda=>?_⟩
 ·rcases List.mem_append.1 hw' with hw'|hw'
  ·exact h.to w hw'
  ·rw[List.mem_singleton.1 hw'];exact .inr ⟨c.b.toNat,YD (hok c hc) (Zp hw).1,rfl,cd hcl hok hx (h.to q hqm) hc hw ha⟩
 ·rw[List.nodup_append];refine⟨h.nd,by simp,fun a ha b hb=>?_⟩;rw[List.mem_singleton.1 hb];intro e;exact hn (e ▸ ha)
 ·rcases List.mem_append.1 hw' with hw'|hw'
  ·exact h.lt w hw'
  ·rw[List.mem_singleton.1 hw'];exact hlt
 ·have hi:=(Qz hq).1;rw[List.getElem?_append_left (by omega)]at hu;have:=h.done j u d hj hu hd hdw hda;exact⟨List.mem_append_left _ this.1,this.2⟩
theorem XQ.next {l:List Con}{n:Nat}{r:Nat->Nat}{x y:Nat}{S:List Nat}{i:Nat}(h:XQ l n r x y S i){q:Nat}(hq:S[i]? =some q)(hd:∀c∈l,QQ c=true->r c.a.toNat=q->r c.b.toNat∈S/\r c.b.toNat≠r y):XQ l n r x y S (i+1):=
 ⟨h.to,h.self,h.nd,h.lt,fun j u c hj hu hc hw ha=>by
  by_cases e:j=i
  ·subst e;rw[hq]at hu;cases hu;exact hd c hc hw ha
  ·exact h.done j u c (by omega) hu hc hw ha⟩
theorem XQ.hit {l:List Con}{n:Nat}{r:Nat->Nat}(hcl:Xk l n r)(hok:∀c∈l,OkC n c){x y:Nat}(hx:x<n+l.length)(hy:y<n+l.length){S:List Nat}{i:Nat}(h:XQ l n r x y S i){q:Nat}(hq:S[i]? =some q){c:Con}(hc:c∈l)(hw:QQ c=true)(ha:r c.a.toNat=q)(he:r c.b.toNat=r y):Z3 l (Zz l n x) (Zz l n y):=by
 have h1:=cd hcl hok hx (h.to q (Qx hq)) hc hw ha;have hb:=YD (hok c hc) (Zp hw).1;have:=(hcl c.b.toNat y (by omega) hy).1 he;rw[Z5 hb]at this;exact h1.right this
structure X7 (l:List Con)(x:Int)(M:Nat)(F:List (Int×Ty))(j:Nat):Prop where
 asc:Zb F
 cont:∀f∈F,∃c∈l,QY c=true/\VE l c.a x/\c.off=f.1/\Zv l (Q8 l M) c f.2
 has:∀k c,k<j->l[k]? =some c->QY c=true->VE l c.a x->∃t,lkF F c.off=some t
theorem X7.start {l:List Con}{x:Int}{M:Nat}:X7 l x M [] 0:=⟨List.Pairwise.nil,fun f h=>(by cases h),fun k c h=>(by omega)⟩
theorem X7.skip {l:List Con}{x:Int}{M:Nat}{F:List (Int×Ty)}{j:Nat}(h:X7 l x M F j){c:Con}(hc:l[j]? =some c)(hn:¬(QY c=true/\VE l c.a x)):X7 l x M F (j+1):=
 ⟨h.asc,h.cont,fun k e hk he ha hv=>by
  by_cases hx:k=j
  ·subst hx;rw[hc]at he;cases he;exact absurd ⟨ha,hv⟩ hn
  ·exact h.has k e (by omega) he ha hv⟩
theorem X7.old {l:List Con}{x:Int}{M:Nat}{F:List (Int×Ty)}{j:Nat}(h:X7 l x M F j){c:Con}(hc:l[j]? =some c){t:Ty}(ht:lkF F c.off=some t):X7 l x M F (j+1):=
 ⟨h.asc,h.cont,fun k e hk he ha hv=>by
  by_cases hx:k=j
  ·subst hx;rw[hc]at he;cases he;exact⟨t,ht⟩
  ·exact h.has k e (by omega) he ha hv⟩
theorem X7.add {l:List Con}{x:Int}{M:Nat}{F:List (Int×Ty)}{j:Nat}(h:X7 l x M F j){c:Con}(hc:l[j]? =some c)(ha:QY c=true)(hv:VE l c.a x){t:Ty}(hn:∀f∈F,f.1≠c.off)(ht:Zv l (Q8 l M) c t):X7 l x M (XY c.off t F) (j+1):=by
 have hasc:=yx (t:=t) h.asc hn;refine⟨hasc,fun f hf=>?_,fun k e hk he ea ev=>?_⟩
 ·rcases JC.1 hf with rfl|hf
  ·exact⟨c,Qx hc,ha,hv,rfl,ht⟩
  ·exact h.cont f hf
 ·by_cases hx:k=j
  ·subst hx;rw[hc]at he;cases he;exact⟨t,Jk hasc (JC.2 (.inl rfl))⟩
  ·obtain⟨u,hu⟩:=h.has k e (by omega) he ea ev;exact⟨u,Jk hasc (JC.2 (.inr (Vm hu)))⟩
theorem X7.end {l:List Con}{x:Int}{M:Nat}{F:List (Int×Ty)}(h:X7 l x M F l.length)(hs:¬X1 l x):Fields l (Q8 l M) x F:=by
 refine⟨h.asc,fun f hf=>?_,fun c hc ha hv=>?_⟩
 ·obtain⟨c,hc,ha,hv,ho,_⟩:=h.cont f hf;exact⟨c,hc,ha,hv,ho⟩
 ·obtain⟨k,hk⟩:=List.getElem?_of_mem hc;obtain⟨t,ht⟩:=h.has k c (Qz hk).1 hk ha hv;obtain⟨e,he,ea,ev,eo,ec⟩:=h.cont _ (Vm ht);simp only at eo ec;exact⟨t,ht,ec.cell he hc ea ha (ev.trans hv.symm) eo (vZ hs e he c hc ea ha ev hv eo)⟩
theorem wF:∀{F:List (Int×Ty)} {o:Int} {t:Ty} {k:Nat},(∀f∈F.take k,f.1<o)->(∀f,F[k]? =some f->o<f.1)->XY o t F=F.take k ++ (o,t) :: F.drop k
 |[],o,t,k,_,_=>by simp[XY]
 |(p,u) :: F,o,t,0,_,h=>by
  have:=h (p,u) rfl;simp only at this;rw[XY,if_pos this];rfl
 |(p,u) :: F,o,t,k+1,h1,h2=>by
  have:=h1 (p,u) (by simp);simp only at this;rw[XY,if_neg (by omega),wF (fun f hf=>h1 f (by rw[List.take_succ_cons];exact List.mem_cons_of_mem _ hf)) (fun f hf=>h2 f (by simpa using hf))];rfl
theorem nw {S:Ty->Prop}{t:Ty}(ht:Zq t=true)(h:∀s,S s↔s=t):ZG S t:=
 ⟨ht,fun s hs=>by rw[(h s).1 hs];exact JB (QP ht),fun u _ hu=>hu t ((h t).2 rfl)⟩
theorem iW {S:Ty->Prop}(h:∀s,¬S s):ZG S Ty.unk:=⟨xw,fun s hs=>absurd hs (h s),fun u _ _=>Kb u⟩
def KV:Con:=⟨3,0,1,8,4,Ty.unk⟩
def JX:Con:=⟨1,1,0,0,0,Ty.int 4⟩
def XW:List Con:=[KV,JX]
def KW:List Ty:=[Ty.ptr (Ty.str [(8,Ty.int 4)]),Ty.int 4]
def Y2:Con:=⟨2,0,1,0,1,Ty.unk⟩
def Y3:Con:=⟨2,0,1,0,4,Ty.unk⟩
def KJ:List Con:=[Y2,Y3]
def Y4:List Ty:=[Ty.any,Ty.unk]
theorem J4 {c:Con}(h:c∈XW):c=KV\/c=JX:=by simpa [XW] using h
theorem km {c:Con}(h:c∈KJ):c=Y2\/c=Y3:=by simpa [KJ] using h
theorem pP {c:Con}(h:c∈XW)(hw:QQ c=true):c=KV:=by
 rcases J4 h with rfl|rfl
 ·rfl
 ·exact absurd hw (by decide)
theorem bJ {c:Con}(h:c∈KJ)(hw:QQ c=true):c=Y3:=by
 rcases km h with rfl|rfl
 ·exact absurd hw (by decide)
 ·rfl
theorem kG {x y:Int}(h:VE XW x y):x=y:=by
 induction h with
 |refl=>rfl
 |symm _ ih=>exact ih.symm
 |trans _ _ i1 i2=>exact i1.trans i2
 |sub hc hk=>rcases J4 hc with rfl|rfl <;> exact absurd hk (by decide)
 |cell hc he w1 w2 _ _ _=>rw [pP hc w1,pP he w2]
theorem Dm {x y:Int}(h:VE KJ x y):x=y:=by
 induction h with
 |refl=>rfl
 |symm _ ih=>exact ih.symm
 |trans _ _ i1 i2=>exact i1.trans i2
 |sub hc hk=>rcases km hc with rfl|rfl <;> exact absurd hk (by decide)
 |cell hc he w1 w2 _ _ _=>rw [bJ hc w1,bJ he w2]
theorem bV:X2 XW KV (Ty.int 4):=by
 refine nw (by decide) fun s=>?_;constructor
 ·rintro⟨e,he,e3,hs,k,hk,k1,hr,rfl⟩;rcases J4 hk with rfl|rfl
  ·exact absurd k1 (by decide)
  ·rfl
 ·rintro rfl;exact⟨KV,by simp[XW],rfl,⟨by decide,by decide,rfl,.refl _⟩,JX,by simp[XW],rfl,.refl _,rfl⟩
theorem GY {x:Int}(h:Q9 XW x):x=0:=by
 obtain⟨c,hc,ha,hv⟩:=h;rcases J4 hc with rfl|rfl
 ·exact(kG hv).symm
 ·exact absurd ha (by decide)
theorem rx:¬Q9 XW 1:=fun h=>by have:=GY h;omega
theorem oP {x y:Int}(h:Z3 XW x y):x=0:=by
 induction h with
 |one hc hw h1 _=>rw [<-kG h1,pP hc hw];rfl
 |more _ _ _ _ _ ih=>exact ih
theorem iv:¬X1 XW 0:=by
 rintro⟨c,hc,hv,h⟩
 have hca:c=KV:=by
  rcases J4 hc with rfl|rfl
  ·rfl
  ·have:=kG hv;exfalso;revert this;decide
 subst hca;rcases h with h|h|⟨_,e,he,ae,ve,_,hw⟩|⟨_,hr,_⟩|⟨_,_,t,ht,hne⟩
 ·exact absurd h.1 (by decide)
 ·exact absurd h.2 (by decide)
 ·rcases J4 he with rfl|rfl
  ·exact hw rfl
  ·exact absurd ae (by decide)
 ·rcases hr with hr|hr
  ·have:=kG hr;revert this;decide
  ·have:=oP hr;revert this;decide
 ·rw[ht.unique bV]at hne;exact hne (by unfold Xq;rw[if_pos (by decide)];rfl)
theorem t8:J9 XW 2 KW:=by
 refine⟨by decide,fun v t hv=>?_⟩
 match v,hv with
 | 0,hv=>
  obtain rfl:Ty.ptr (Ty.str [(8,Ty.int 4)])=t:=by simpa [KW] using hv
  refine .inl ⟨⟨KV,by simp[XW],by decide,.refl _⟩,1,.inr ⟨iv,[(8,Ty.int 4)],⟨by simp[Zb],fun f hf=>?_,fun c hc ac vc=>?_⟩,by decide⟩⟩
  ·obtain rfl:f=(8,Ty.int 4):=by simpa using hf
   exact⟨KV,by simp[XW],by decide,.refl _,rfl⟩
  ·rcases J4 hc with rfl|rfl
   ·refine⟨Ty.int 4,by decide, ?_⟩;unfold Zv;rw[if_neg (by decide)];exact .inl ⟨rx,bV⟩
   ·exact absurd ac (by decide)
 | 1,hv=>
  obtain rfl:Ty.int 4=t:=by simpa [KW] using hv
  refine .inr ⟨rx,nw (by decide) fun s=>?_⟩;constructor
  ·rintro⟨k,hk,k1,hr,rfl⟩;rcases J4 hk with rfl|rfl
   ·exact absurd k1 (by decide)
   ·rfl
  ·rintro rfl;exact⟨JX,by simp[XW],rfl,.refl _,rfl⟩
 |v+2,hv=>simp [KW]at hv
theorem lz:J9 KJ 2 Y4:=by
 refine⟨by decide,fun v t hv=>?_⟩
 match v,hv with
 |0,hv=>
  obtain rfl:Ty.any=t:=by simpa [Y4] using hv
  exact .inl ⟨⟨Y2,by simp[KJ],by decide,.refl _⟩,1,.inl ⟨⟨Y2,by simp[KJ],.refl _,.inr (.inr (.inl ⟨by decide,Y3,by simp[KJ],by decide,.refl _,rfl,by decide⟩))⟩,rfl⟩⟩
 | 1,hv=>
  obtain rfl:Ty.unk=t:=by simpa [Y4] using hv
  refine .inr ⟨?_,iW fun s=>?_⟩
  ·rintro⟨c,hc,ha,hv⟩;have:=Dm hv;rcases km hc with rfl|rfl <;> revert this <;> decide
  ·rintro⟨k,hk,k1,_⟩;rcases km hk with rfl|rfl <;> exact absurd k1 (by decide)
 |v+2,hv=>simp [Y4]at hv
theorem oY:Xy XW 2=0:=by decide
theorem oM:Xy KJ 2=0:=by decide
theorem GG:ZZ KW=[]:=by decide
theorem GF:ZZ Y4=[0]:=by decide
end Go.Deco
