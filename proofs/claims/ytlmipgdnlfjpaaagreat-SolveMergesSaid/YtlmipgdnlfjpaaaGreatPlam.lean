/- Merged by program from texts of my own. -/
import Derived.Test.YtlmipgdnlfjpaaaGreatBasm
namespace Go.Deco
open Go Go.RowKit
set_option linter.unusedSimpArgs false
set_option linter.unusedVariables false
inductive Ty where
 |mk (kind size count:Int) (elem:List Ty) (fields:List (Int×Ty))
namespace Ty
def kind:Ty→Int|mk k _ _ _ _=>k
def size:Ty→Int|mk _ s _ _ _=>s
def count:Ty→Int|mk _ _ c _ _=>c
def elem:Ty→List Ty|mk _ _ _ e _=>e
def fields:Ty→List (Int×Ty)|mk _ _ _ _ f=>f
end Ty
def i64b (n:Int):Prop:= -9223372036854775808≤n∧n≤9223372036854775807
def fdR (R:Rep Ty):Rep (Int×Ty) where
 size:=R.size+1
 pos:=by omega
 rel w S cs f:=∃r,cs= .int .i64 f.1 :: r∧R.rel w S r f.2∧i64b f.1
 keep hk:=fun⟨r,h1,h2,h3⟩=>⟨r,h1,R.keep hk h2,h3⟩
 mono hk:=fun⟨r,h1,h2,h3⟩=>⟨r,h1,R.mono hk h2,h3⟩
 len:=fun⟨r,h1,h2,_⟩=>by rw[h1,List.length_cons,R.len h2]
 one:=fun⟨r,h1,h2,_⟩ u hu=>by
  rw[h1]at hu;rcases List.mem_cons.1 hu with rfl|hu
  ·rfl
  ·exact R.one h2 u hu
def ty0:Rep Ty:={size:=5,pos:=by omega,rel:=fun _ _ _ _=>False,keep:=fun _ h=>h,mono:=fun _ h=>h,len:=fun h=>h.elim,one:=fun h=>h.elim}
def tyS (R:Rep Ty):Rep Ty where
 size:=5
 pos:=by omega
 rel w S cs t:=∃ve vf,cs=[.int .i64 t.kind,.int .i64 t.size,.int .i64 t.count,ve,vf]∧Sl R w S ve t.elem∧Sl (fdR R) w S vf t.fields∧i64b t.kind∧i64b t.size∧i64b t.count
 keep hk:=fun⟨ve,vf,h1,h2,h3,h4⟩=>⟨ve,vf,h1,h2.keep hk,h3.keep hk,h4⟩
 mono hk:=fun⟨ve,vf,h1,h2,h3,h4⟩=>⟨ve,vf,h1,h2.mono hk,h3.mono hk,h4⟩
 len:=fun⟨ve,vf,h1,_⟩=>by rw[h1];rfl
 one:=fun⟨ve,vf,h1,h2,h3,_⟩ u hu=>by
  obtain⟨A1,c1,rfl,_⟩:=h2.form;obtain⟨A2,c2,rfl,_⟩:=h3.form;rw[h1]at hu;simp at hu;rcases hu with rfl|rfl|rfl|rfl|rfl <;> rfl
def tyR:Nat→Rep Ty
 |0=>ty0
 |d+1=>tyS (tyR d)
theorem tyR_size (d:Nat):(tyR d).size=5:=by cases d <;> rfl
theorem Sl.up {E:Type}{R R':Rep E}(hs:R.size=R'.size)(h:∀w S cs e,R.rel w S cs e→R'.rel w S cs e){w:World}{S:Nat→Prop}{v:Value}{l:List E}(hl:Sl R w S v l):Sl R' w S v l:=by
 obtain⟨A,c,h0,h1,h2,h3,h4⟩:=hl;refine⟨A,c,h0,h1,h2,h3,fun hne=>?_⟩;obtain⟨b,off,hA,hS,hc⟩:=h4 hne;refine⟨b,off,hA,hS,fun k e he=>?_⟩;obtain⟨cs,hr,hg⟩:=hc k e he;exact⟨cs,h _ _ _ _ hr,by rw[←hs];exact hg⟩
theorem tyR_up:∀(d:Nat) (w:World) (S:Nat→Prop) (cs:List Value) (t:Ty),(tyR d).rel w S cs t→(tyR (d+1)).rel w S cs t
 |0,_,_,_,_,h=>h.elim
 |d+1,w,S,cs,t,⟨ve,vf,h1,h2,h3,h4⟩=>by
  have hz:(tyR d).size=(tyR (d+1)).size:=by rw[tyR_size,tyR_size]
  refine⟨ve,vf,h1,Sl.up hz (tyR_up d) h2,Sl.up (R:=fdR (tyR d)) (R':=fdR (tyR (d+1))) (by show(tyR d).size+1=(tyR (d+1)).size+1;rw[hz]) (fun w S cs f ⟨r,k1,k2,k3⟩=>⟨r,k1,tyR_up d _ _ _ _ k2,k3⟩) h3,h4⟩
theorem tyR_le {d d':Nat}(hd:d≤d'):∀(w:World) (S:Nat→Prop) (cs:List Value) (t:Ty),(tyR d).rel w S cs t→(tyR d').rel w S cs t:=by
 induction hd with
 |refl=>exact fun _ _ _ _ h=>h
 |step _ ih=>exact fun w S cs t h=>tyR_up _ w S cs t (ih w S cs t h)
end Go.Deco
namespace Go.Deco
open Go Go.RowKit
set_option linter.unusedSimpArgs false
set_option linter.unusedVariables false
namespace Ty
def unk:Ty:=mk 0 0 0 [] []
def any:Ty:=mk 6 0 0 [] []
def int (s:Int):Ty:=mk 1 s 0 [] []
def uint (s:Int):Ty:=mk 2 s 0 [] []
def ptr (t:Ty):Ty:=mk 3 0 0 [t] []
def arr (t:Ty)(n:Int):Ty:=mk 4 0 n [t] []
def str (l:List (Int×Ty)):Ty:=mk 5 0 0 [] l
end Ty
mutual
def shalT:Ty→Int→Bool
 | .mk _ _ _ e f,n=>decide (1≤n) && (shalE e (n - 1) && shalF f (n - 1))
def shalE:List Ty→Int→Bool
 |[],_=>true
 |t :: l,n=>shalT t n && shalE l n
def shalF:List (Int×Ty)→Int→Bool
 |[],_=>true
 |(_,t) :: l,n=>shalT t n && shalF l n
end
theorem shalE_all:∀(l:List Ty) (n:Int),shalE l n=l.all fun t=>shalT t n
 |[],_=>rfl
 |t :: l,n=>by rw[shalE,shalE_all l n];rfl
theorem shalF_all:∀(l:List (Int×Ty)) (n:Int),shalF l n=l.all fun f=>shalT f.2 n
 |[],_=>rfl
 |(_,t) :: l,n=>by rw[shalF,shalF_all l n];rfl
theorem shalT_eq (t:Ty)(n:Int):shalT t n=(decide (1≤n) && ((t.elem.all fun x=>shalT x (n - 1)) && (t.fields.all fun f=>shalT f.2 (n - 1)))):=by
 cases t with
 |mk k s c e f=>rw [shalT,shalE_all,shalF_all];rfl
mutual
def formT:Ty→Bool
 | .mk k s c e f=>
  if k=0∨k=6 then decide (s=0) && decide (c=0) && e.isEmpty && f.isEmpty
  else if k=1∨k=2 then decide (s=1∨s=2∨s=4) && decide (c=0) && e.isEmpty && f.isEmpty
  else if k=3 then decide (s=0) && decide (c=0) && f.isEmpty && formE e
  else if k=4 then decide (s=0) && decide (1≤c) && decide (c≤65536) && f.isEmpty && formE e
  else if k=5 then decide (s=0) && decide (c=0) && e.isEmpty && formF (-1) f
  else false
def formE:List Ty→Bool
 |[]=>false
 |t :: l=>formT t && l.isEmpty
def formF:Int→List (Int×Ty)→Bool
 |_,[]=>true
 |p,(o,t) :: l=>decide (p<o) && decide (o<65536) && formT t && formF o l
end
theorem formE_one {l:List Ty}(h:formE l=true):∃t,l=[t]∧formT t=true:=by
 match l,h with
 |[t],h=>exact⟨t,rfl,by simpa [formE] using h⟩
 |t :: u :: l,h=>simp [formE]at h
theorem formF_all:∀{l:List (Int×Ty)} {p:Int},formF p l=true→∀f∈l,p<f.1∧f.1<65536∧formT f.2=true
 |[],_,_,f,hf=>by cases hf
 | (o,t) :: l,p,h,f,hf=>by
  simp only[formF,Bool.and_eq_true,decide_eq_true_eq]at h;rcases List.mem_cons.1 hf with rfl|hf
  ·exact⟨h.1.1.1,h.1.1.2,h.1.2⟩
  ·have:=formF_all h.2 f hf;exact⟨by omega,this.2⟩
def AscF (l:List (Int×Ty)):Prop:=l.Pairwise fun a b=>a.1<b.1
theorem formF_asc:∀{l:List (Int×Ty)} {p:Int},formF p l=true→AscF l
 |[],_,_=>List.Pairwise.nil
 |(o,t) :: l,p,h=>by
  simp only[formF,Bool.and_eq_true,decide_eq_true_eq]at h;exact List.pairwise_cons.2 ⟨fun f hf=>(formF_all h.2 f hf).1,formF_asc h.2⟩
theorem formT_cases {t:Ty}(h:formT t=true):
  (t=Ty.unk∨t=Ty.any)∨(∃s,(s=1∨s=2∨s=4)∧(t=Ty.int s∨t=Ty.uint s))∨(∃x,t=Ty.ptr x∧formT x=true)∨
   (∃x n,t=Ty.arr x n∧1≤n∧n≤65536∧formT x=true)∨(∃l,t=Ty.str l∧formF (-1) l=true):=by
 cases t with
 | mk k s c e f=>
  rw[formT]at h
  split at h
  ·rename_i hk
   simp only[Bool.and_eq_true,decide_eq_true_eq,List.isEmpty_iff]at h;obtain⟨⟨⟨rfl,rfl⟩,rfl⟩,rfl⟩:=h;rcases hk with rfl|rfl
   ·exact .inl (.inl rfl)
   ·exact .inl (.inr rfl)
  ·split at h
   ·rename_i hk
    simp only[Bool.and_eq_true,decide_eq_true_eq,List.isEmpty_iff]at h;obtain⟨⟨⟨hs,rfl⟩,rfl⟩,rfl⟩:=h;refine .inr (.inl ⟨s,hs, ?_⟩);rcases hk with rfl|rfl
    ·exact .inl rfl
    ·exact .inr rfl
   ·split at h
    ·rename_i hk
     simp only[Bool.and_eq_true,decide_eq_true_eq,List.isEmpty_iff]at h;obtain⟨⟨⟨rfl,rfl⟩,rfl⟩,he⟩:=h;obtain⟨x,rfl,hx⟩:=formE_one he;subst hk;exact .inr (.inr (.inl ⟨x,rfl,hx⟩))
    ·split at h
     ·rename_i hk
      simp only[Bool.and_eq_true,decide_eq_true_eq,List.isEmpty_iff]at h;obtain⟨⟨⟨⟨rfl,h1⟩,h2⟩,rfl⟩,he⟩:=h;obtain⟨x,rfl,hx⟩:=formE_one he;subst hk;exact .inr (.inr (.inr (.inl ⟨x,c,rfl,h1,h2,hx⟩)))
     ·split at h
      ·rename_i hk
       simp only[Bool.and_eq_true,decide_eq_true_eq,List.isEmpty_iff]at h;obtain⟨⟨⟨rfl,rfl⟩,rfl⟩,he⟩:=h;subst hk;exact .inr (.inr (.inr (.inr ⟨f,rfl,he⟩)))
      ·cases h
mutual
def szT:Ty→Int
 | .mk k s c e f=>min (if k=1∨k=2 then s else if k=3 then 4 else if k=4 then c * szE e else if k=5 then szF 0 f else 0) 65537
def szE:List Ty→Int
 |[]=>0
 |t :: _=>szT t
def szF:Int→List (Int×Ty)→Int
 |n,[]=>n
 |n,(o,t) :: l=>szF (max n (o+szT t)) l
end
theorem szT_le (t:Ty):szT t≤65537:=by
 cases t with
 |mk k s c e f=>rw [szT];omega
theorem szF_step:∀(l:List (Int×Ty)) (n:Int),szF n l=l.foldl (fun n f=>max n (f.1+szT f.2)) n
 |[],_=>rfl
 |(o,t) :: l,n=>by rw[szF,szF_step l];rfl
theorem szF_snoc (l:List (Int×Ty))(n:Int)(f:Int×Ty):szF n (l ++ [f])=max (szF n l) (f.1+szT f.2):=by
 rw[szF_step,szF_step,List.foldl_append];rfl
theorem szF_ge:∀(l:List (Int×Ty)) (n:Int),n≤szF n l
 |[],_=>by rw[szF];omega
 |(o,t) :: l,n=>by rw[szF];have:=szF_ge l (max n (o+szT t));omega
theorem szF_mem:∀(l:List (Int×Ty)) (n:Int) (f:Int×Ty),f∈l→f.1+szT f.2≤szF n l
 |(o,t) :: l,n,f,hf=>by
  rw[szF];rcases List.mem_cons.1 hf with rfl|hf
  ·have:=szF_ge l (max n (o+szT t));simp;omega
  ·exact szF_mem l _ f hf
theorem szF_bound:∀(l:List (Int×Ty)) (n b:Int),n≤b→(∀f∈l,f.1+szT f.2≤b)→szF n l≤b
 |[],_,_,h,_=>h
 |(o,t) :: l,n,b,h,hl=>by
  rw[szF];refine szF_bound l _ b ?_ fun f hf=>hl f (List.mem_cons_of_mem _ hf);have:=hl (o,t) (List.mem_cons_self ..);simp at this;omega
mutual
theorem szT_nonneg:∀(t:Ty),formT t=true→0≤szT t
 | .mk k s c e f,h=>by
  rw[formT]at h;rw[szT]
  split at h
  ·rename_i hk
   rcases hk with rfl|rfl <;> (show(0:Int)≤min 0 65537;decide)
  ·split at h
   ·rename_i hk
    rw[if_pos hk];simp only[Bool.and_eq_true,decide_eq_true_eq]at h;omega
   ·rename_i hk
    rw[if_neg hk]
    split at h
    ·rename_i hk
     rw[if_pos hk];omega
    ·rename_i hk
     rw[if_neg hk]
     split at h
     ·rename_i hk
      rw[if_pos hk];simp only[Bool.and_eq_true,decide_eq_true_eq]at h;have h1:=szE_nonneg e h.2;have h2:=Int.mul_nonneg (show 0≤c by omega) h1;omega
     ·rename_i hk
      rw[if_neg hk]
      split at h
      ·rename_i hk
       rw[if_pos hk];have:=szF_ge f 0;omega
      ·cases h
theorem szE_nonneg:∀(l:List Ty),formE l=true→0≤szE l
 |[],h=>by rw[szE];omega
 |t :: l,h=>by
  rw[szE];rw[formE,Bool.and_eq_true]at h;exact szT_nonneg t h.1
end
theorem sz_int' (s:Int)(h:s=1∨s=2∨s=4):szT (.mk 1 s 0 [] [])=s:=by rcases h with rfl|rfl|rfl <;> decide
theorem sz_uint' (s:Int)(h:s=1∨s=2∨s=4):szT (.mk 2 s 0 [] [])=s:=by rcases h with rfl|rfl|rfl <;> decide
mutual
def wiT:Ty→Bool
 | .mk k s c e f=>decide (f.length≤64) && decide (szT (.mk k s c e f)≤65536) && wiF f && wiE e
def wiE:List Ty→Bool
 |[]=>true
 |t :: l=>wiT t && wiE l
def wiF:List (Int×Ty)→Bool
 |[]=>true
 |(_,t) :: l=>wiT t && wiF l
end
theorem wiE_all:∀(l:List Ty),wiE l=l.all wiT
 |[]=>rfl
 |t :: l=>by rw[wiE,wiE_all l];rfl
theorem wiF_all:∀(l:List (Int×Ty)),wiF l=l.all fun f=>wiT f.2
 |[]=>rfl
 |(_,t) :: l=>by rw[wiF,wiF_all l];rfl
theorem wiT_eq (t:Ty):wiT t=(decide (t.fields.length≤64) && decide (szT t≤65536) && (t.fields.all fun f=>wiT f.2) && t.elem.all wiT):=by
 cases t with
 |mk k s c e f=>rw [wiT,wiE_all,wiF_all];rfl
def chkT (t:Ty):Nat:=if shalT t 64=false then 20 else if formT t=false then 2 else if wiT t=false then 6 else 0
theorem chkT_zero {t:Ty}:chkT t=0↔shalT t 64=true∧formT t=true∧wiT t=true:=by
 unfold chkT;cases shalT t 64 <;> cases formT t <;> cases wiT t <;> simp
def goodT (t:Ty):Bool:=decide (chkT t=0)
theorem goodT_iff {t:Ty}:goodT t=true↔shalT t 64=true∧formT t=true∧wiT t=true:=by
 unfold goodT;rw[decide_eq_true_iff,chkT_zero]
def sizeT (t:Ty):Int:=if goodT t then szT t else 0
mutual
def bnT:Ty→Bool
 | .mk _ _ _ e f=>decide (e.length≤1954687338211) && decide (f.length≤1759218604390) && bnE e && bnF f
def bnE:List Ty→Bool
 |[]=>true
 |t :: l=>bnT t && bnE l
def bnF:List (Int×Ty)→Bool
 |[]=>true
 |(_,t) :: l=>bnT t && bnF l
end
theorem bnE_mem:∀{l:List Ty},bnE l=true→∀t∈l,bnT t=true
 |t :: l,h,x,hx=>by
  rw[bnE,Bool.and_eq_true]at h;rcases List.mem_cons.1 hx with rfl|hx
  ·exact h.1
  ·exact bnE_mem h.2 x hx
theorem bnF_mem:∀{l:List (Int×Ty)},bnF l=true→∀f∈l,bnT f.2=true
 |(_,t) :: l,h,x,hx=>by
  rw[bnF,Bool.and_eq_true]at h;rcases List.mem_cons.1 hx with rfl|hx
  ·exact h.1
  ·exact bnF_mem h.2 x hx
theorem bnT_parts {t:Ty}(h:bnT t=true):t.elem.length≤1954687338211∧t.fields.length≤1759218604390∧(∀x∈t.elem,bnT x=true)∧∀f∈t.fields,bnT f.2=true:=by
 obtain⟨k,s,c,e,f⟩:=t;rw[bnT]at h;simp only[Bool.and_eq_true,decide_eq_true_eq]at h;exact⟨h.1.1.1,h.1.1.2,bnE_mem h.1.2,bnF_mem h.2⟩
mutual
theorem bn_good:∀(t:Ty),formT t=true→wiT t=true→bnT t=true
 | .mk k s c e f,h,hw=>by
  rw[wiT]at hw;simp only[Bool.and_eq_true,decide_eq_true_eq]at hw
  have hl:e.length≤1∧(e=[]∨formE e=true)∧(f=[]∨∃p,formF p f=true):=by
   rcases formT_cases h with(h|h)|⟨s,hs,(h|h)⟩|⟨x,h,hx⟩|⟨x,m,h,hm1,hm2,hx⟩|⟨l,h,hl⟩
   all_goals (simp only[Ty.unk,Ty.any,Ty.int,Ty.uint,Ty.ptr,Ty.arr,Ty.str]at h;injection h with h1 h2 h3 h4 h5;subst h4 h5)
   ·exact⟨by simp,.inl rfl,.inl rfl⟩
   ·exact⟨by simp,.inl rfl,.inl rfl⟩
   ·exact⟨by simp,.inl rfl,.inl rfl⟩
   ·exact⟨by simp,.inl rfl,.inl rfl⟩
   ·exact⟨by simp,.inr (by simp[formE,hx]),.inl rfl⟩
   ·exact⟨by simp,.inr (by simp[formE,hx]),.inl rfl⟩
   ·exact⟨by simp,.inl rfl,.inr ⟨-1,hl⟩⟩
  rw[bnT]
  have h1:bnE e=true:=by
   rcases hl.2.1 with h|h
   ·rw[h];rfl
   ·exact bn_goodE e h hw.2
  have h2:bnF f=true:=by
   rcases hl.2.2 with h|⟨p,h⟩
   ·rw[h];rfl
   ·exact bn_goodF f p h hw.1.2
  rw[h1,h2];have:=hw.1.1.1;have:=hl.1;simp;omega
theorem bn_goodE:∀(l:List Ty),formE l=true→wiE l=true→bnE l=true
 |[],_,_=>rfl
 |t :: l,h,hw=>by
  rw[formE,Bool.and_eq_true]at h;rw[wiE,Bool.and_eq_true]at hw;have hl:l=[]:=by simpa using h.2
  rw[bnE,bn_good t h.1 hw.1,hl];rfl
theorem bn_goodF:∀(l:List (Int×Ty)) (p:Int),formF p l=true→wiF l=true→bnF l=true
 |[],_,_,_=>rfl
 |(o,t) :: l,p,h,hw=>by
  rw[formF]at h;simp only[Bool.and_eq_true,decide_eq_true_eq]at h;rw[wiF,Bool.and_eq_true]at hw;rw[bnF,bn_good t h.1.2 hw.1,bn_goodF l o h.2 hw.2];rfl
end
theorem bn_of_good {t:Ty}(h:goodT t=true):bnT t=true:=bn_good t (goodT_iff.1 h).2.1 (goodT_iff.1 h).2.2
mutual
def sameT:Ty→Ty→Bool
 | .mk k s c e f,.mk k' s' c' e' f'=>decide (k=k') && decide (s=s') && decide (c=c') && sameE e e' && sameF f f'
def sameE:List Ty→List Ty→Bool
 |[],[]=>true
 |t :: l,t' :: l'=>sameT t t' && sameE l l'
 |_,_=>false
def sameF:List (Int×Ty)→List (Int×Ty)→Bool
 |[],[]=>true
 |(o,t) :: l,(o',t') :: l'=>decide (o=o') && sameT t t' && sameF l l'
 |_,_=>false
end
mutual
theorem sameT_iff:∀(a b:Ty),sameT a b=true↔a=b
 | .mk k s c e f,.mk k' s' c' e' f'=>by
  rw[sameT];simp only[Bool.and_eq_true,decide_eq_true_eq,sameE_iff e e',sameF_iff f f',Ty.mk.injEq,and_assoc]
theorem sameE_iff:∀(a b:List Ty),sameE a b=true↔a=b
 |[],[]=>by simp[sameE]
 |t :: l,t' :: l'=>by rw[sameE,Bool.and_eq_true,sameT_iff t t',sameE_iff l l',List.cons.injEq]
 |[],_ :: _=>by simp[sameE]
 |_ :: _,[]=>by simp[sameE]
theorem sameF_iff:∀(a b:List (Int×Ty)),sameF a b=true↔a=b
 |[],[]=>by simp[sameF]
 |(o,t) :: l,(o',t') :: l'=>by rw[sameF,Bool.and_eq_true,Bool.and_eq_true,decide_eq_true_eq,sameT_iff t t',sameF_iff l l',List.cons.injEq,Prod.mk.injEq]
 |[],_ :: _=>by simp[sameF]
 |_ :: _,[]=>by simp[sameF]
end
instance:DecidableEq Ty:=fun a b=>decidable_of_iff _ (sameT_iff a b)
mutual
def faT:Ty→Int→Int→Option Ty
 | .mk k s c e f,off,wd=>
  if k=0∨k=6 then (if 0≤off then some (.mk k s c e f) else none)
  else if k=1∨k=2∨k=3 then (if off=0∧wd=szT (.mk k s c e f) then some (.mk k s c e f) else none)
  else if k=4 then (if off<0∨szT (.mk k s c e f)≤off then none else faE e off wd)
  else if off<0 then none else faF f off wd
def faE:List Ty→Int→Int→Option Ty
 |[],_,_=>none
 |t :: _,off,wd=>faT t (off % szT t) wd
def faF:List (Int×Ty)→Int→Int→Option Ty
 |[],_,_=>none
 |(o,t) :: l,off,wd=>match faF l off wd with
  |some x=>some x
  |none=>faT t (off - o) wd
end
theorem faT_neg:∀(t:Ty) {off wd:Int},off<0→faT t off wd=none
 | .mk k s c e f,off,wd,h=>by
  rw[faT]
  split
  ·rw[if_neg (by omega)]
  ·split
   ·rw[if_neg (by omega)]
   ·split
    ·rw[if_pos (by omega)]
    ·first
      |rfl
      |rw[if_pos h]
def fieldT (t:Ty)(off wd:Int):Option Ty:=if goodT t=true∧(wd=1∨wd=2∨wd=4) then faT t off wd else none
end Go.Deco
namespace Go.Deco
open Go Go.RowKit
set_option linter.unusedSimpArgs false
set_option linter.unusedVariables false
def lkF:List (Int×Ty)→Int→Option Ty
 |[],_=>none
 |(o,t) :: l,n=>if o=n then some t else lkF l n
theorem lkF_mem:∀{l:List (Int×Ty)} {n:Int} {t:Ty},lkF l n=some t→(n,t)∈l
 |(o,u) :: l,n,t,h=>by
  rw[lkF]at h
  split at h
  ·cases h;subst_vars;exact List.mem_cons_self ..
  ·exact List.mem_cons_of_mem _ (lkF_mem h)
theorem lkF_none:∀{l:List (Int×Ty)} {n:Int},(∀f∈l,f.1≠n)→lkF l n=none
 |[],_,_=>rfl
 |(o,u) :: l,n,h=>by
  rw[lkF,if_neg (h (o,u) (List.mem_cons_self ..)),lkF_none fun f hf=>h f (List.mem_cons_of_mem _ hf)]
theorem lkF_of_mem:∀{l:List (Int×Ty)} {n:Int} {t:Ty},AscF l→(n,t)∈l→lkF l n=some t
 | (o,u) :: l,n,t,ha,h=>by
  have ha:=List.pairwise_cons.1 ha;rw[lkF];rcases List.mem_cons.1 h with e|h
  ·cases e;rw[if_pos rfl]
  ·have:=ha.1 _ h;simp only at this;rw[if_neg (by omega),lkF_of_mem ha.2 h]
theorem lkF_ext:∀{l m:List (Int×Ty)},AscF l→AscF m→(∀n,lkF l n=lkF m n)→l=m
 |[],[],_,_,_=>rfl
 |[],(o,u) :: m,_,_,h=>by have:=h o;simp[lkF]at this
 |(o,u) :: l,[],_,_,h=>by have:=h o;simp[lkF]at this
 | (o,u) :: l,(o',u') :: m,hl,hm,h=>by
  have hl':=List.pairwise_cons.1 hl;have hm':=List.pairwise_cons.1 hm
  have e:o=o':=by
   have h1:=h o;have h2:=h o';simp only[lkF,if_true]at h1 h2;by_cases e:o=o'
   ·exact e
   ·rw[if_neg (fun e'=>e e'.symm)]at h1;rw[if_neg e]at h2;have k1:=hm'.1 _ (lkF_mem h1.symm);have k2:=hl'.1 _ (lkF_mem h2);simp only at k1 k2;omega
  subst e
  have hu:u=u':=by
   have:=h o;simpa [lkF] using this
  subst hu;rw[lkF_ext hl'.2 hm'.2 fun n=>?_];by_cases e:o=n
  ·subst e;rw[lkF_none fun f hf=>?_,lkF_none fun f hf=>?_]
   ·have:=hm'.1 f hf;omega
   ·have:=hl'.1 f hf;omega
  ·have:=h n;simpa [lkF,e] using this
mutual
def subT:Ty→Ty→Bool
 | .mk k s c e f,b=>
  if k=0∨b.kind=6 then true else if k≠b.kind then false
  else if k=1∨k=2 then decide (s=b.size)
  else if k=3 then subE e b.elem
  else if k=4 then decide (b.count≤c) && subE e b.elem
  else b.fields.all fun g=>subF f g.1 g.2
def subE:List Ty→List Ty→Bool
 |t :: _,u :: _=>subT t u
 |_,_=>true
def subF:List (Int×Ty)→Int→Ty→Bool
 |[],_,_=>false
 |(o,t) :: l,n,u=>if o=n then subT t u else subF l n u
end
theorem subF_lk:∀(l:List (Int×Ty)) (n:Int) (u:Ty),subF l n u=true↔∃t,lkF l n=some t∧subT t u=true
 |[],n,u=>by simp[subF,lkF]
 |(o,t) :: l,n,u=>by
  rw[subF,lkF]
  split
  ·simp
  ·exact subF_lk l n u
def subG (a b:Ty):Bool:=goodT a && goodT b && subT a b
mutual
def joinT:Ty→Ty→Ty
 | .mk k s c e f,b=>
  if k=0 then b else if b.kind=0 then .mk k s c e f
  else if k≠b.kind∨k=6∨s≠b.size then Ty.any
  else if k=3 then .mk 3 0 0 (joinE e b.elem) []
  else if k=4 then .mk 4 0 (min c b.count) (joinE e b.elem) []
  else if k=5 then .mk 5 0 0 [] (joinF f b.fields)
  else .mk k s c e f
def joinE:List Ty→List Ty→List Ty
 |t :: _,u :: _=>[joinT t u]
 |_,_=>[]
def joinF:List (Int×Ty)→List (Int×Ty)→List (Int×Ty)
 |[],_=>[]
 |(o,t) :: l,r=>match lkF r o with
  |some u=>(o,joinT t u) :: joinF l r
  |none=>joinF l r
end
def joinG (a b:Ty):Ty:=if goodT a∧goodT b then joinT a b else Ty.any
theorem lkF_join:∀{l r:List (Int×Ty)} (_:AscF l) (n:Int),lkF (joinF l r) n=match lkF l n,lkF r n with
  |some t,some u=>some (joinT t u)
  |_,_=>none
 |[],r,_,n=>by simp[joinF,lkF]
 | (o,t) :: l,r,ha,n=>by
  have ha:=List.pairwise_cons.1 ha;rw[joinF];have ih:=lkF_join (r:=r) ha.2 n;by_cases e:o=n
  ·subst e;have hn:lkF l o=none:=lkF_none fun f hf=>by have:=ha.1 f hf;simp only at this;omega
   rw[hn]at ih
   cases hr:lkF r o with
   |none=>simp only;rw[ih];simp[lkF]
   |some u=>simp [lkF]
  ·cases hr:lkF r o with
   |none=>simp only;rw[ih,lkF,if_neg e]
   |some u=>simp only;rw[lkF,if_neg e,ih,lkF,if_neg e]
theorem joinF_mem:∀{l r:List (Int×Ty)} {f:Int×Ty},f∈joinF l r→∃t u,(f.1,t)∈l∧lkF r f.1=some u∧f.2=joinT t u
 | (o,t) :: l,r,f,h=>by
  rw[joinF]at h
  cases hr:lkF r o with
  |none=>
   rw[hr]at h;obtain⟨t',u,h1,h2⟩:=joinF_mem h;exact⟨t',u,List.mem_cons_of_mem _ h1,h2⟩
  | some u=>
   rw[hr]at h;rcases List.mem_cons.1 h with rfl|h
   ·exact⟨t,u,List.mem_cons_self ..,hr,rfl⟩
   ·obtain⟨t',u,h1,h2⟩:=joinF_mem h;exact⟨t',u,List.mem_cons_of_mem _ h1,h2⟩
theorem joinF_len:∀(l r:List (Int×Ty)),(joinF l r).length≤l.length
 |[],_=>by simp[joinF]
 |(o,t) :: l,r=>by
  have:=joinF_len l r;rw[joinF]
  split
  ·simp;omega
  ·simp;omega
theorem formF_of:∀{l:List (Int×Ty)} {p:Int},AscF l→(∀f∈l,p<f.1∧f.1<65536∧formT f.2=true)→formF p l=true
 |[],_,_,_=>rfl
 |(o,t) :: l,p,ha,h=>by
  have ha:=List.pairwise_cons.1 ha;have h0:=h (o,t) (List.mem_cons_self ..);rw[formF];simp only[Bool.and_eq_true,decide_eq_true_eq];exact⟨⟨⟨h0.1,h0.2.1⟩,h0.2.2⟩,formF_of ha.2 fun f hf=>⟨ha.1 f hf,(h f (List.mem_cons_of_mem _ hf)).2⟩⟩
theorem joinF_asc:∀{l:List (Int×Ty)} (r:List (Int×Ty)),AscF l→AscF (joinF l r)
 |[],_,_=>by rw[joinF];exact List.Pairwise.nil
 | (o,t) :: l,r,ha=>by
  have ha:=List.pairwise_cons.1 ha;rw[joinF]
  split
  ·refine List.pairwise_cons.2 ⟨fun f hf=>?_,joinF_asc r ha.2⟩;obtain⟨t',u,h1,_⟩:=joinF_mem hf;exact ha.1 (f.1,t') h1
  ·exact joinF_asc r ha.2
mutual
def szN:Ty→Nat
 | .mk _ _ _ e f=>1+szNE e+szNF f
def szNE:List Ty→Nat
 |[]=>0
 |t :: l=>szN t+szNE l
def szNF:List (Int×Ty)→Nat
 |[]=>0
 |(_,t) :: l=>szN t+szNF l
end
theorem szN_lk:∀{l:List (Int×Ty)} {n:Int} {t:Ty},lkF l n=some t→szN t≤szNF l
 |(o,u) :: l,n,t,h=>by
  rw[lkF]at h;rw[szNF]
  split at h
  ·cases h;omega
  ·have:=szN_lk h;omega
theorem szN_mem:∀{l:List (Int×Ty)} {f:Int×Ty},f∈l→szN f.2≤szNF l
 |(o,u) :: l,f,h=>by
  rw[szNF];rcases List.mem_cons.1 h with rfl|h
  ·simp
  ·have:=szN_mem h;omega
theorem sub_unk (b:Ty):subT Ty.unk b=true:=by simp[Ty.unk,subT]
theorem sub_any (a:Ty):subT a Ty.any=true:=by cases a;simp[Ty.any,subT,Ty.kind]
theorem sub_ptr (a b:Ty):subT (Ty.ptr a) (Ty.ptr b)=subT a b:=by simp[Ty.ptr,subT,subE,Ty.kind,Ty.elem]
theorem sub_arr (a b:Ty)(n m:Int):subT (Ty.arr a n) (Ty.arr b m)=(decide (m≤n) && subT a b):=by simp[Ty.arr,subT,subE,Ty.kind,Ty.elem,Ty.count];try rfl
theorem sub_int (s s':Int):subT (Ty.int s) (Ty.int s')=decide (s=s'):=by
 unfold Ty.int;rw[subT,if_neg (by simp[Ty.kind]),if_neg (by simp[Ty.kind]),if_pos (by simp)];rfl
theorem sub_uint (s s':Int):subT (Ty.uint s) (Ty.uint s')=decide (s=s'):=by
 unfold Ty.uint;rw[subT,if_neg (by simp[Ty.kind]),if_neg (by simp[Ty.kind]),if_pos (by simp)];rfl
theorem sub_str (f g:List (Int×Ty)):subT (Ty.str f) (Ty.str g)=g.all fun x=>subF f x.1 x.2:=by simp[Ty.str,subT,Ty.kind,Ty.fields]
theorem sub_str_iff {f g:List (Int×Ty)}(hg:AscF g):subT (Ty.str f) (Ty.str g)=true↔∀n u,lkF g n=some u→∃t,lkF f n=some t∧subT t u=true:=by
 rw[sub_str,List.all_eq_true];constructor
 ·intro h n u hu;exact(subF_lk f n u).1 (h (n,u) (lkF_mem hu))
 ·intro h x hx;exact(subF_lk f x.1 x.2).2 (h x.1 x.2 (lkF_of_mem hg hx))
theorem join_ptr (a b:Ty):joinT (Ty.ptr a) (Ty.ptr b)=Ty.ptr (joinT a b):=by simp[Ty.ptr,joinT,joinE,Ty.kind,Ty.elem,Ty.size]
theorem join_arr (a b:Ty)(n m:Int):joinT (Ty.arr a n) (Ty.arr b m)=Ty.arr (joinT a b) (min n m):=by simp[Ty.arr,joinT,joinE,Ty.kind,Ty.elem,Ty.size,Ty.count]
theorem join_str (f g:List (Int×Ty)):joinT (Ty.str f) (Ty.str g)=Ty.str (joinF f g):=by simp[Ty.str,joinT,Ty.kind,Ty.fields,Ty.size]
theorem join_unk (b:Ty):joinT Ty.unk b=b:=by simp[Ty.unk,joinT]
theorem join_unk_r {a:Ty}(h:formT a=true):joinT a Ty.unk=a:=by
 rcases formT_cases h with(rfl|rfl)|⟨s,hs,(rfl|rfl)⟩|⟨x,rfl,hx⟩|⟨x,n,rfl,h1,h2,hx⟩|⟨l,rfl,hl⟩ <;> simp[joinT,Ty.unk,Ty.any,Ty.int,Ty.uint,Ty.ptr,Ty.arr,Ty.str,Ty.kind]
def WholeT (t:Ty):Prop:=∃s:Int,t=Ty.int s∨t=Ty.uint s
def FldSub (f g:List (Int×Ty)):Prop:=∀n u,lkF g n=some u→∃t,lkF f n=some t∧subT t u=true
theorem sub_inv {a b:Ty}(ha:formT a=true)(hb:formT b=true)(h:subT a b=true):a=Ty.unk∨b=Ty.any∨(a=b∧WholeT a)∨(∃x y,a=Ty.ptr x∧b=Ty.ptr y∧subT x y=true)∨
  (∃x y n m,a=Ty.arr x n∧b=Ty.arr y m∧m≤n∧subT x y=true)∨∃f g,a=Ty.str f∧b=Ty.str g∧FldSub f g:=by
 rcases formT_cases ha with(rfl|rfl)|⟨s,hs,(rfl|rfl)⟩|⟨x,rfl,hx⟩|⟨x,n,rfl,h1,h2,hx⟩|⟨l,rfl,hl⟩
 ·exact .inl rfl
 ·rcases formT_cases hb with(rfl|rfl)|⟨s',hs',(rfl|rfl)⟩|⟨x',rfl,hx'⟩|⟨x',n',rfl,h1',h2',hx'⟩|⟨l',rfl,hl'⟩
  ·simp[subT,Ty.any,Ty.unk,Ty.kind]at h
  ·exact .inr (.inl rfl)
  all_goals simp[subT,Ty.any,Ty.int,Ty.uint,Ty.ptr,Ty.arr,Ty.str,Ty.kind]at h
 ·rcases formT_cases hb with(rfl|rfl)|⟨s',hs',(rfl|rfl)⟩|⟨x',rfl,hx'⟩|⟨x',n',rfl,h1',h2',hx'⟩|⟨l',rfl,hl'⟩
  ·simp[subT,Ty.int,Ty.unk,Ty.kind]at h
  ·exact .inr (.inl rfl)
  ·rw[sub_int,decide_eq_true_eq]at h;subst h;exact .inr (.inr (.inl ⟨rfl,s,.inl rfl⟩))
  all_goals simp[subT,Ty.any,Ty.int,Ty.uint,Ty.ptr,Ty.arr,Ty.str,Ty.kind]at h
 ·rcases formT_cases hb with(rfl|rfl)|⟨s',hs',(rfl|rfl)⟩|⟨x',rfl,hx'⟩|⟨x',n',rfl,h1',h2',hx'⟩|⟨l',rfl,hl'⟩
  ·simp[subT,Ty.uint,Ty.unk,Ty.kind]at h
  ·exact .inr (.inl rfl)
  ·simp[subT,Ty.int,Ty.uint,Ty.kind,Ty.size]at h
  ·rw[sub_uint,decide_eq_true_eq]at h;subst h;exact .inr (.inr (.inl ⟨rfl,s,.inr rfl⟩))
  all_goals simp[subT,Ty.any,Ty.int,Ty.uint,Ty.ptr,Ty.arr,Ty.str,Ty.kind]at h
 ·rcases formT_cases hb with(rfl|rfl)|⟨s',hs',(rfl|rfl)⟩|⟨x',rfl,hx'⟩|⟨x',n',rfl,h1',h2',hx'⟩|⟨l',rfl,hl'⟩
  ·simp[subT,Ty.ptr,Ty.unk,Ty.kind]at h
  ·exact .inr (.inl rfl)
  ·simp[subT,Ty.int,Ty.ptr,Ty.kind,Ty.size]at h
  ·simp[subT,Ty.uint,Ty.ptr,Ty.kind,Ty.size]at h
  ·exact .inr (.inr (.inr (.inl ⟨x,x',rfl,rfl,by rwa [sub_ptr]at h⟩)))
  all_goals simp[subT,Ty.any,Ty.int,Ty.uint,Ty.ptr,Ty.arr,Ty.str,Ty.kind]at h
 ·rcases formT_cases hb with(rfl|rfl)|⟨s',hs',(rfl|rfl)⟩|⟨x',rfl,hx'⟩|⟨x',n',rfl,h1',h2',hx'⟩|⟨l',rfl,hl'⟩
  ·simp[subT,Ty.arr,Ty.unk,Ty.kind]at h
  ·exact .inr (.inl rfl)
  ·simp[subT,Ty.int,Ty.arr,Ty.kind,Ty.size]at h
  ·simp[subT,Ty.uint,Ty.arr,Ty.kind,Ty.size]at h
  ·simp[subT,Ty.ptr,Ty.arr,Ty.kind,Ty.size]at h
  ·rw[sub_arr,Bool.and_eq_true,decide_eq_true_eq]at h;exact .inr (.inr (.inr (.inr (.inl ⟨x,x',n,n',rfl,rfl,h.1,h.2⟩))))
  all_goals simp[subT,Ty.any,Ty.int,Ty.uint,Ty.ptr,Ty.arr,Ty.str,Ty.kind]at h
 ·rcases formT_cases hb with(rfl|rfl)|⟨s',hs',(rfl|rfl)⟩|⟨x',rfl,hx'⟩|⟨x',n',rfl,h1',h2',hx'⟩|⟨l',rfl,hl'⟩
  ·simp[subT,Ty.str,Ty.unk,Ty.kind]at h
  ·exact .inr (.inl rfl)
  ·simp[subT,Ty.int,Ty.str,Ty.kind,Ty.size]at h
  ·simp[subT,Ty.uint,Ty.str,Ty.kind,Ty.size]at h
  ·simp[subT,Ty.ptr,Ty.str,Ty.kind,Ty.size]at h
  ·simp[subT,Ty.arr,Ty.str,Ty.kind,Ty.size]at h
  ·exact .inr (.inr (.inr (.inr (.inr ⟨l,l',rfl,rfl,(sub_str_iff (formF_asc hl')).1 h⟩))))
theorem form_ptr {x:Ty}:formT (Ty.ptr x)=formT x:=by simp[Ty.ptr,formT,formE]
theorem form_arr {x:Ty}{n:Int}:formT (Ty.arr x n)=(decide (1≤n) && decide (n≤65536) && formT x):=by simp[Ty.arr,formT,formE]
theorem form_str {l:List (Int×Ty)}:formT (Ty.str l)=formF (-1) l:=by simp[Ty.str,formT]
theorem form_any:formT Ty.any=true:=rfl
theorem form_unk:formT Ty.unk=true:=rfl
theorem szN_ptr (x:Ty):szN (Ty.ptr x)=1+szN x:=by simp[Ty.ptr,szN,szNE,szNF]
theorem szN_arr (x:Ty)(n:Int):szN (Ty.arr x n)=1+szN x:=by simp[Ty.arr,szN,szNE,szNF]
theorem szN_str (l:List (Int×Ty)):szN (Ty.str l)=1+szNF l:=by simp[Ty.str,szN,szNE]
theorem form_lk {l:List (Int×Ty)}{p n:Int}{t:Ty}(h:formF p l=true)(ht:lkF l n=some t):formT t=true:=(formF_all h (n,t) (lkF_mem ht)).2.2
theorem sub_whole {a:Ty}(h:WholeT a):subT a a=true:=by
 obtain⟨s,rfl|rfl⟩:=h
 ·simp[subT,Ty.int,Ty.kind,Ty.size]
 ·simp[subT,Ty.uint,Ty.kind,Ty.size]
theorem sub_refl:∀(n:Nat) {a:Ty},szN a≤n→formT a=true→subT a a=true
 |0,a,h,_=>by cases a;rw[szN]at h;omega
 | n+1,a,h,hf=>by
  rcases formT_cases hf with(rfl|rfl)|⟨s,hs,h0⟩|⟨x,rfl,hx⟩|⟨x,m,rfl,h1,h2,hx⟩|⟨l,rfl,hl⟩
  ·exact sub_unk _
  ·exact sub_any _
  ·exact sub_whole ⟨s,h0⟩
  ·rw[szN_ptr]at h;rw[sub_ptr];exact sub_refl n (by omega) hx
  ·rw[szN_arr]at h;rw[sub_arr,sub_refl n (by omega) hx];simp
  ·rw[szN_str]at h;refine(sub_str_iff (formF_asc hl)).2 fun o u hu=>⟨u,hu, ?_⟩;have:=szN_lk hu;exact sub_refl n (by omega) (form_lk hl hu)
theorem subT_refl {a:Ty}(h:formT a=true):subT a a=true:=sub_refl _ (Nat.le_refl _) h
theorem unk_inj {b:Ty}(hb:formT b=true)(h:subT b Ty.unk=true):b=Ty.unk:=by
 rcases sub_inv hb form_unk h with h|h|⟨rfl,s,h|h⟩|⟨x,y,h1,h2,_⟩|⟨x,y,n,m,h1,h2,_⟩|⟨f,g,h1,h2,_⟩
 ·exact h
 ·cases h
 ·cases h
 ·cases h
 ·cases h2
 ·cases h2
 ·cases h2
theorem any_inj {b:Ty}(hb:formT b=true)(h:subT Ty.any b=true):b=Ty.any:=by
 rcases sub_inv form_any hb h with h|h|⟨h,s,h'|h'⟩|⟨x,y,h1,h2,_⟩|⟨x,y,n,m,h1,h2,_⟩|⟨f,g,h1,h2,_⟩
 ·cases h
 ·exact h
 ·cases h'
 ·cases h'
 ·cases h1
 ·cases h1
 ·cases h1
theorem sub_trans:∀(k:Nat) {a b c:Ty},szN a≤k→formT a=true→formT b=true→formT c=true→subT a b=true→subT b c=true→subT a c=true
 |0,a,_,_,h,_,_,_,_,_=>by cases a;rw[szN]at h;omega
 | k+1,a,b,c,h,ha,hb,hc,h1,h2=>by
  rcases sub_inv ha hb h1 with rfl|rfl|⟨rfl,hw⟩|⟨x,y,rfl,rfl,hs⟩|⟨x,y,n,m,rfl,rfl,hm,hs⟩|⟨f,g,rfl,rfl,hs⟩
  ·exact sub_unk _
  ·rw[any_inj hc h2];exact sub_any _
  ·exact h2
  ·rcases sub_inv hb hc h2 with e|rfl|⟨rfl,_⟩|⟨x',y',e,rfl,hs'⟩|⟨x',y',n',m',e,rfl,hm',hs'⟩|⟨f',g',e,rfl,hs'⟩
   ·cases e
   ·exact sub_any _
   ·exact h1
   ·injection e with _ _ _ e _
    injection e with e _
    subst e;rw[szN_ptr]at h;rw[sub_ptr];rw[form_ptr]at ha hb hc;exact sub_trans k (by omega) ha hb hc hs hs'
   ·cases e
   ·cases e
  ·rcases sub_inv hb hc h2 with e|rfl|⟨rfl,_⟩|⟨x',y',e,rfl,hs'⟩|⟨x',y',n',m',e,rfl,hm',hs'⟩|⟨f',g',e,rfl,hs'⟩
   ·cases e
   ·exact sub_any _
   ·exact h1
   ·cases e
   ·injection e with _ _ e' e _
    injection e with e _
    subst e e';rw[szN_arr]at h;rw[sub_arr,Bool.and_eq_true,decide_eq_true_eq];rw[form_arr]at ha hb hc;simp only[Bool.and_eq_true]at ha hb hc;exact⟨by omega,sub_trans k (by omega) ha.2 hb.2 hc.2 hs hs'⟩
   ·cases e
  ·rcases sub_inv hb hc h2 with e|rfl|⟨rfl,_⟩|⟨x',y',e,rfl,hs'⟩|⟨x',y',n',m',e,rfl,hm',hs'⟩|⟨f',g',e,rfl,hs'⟩
   ·cases e
   ·exact sub_any _
   ·exact h1
   ·cases e
   ·cases e
   ·injection e with _ _ _ _ e
    subst e;rw[szN_str]at h;rw[form_str]at ha hb hc;refine(sub_str_iff (formF_asc hc)).2 fun o u hu=>?_;obtain⟨t,ht,hst⟩:=hs' o u hu;obtain⟨r,hr,hrt⟩:=hs o t ht;have:=szN_lk hr;exact⟨r,hr,sub_trans k (by omega) (form_lk ha hr) (form_lk hb ht) (form_lk hc hu) hrt hst⟩
theorem subT_trans {a b c:Ty}(ha:formT a=true)(hb:formT b=true)(hc:formT c=true)(h1:subT a b=true)(h2:subT b c=true):subT a c=true:=sub_trans _ (Nat.le_refl _) ha hb hc h1 h2
theorem sub_anti:∀(k:Nat) {a b:Ty},szN a≤k→formT a=true→formT b=true→subT a b=true→subT b a=true→a=b
 |0,a,_,h,_,_,_,_=>by cases a;rw[szN]at h;omega
 | k +1,a,b,h,ha,hb,h1,h2=>by
  rcases sub_inv ha hb h1 with rfl|rfl|⟨rfl,hw⟩|⟨x,y,rfl,rfl,hs⟩|⟨x,y,n,m,rfl,rfl,hm,hs⟩|⟨f,g,rfl,rfl,hs⟩
  ·exact(unk_inj hb h2).symm
  ·exact any_inj ha h2
  ·rfl
  ·rw[sub_ptr]at h2;rw[szN_ptr]at h;rw[form_ptr]at ha hb;rw[sub_anti k (by omega) ha hb hs h2]
  ·rw[sub_arr,Bool.and_eq_true,decide_eq_true_eq]at h2;rw[szN_arr]at h;rw[form_arr]at ha hb;simp only[Bool.and_eq_true]at ha hb;rw[sub_anti k (by omega) ha.2 hb.2 hs h2.2,show n=m by omega]
  ·rw[szN_str]at h;rw[form_str]at ha hb;have hs2:=(sub_str_iff (formF_asc ha)).1 h2;rw[lkF_ext (formF_asc ha) (formF_asc hb) fun o=>?_]
   cases e:lkF f o with
   | none=>
    cases e2:lkF g o with
    |none=>rfl
    |some u=>
     obtain⟨t,ht,_⟩:=hs o u e2;rw[e]at ht;cases ht
   |some t=>
    obtain⟨u,hu,h3⟩:=hs2 o t e;obtain⟨t',ht',h4⟩:=hs o u hu;rw[e]at ht';cases ht';have:=szN_lk e;rw[hu,sub_anti k (by omega) (form_lk ha e) (form_lk hb hu) h4 h3]
theorem subT_anti {a b:Ty}(ha:formT a=true)(hb:formT b=true)(h1:subT a b=true)(h2:subT b a=true):a=b:=sub_anti _ (Nat.le_refl _) ha hb h1 h2
theorem join_inv {a b:Ty}(ha:formT a=true)(hb:formT b=true):(a=Ty.unk∧joinT a b=b)∨(b=Ty.unk∧joinT a b=a)∨(a=b∧WholeT a∧joinT a b=a)∨(∃x y,a=Ty.ptr x∧b=Ty.ptr y)∨
  (∃x y n m,a=Ty.arr x n∧b=Ty.arr y m)∨(∃f g,a=Ty.str f∧b=Ty.str g)∨(joinT a b=Ty.any∧∀c,formT c=true→subT a c=true→subT b c=true→c=Ty.any):=by
 by_cases hua:a=Ty.unk
 ·subst hua;exact .inl ⟨rfl,join_unk b⟩
 by_cases hub:b=Ty.unk
 ·subst hub;exact .inr (.inl ⟨rfl,join_unk_r ha⟩)
 have key:(∀c,formT c=true→subT a c=true→subT b c=true→c=Ty.any)∨(a=b∧WholeT a)∨(∃x y,a=Ty.ptr x∧b=Ty.ptr y)∨(∃x y n m,a=Ty.arr x n∧b=Ty.arr y m)∨(∃f g,a=Ty.str f∧b=Ty.str g):=by
  by_cases hq:(a=b∧WholeT a)∨(∃x y,a=Ty.ptr x∧b=Ty.ptr y)∨(∃x y n m,a=Ty.arr x n∧b=Ty.arr y m)∨(∃f g,a=Ty.str f∧b=Ty.str g)
  ·exact .inr hq
  refine .inl fun c hc h1 h2=>?_;rcases sub_inv ha hc h1 with e|e|⟨rfl,hw⟩|⟨x,y,rfl,rfl,hs⟩|⟨x,y,n,m,rfl,rfl,hm,hs⟩|⟨f,g,rfl,rfl,hs⟩
  ·exact absurd e hua
  ·exact e
  ·rcases sub_inv hb hc h2 with e|e|⟨rfl,hw'⟩|⟨x',y',rfl,e,hs'⟩|⟨x',y',n',m',rfl,e,hm',hs'⟩|⟨f',g',rfl,e,hs'⟩
   ·exact absurd e hub
   ·exact e
   ·exact absurd (.inl ⟨rfl,hw⟩) hq
   all_goals (subst e;obtain⟨s,e|e⟩:=hw <;> cases e)
  ·rcases sub_inv hb hc h2 with e|e|⟨rfl,s,e|e⟩|⟨x',y',rfl,e,hs'⟩|⟨x',y',n',m',rfl,e,hm',hs'⟩|⟨f',g',rfl,e,hs'⟩
   ·exact absurd e hub
   ·exact e
   ·cases e
   ·cases e
   ·exact absurd (.inr (.inl ⟨x,x',rfl,rfl⟩)) hq
   all_goals cases e
  ·rcases sub_inv hb hc h2 with e|e|⟨rfl,s,e|e⟩|⟨x',y',rfl,e,hs'⟩|⟨x',y',n',m',rfl,e,hm',hs'⟩|⟨f',g',rfl,e,hs'⟩
   ·exact absurd e hub
   ·exact e
   ·cases e
   ·cases e
   ·cases e
   ·exact absurd (.inr (.inr (.inl ⟨x,x',n,n',rfl,rfl⟩))) hq
   all_goals cases e
  ·rcases sub_inv hb hc h2 with e|e|⟨rfl,s,e|e⟩|⟨x',y',rfl,e,hs'⟩|⟨x',y',n',m',rfl,e,hm',hs'⟩|⟨f',g',rfl,e,hs'⟩
   ·exact absurd e hub
   ·exact e
   ·cases e
   ·cases e
   ·cases e
   ·cases e
   ·exact absurd (.inr (.inr (.inr ⟨f,f',rfl,rfl⟩))) hq
 rcases key with h|⟨rfl,hw⟩|h|h|h
 ·refine .inr (.inr ?_);by_cases hq:(∃x y,a=Ty.ptr x∧b=Ty.ptr y)∨(∃x y n m,a=Ty.arr x n∧b=Ty.arr y m)∨(∃f g,a=Ty.str f∧b=Ty.str g)∨(a=b∧WholeT a)
  ·rcases hq with h|h|h|⟨rfl,hw⟩
   ·exact .inr (.inl h)
   ·exact .inr (.inr (.inl h))
   ·exact .inr (.inr (.inr (.inl h)))
   ·have:=h a ha (sub_whole hw) (sub_whole hw);subst this;obtain⟨s,e|e⟩:=hw <;> cases e
  ·refine .inr (.inr (.inr (.inr ⟨?_,h⟩)));rcases formT_cases ha with(rfl|rfl)|⟨s,hs,(rfl|rfl)⟩|⟨x,rfl,hx⟩|⟨x,n,rfl,h1,h2,hx⟩|⟨l,rfl,hl⟩
   ·exact absurd rfl hua
   all_goals (rcases formT_cases hb with(rfl|rfl)|⟨s',hs',(rfl|rfl)⟩|⟨x',rfl,hx'⟩|⟨x',n',rfl,h1',h2',hx'⟩|⟨l',rfl,hl'⟩)
   all_goals first
    |exact absurd rfl hub
    |(simp[joinT,Ty.unk,Ty.any,Ty.int,Ty.uint,Ty.ptr,Ty.arr,Ty.str,Ty.kind,Ty.size];done)
    |exact absurd (.inl ⟨_,_,rfl,rfl⟩) hq
    |exact absurd (.inr (.inl ⟨_,_,_,_,rfl,rfl⟩)) hq
    |exact absurd (.inr (.inr (.inl ⟨_,_,rfl,rfl⟩))) hq
    | (have hne:s≠s':=fun e=>hq (.inr (.inr (.inr ⟨by rw[e],s,.inl rfl⟩)))
       simp[joinT,Ty.any,Ty.int,Ty.kind,Ty.size,hne])
    | (have hne:s≠s':=fun e=>hq (.inr (.inr (.inr ⟨by rw[e],s,.inr rfl⟩)))
       simp[joinT,Ty.any,Ty.uint,Ty.kind,Ty.size,hne])
 ·refine .inr (.inr (.inl ⟨rfl,hw, ?_⟩));obtain⟨s,rfl|rfl⟩:=hw
  ·simp[joinT,Ty.int,Ty.kind,Ty.size]
  ·simp[joinT,Ty.uint,Ty.kind,Ty.size]
 ·exact .inr (.inr (.inr (.inl h)))
 ·exact .inr (.inr (.inr (.inr (.inl h))))
 ·exact .inr (.inr (.inr (.inr (.inr (.inl h)))))
theorem lub_all:∀(k:Nat) {a b:Ty},szN a≤k→formT a=true→formT b=true→
  formT (joinT a b)=true∧subT a (joinT a b)=true∧subT b (joinT a b)=true∧∀c,formT c=true→subT a c=true→subT b c=true→subT (joinT a b) c=true
 |0,a,_,h,_,_=>by cases a;rw[szN]at h;omega
 | k +1,a,b,h,ha,hb=>by
  rcases join_inv ha hb with⟨rfl,e⟩|⟨rfl,e⟩|⟨rfl,hw,e⟩|⟨x,y,rfl,rfl⟩|⟨x,y,n,m,rfl,rfl⟩|⟨f,g,rfl,rfl⟩|⟨e,hc⟩
  ·rw[e];exact⟨hb,sub_unk _,subT_refl hb,fun c _ _ h=>h⟩
  ·rw[e];exact⟨ha,subT_refl ha,sub_unk _,fun c _ h _=>h⟩
  ·rw[e];exact⟨ha,subT_refl ha,subT_refl ha,fun c _ h _=>h⟩
  ·rw[szN_ptr]at h;rw[form_ptr]at ha hb;obtain⟨h1,h2,h3,h4⟩:=lub_all k (by omega) ha hb;rw[join_ptr];refine⟨by rw[form_ptr];exact h1,by rw[sub_ptr];exact h2,by rw[sub_ptr];exact h3,fun c hc k1 k2=>?_⟩;rcases sub_inv (by rw[form_ptr];exact ha) hc k1 with e|rfl|⟨rfl,s,e|e⟩|⟨x',y',e,rfl,hs'⟩|⟨x',y',n',m',e,rfl,hm',hs'⟩|⟨f',g',e,rfl,hs'⟩
   ·cases e
   ·exact sub_any _
   ·cases e
   ·cases e
   ·injection e with _ _ _ e _
    injection e with e _
    subst e;rw[sub_ptr]at k2 ⊢;rw[form_ptr]at hc;exact h4 _ hc hs' k2
   ·cases e
   ·cases e
  ·rw[szN_arr]at h;rw[form_arr]at ha hb;simp only[Bool.and_eq_true,decide_eq_true_eq]at ha hb;obtain⟨h1,h2,h3,h4⟩:=lub_all k (by omega) ha.2 hb.2;rw[join_arr];refine⟨by rw[form_arr];simp only[Bool.and_eq_true,decide_eq_true_eq];exact⟨⟨by omega,by omega⟩,h1⟩, ?_, ?_,fun c hc k1 k2=>?_⟩
   ·rw[sub_arr,Bool.and_eq_true,decide_eq_true_eq];exact⟨by omega,h2⟩
   ·rw[sub_arr,Bool.and_eq_true,decide_eq_true_eq];exact⟨by omega,h3⟩
   ·rcases sub_inv (by rw[form_arr];simp only[Bool.and_eq_true,decide_eq_true_eq];exact ha) hc k1 with e|rfl|⟨rfl,s,e|e⟩|⟨x',y',e,rfl,hs'⟩|⟨x',y',n',m',e,rfl,hm',hs'⟩|⟨f',g',e,rfl,hs'⟩
    ·cases e
    ·exact sub_any _
    ·cases e
    ·cases e
    ·cases e
    ·injection e with _ _ e' e _
     injection e with e _
     subst e e';rw[sub_arr,Bool.and_eq_true,decide_eq_true_eq]at k2 ⊢;rw[form_arr]at hc;simp only[Bool.and_eq_true]at hc;exact⟨by omega,h4 _ hc.2 hs' k2.2⟩
    ·cases e
  ·rw[szN_str]at h;rw[form_str]at ha hb;have ia:=formF_asc ha;have ib:=formF_asc hb;rw[join_str]
   have hall:∀o t u,lkF f o=some t→lkF g o=some u→formT (joinT t u)=true∧subT t (joinT t u)=true∧subT u (joinT t u)=true∧∀c,formT c=true→subT t c=true→subT u c=true→subT (joinT t u) c=true:=fun o t u ht hu=>by
    have:=szN_lk ht;exact lub_all k (by omega) (form_lk ha ht) (form_lk hb hu)
   have hj:=joinF_asc g ia;refine⟨?_, ?_, ?_,fun c hc k1 k2=>?_⟩
   ·rw[form_str];refine formF_of hj fun x hx=>?_;obtain⟨t,u,h1,h2,e⟩:=joinF_mem hx;have h3:=formF_all ha _ h1;exact⟨h3.1,h3.2.1,by rw[e];exact(hall _ t u (lkF_of_mem ia h1) h2).1⟩
   ·refine(sub_str_iff hj).2 fun o v hv=>?_;rw[lkF_join ia]at hv
    split at hv
    ·rename_i t u ht hu
     cases hv;exact⟨t,ht,(hall o t u ht hu).2.1⟩
    ·cases hv
   ·refine(sub_str_iff hj).2 fun o v hv=>?_;rw[lkF_join ia]at hv
    split at hv
    ·rename_i t u ht hu
     cases hv;exact⟨u,hu,(hall o t u ht hu).2.2.1⟩
    ·cases hv
   ·rcases sub_inv (by rw[form_str];exact ha) hc k1 with e|rfl|⟨rfl,s,e|e⟩|⟨x',y',e,rfl,hs'⟩|⟨x',y',n',m',e,rfl,hm',hs'⟩|⟨f',g',e,rfl,hs'⟩
    ·cases e
    ·exact sub_any _
    ·cases e
    ·cases e
    ·cases e
    ·cases e
    ·injection e with _ _ _ _ e
     subst e;rw[form_str]at hc;have ic:=formF_asc hc;have k2:=(sub_str_iff ic).1 k2;refine(sub_str_iff ic).2 fun o v hv=>?_;obtain⟨t,ht,h1⟩:=hs' o v hv;obtain⟨u,hu,h2⟩:=k2 o v hv;refine⟨joinT t u,by rw[lkF_join ia,ht,hu], ?_⟩;exact(hall o t u ht hu).2.2.2 v (form_lk hc hv) h1 h2
  ·rw[e];exact⟨form_any,sub_any _,sub_any _,fun d hd k1 k2=>by rw[hc d hd k1 k2];exact sub_any _⟩
end Go.Deco
namespace Go.Deco
open Go Go.RowKit
set_option linter.unusedSimpArgs false
set_option linter.unusedVariables false
theorem shal_ptr (x:Ty)(n:Int):shalT (Ty.ptr x) n=(decide (1≤n) && shalT x (n - 1)):=by simp[Ty.ptr,shalT,shalE,shalF]
theorem shal_arr (x:Ty)(m n:Int):shalT (Ty.arr x m) n=(decide (1≤n) && shalT x (n - 1)):=by simp[Ty.arr,shalT,shalE,shalF]
theorem shal_str (l:List (Int×Ty))(n:Int):shalT (Ty.str l) n=(decide (1≤n) && shalF l (n - 1)):=by simp[Ty.str,shalT,shalE]
theorem shal_any (n:Int):shalT Ty.any n=decide (1≤n):=by simp[Ty.any,shalT,shalE,shalF]
theorem shal_pos {t:Ty}{n:Int}(h:shalT t n=true):1≤n:=by
 cases t;rw[shalT,Bool.and_eq_true,decide_eq_true_eq]at h;exact h.1
theorem shalF_mem {l:List (Int×Ty)}{n:Int}(h:shalF l n=true):∀f∈l,shalT f.2 n=true:=by
 rw[shalF_all,List.all_eq_true]at h;exact h
theorem join_shal:∀(k:Nat) {a b:Ty} (n:Int),szN a≤k→formT a=true→formT b=true→shalT a n=true→shalT b n=true→shalT (joinT a b) n=true
 |0,a,_,_,h,_,_,_,_=>by cases a;rw[szN]at h;omega
 | k+1,a,b,n,h,ha,hb,h1,h2=>by
  rcases join_inv ha hb with⟨rfl,e⟩|⟨rfl,e⟩|⟨rfl,hw,e⟩|⟨x,y,rfl,rfl⟩|⟨x,y,m,m',rfl,rfl⟩|⟨f,g,rfl,rfl⟩|⟨e,hc⟩
  ·rw[e];exact h2
  ·rw[e];exact h1
  ·rw[e];exact h1
  ·rw[szN_ptr]at h;rw[form_ptr]at ha hb;rw[shal_ptr,Bool.and_eq_true]at h1 h2;rw[join_ptr,shal_ptr,Bool.and_eq_true];exact⟨h1.1,join_shal k _ (by omega) ha hb h1.2 h2.2⟩
  ·rw[szN_arr]at h;rw[form_arr]at ha hb;simp only[Bool.and_eq_true]at ha hb;rw[shal_arr,Bool.and_eq_true]at h1 h2;rw[join_arr,shal_arr,Bool.and_eq_true];exact⟨h1.1,join_shal k _ (by omega) ha.2 hb.2 h1.2 h2.2⟩
  ·rw[szN_str]at h;rw[form_str]at ha hb;rw[shal_str,Bool.and_eq_true]at h1 h2;rw[join_str,shal_str,Bool.and_eq_true,shalF_all,List.all_eq_true];refine⟨h1.1,fun x hx=>?_⟩;obtain⟨t,u,k1,k2,k3⟩:=joinF_mem hx;have hs:=szN_mem k1;rw[k3];exact join_shal k _ (by simp only at hs;omega) (formF_all ha _ k1).2.2 (form_lk hb k2) (shalF_mem h1.2 _ k1) (shalF_mem h2.2 _ (lkF_mem k2))
  ·rw[e,shal_any,decide_eq_true_eq];exact shal_pos h1
theorem sz_ptr (x:Ty):szT (Ty.ptr x)=4:=by
 simp[Ty.ptr,szT]
 try decide
theorem sz_arr0 (t:Ty)(n:Int):szT (Ty.arr t n)=min (n * szT t) 65537:=by simp[Ty.arr,szT,szE]
theorem sz_str0 (l:List (Int×Ty)):szT (Ty.str l)=min (szF 0 l) 65537:=by simp[Ty.str,szT]
theorem sz_any:szT Ty.any=0:=by decide
theorem join_size:∀(k:Nat) {a b:Ty},szN a≤k→formT a=true→formT b=true→szT (joinT a b)≤max (szT a) (szT b)
 |0,a,_,h,_,_=>by cases a;rw[szN]at h;omega
 | k +1,a,b,h,ha,hb=>by
  rcases join_inv ha hb with⟨rfl,e⟩|⟨rfl,e⟩|⟨rfl,hw,e⟩|⟨x,y,rfl,rfl⟩|⟨x,y,m,m',rfl,rfl⟩|⟨f,g,rfl,rfl⟩|⟨e,hc⟩
  ·rw[e];omega
  ·rw[e];omega
  ·rw[e];omega
  ·rw[join_ptr,sz_ptr,sz_ptr,sz_ptr];omega
  ·rw[szN_arr]at h;rw[form_arr]at ha hb;simp only[Bool.and_eq_true,decide_eq_true_eq]at ha hb;have ih:=join_size k (by omega) ha.2 hb.2;have hx:=szT_nonneg x ha.2;have hy:=szT_nonneg y hb.2;have hj:=szT_nonneg _ (lub_all _ (Nat.le_refl _) ha.2 hb.2).1;rw[join_arr,sz_arr0,sz_arr0,sz_arr0];rcases Int.le_total (szT x) (szT y) with hxy|hxy
   ·have h1:min m m' * szT (joinT x y)≤m' * szT y:=Int.le_trans (Int.mul_le_mul_of_nonneg_right (show min m m'≤m' by omega) hj) (Int.mul_le_mul_of_nonneg_left (by omega) (by omega));omega
   ·have h1:min m m' * szT (joinT x y)≤m * szT x:=Int.le_trans (Int.mul_le_mul_of_nonneg_right (show min m m'≤m by omega) hj) (Int.mul_le_mul_of_nonneg_left (by omega) (by omega));omega
  ·rw[szN_str]at h;rw[form_str]at ha hb;rw[join_str,sz_str0,sz_str0,sz_str0]
   have h1:szF 0 (joinF f g)≤max (szF 0 f) (szF 0 g):=by
    refine szF_bound _ 0 _ ?_ fun x hx=>?_
    ·have:=szF_ge f 0;omega
    ·obtain⟨t,u,k1,k2,k3⟩:=joinF_mem hx;have hs:=szN_mem k1;have ih:=join_size k (a:=t) (b:=u) (by simp only at hs;omega) (formF_all ha _ k1).2.2 (form_lk hb k2);have m1:=szF_mem f 0 _ k1;have m2:=szF_mem g 0 _ (lkF_mem k2);rw[k3];simp only at m1 m2;omega
   omega
  ·rw[e,sz_any];have:=szT_nonneg a ha;omega
theorem wi_ptr (x:Ty):wiT (Ty.ptr x)=wiT x:=by
 rw[wiT_eq,sz_ptr];simp[Ty.ptr,Ty.fields,Ty.elem]
theorem wi_arr (x:Ty)(n:Int):wiT (Ty.arr x n)=(decide (szT (Ty.arr x n)≤65536) && wiT x):=by
 rw[wiT_eq];simp[Ty.arr,Ty.fields,Ty.elem]
theorem wi_str (l:List (Int×Ty)):wiT (Ty.str l)=(decide (l.length≤64) && decide (szT (Ty.str l)≤65536) && l.all fun f=>wiT f.2):=by
 rw[wiT_eq];simp[Ty.str,Ty.fields,Ty.elem]
 try rfl
theorem wi_any:wiT Ty.any=true:=by decide
theorem wi_size {t:Ty}(h:wiT t=true):szT t≤65536:=by
 rw[wiT_eq]at h;simp only[Bool.and_eq_true,decide_eq_true_eq]at h;exact h.1.1.2
theorem join_wi:∀(k:Nat) {a b:Ty},szN a≤k→formT a=true→formT b=true→wiT a=true→wiT b=true→wiT (joinT a b)=true
 |0,a,_,h,_,_,_,_=>by cases a;rw[szN]at h;omega
 | k+1,a,b,h,ha,hb,h1,h2=>by
  have hsz:=join_size _ (Nat.le_refl _) ha hb;have s1:=wi_size h1;have s2:=wi_size h2;rcases join_inv ha hb with⟨rfl,e⟩|⟨rfl,e⟩|⟨rfl,hw,e⟩|⟨x,y,rfl,rfl⟩|⟨x,y,m,m',rfl,rfl⟩|⟨f,g,rfl,rfl⟩|⟨e,hc⟩
  ·rw[e];exact h2
  ·rw[e];exact h1
  ·rw[e];exact h1
  ·rw[szN_ptr]at h;rw[form_ptr]at ha hb;rw[wi_ptr]at h1 h2;rw[join_ptr,wi_ptr];exact join_wi k (by omega) ha hb h1 h2
  ·rw[szN_arr]at h;rw[form_arr]at ha hb;simp only[Bool.and_eq_true]at ha hb;rw[wi_arr,Bool.and_eq_true]at h1 h2;rw[join_arr]at hsz ⊢;rw[wi_arr,Bool.and_eq_true,decide_eq_true_eq];exact⟨by omega,join_wi k (by omega) ha.2 hb.2 h1.2 h2.2⟩
  ·rw[szN_str]at h;rw[form_str]at ha hb;rw[wi_str]at h1 h2;simp only[Bool.and_eq_true,decide_eq_true_eq,List.all_eq_true]at h1 h2;rw[join_str]at hsz ⊢;rw[wi_str];simp only[Bool.and_eq_true,decide_eq_true_eq,List.all_eq_true];have hl:=joinF_len f g;refine⟨⟨by omega,by omega⟩,fun x hx=>?_⟩;obtain⟨t,u,k1,k2,k3⟩:=joinF_mem hx;have hs:=szN_mem k1;rw[k3];exact join_wi k (by simp only at hs;omega) (formF_all ha _ k1).2.2 (form_lk hb k2) (h1.2 _ k1) (h2.2 _ (lkF_mem k2))
  ·rw[e];exact wi_any
theorem good_form {t:Ty}(h:goodT t=true):formT t=true:=(goodT_iff.1 h).2.1
theorem join_good {a b:Ty}(ha:goodT a=true)(hb:goodT b=true):goodT (joinT a b)=true:=by
 obtain⟨a1,a2,a3⟩:=goodT_iff.1 ha;obtain⟨b1,b2,b3⟩:=goodT_iff.1 hb;exact goodT_iff.2 ⟨join_shal _ 64 (Nat.le_refl _) a2 b2 a1 b1,(lub_all _ (Nat.le_refl _) a2 b2).1,join_wi _ (Nat.le_refl _) a2 b2 a3 b3⟩
theorem joinG_good {a b:Ty}(ha:goodT a=true)(hb:goodT b=true):joinG a b=joinT a b:=by unfold joinG;rw[if_pos ⟨ha,hb⟩]
theorem unk_good:goodT Ty.unk=true:=by decide
theorem any_good:goodT Ty.any=true:=by decide
theorem join_le1 {a b:Ty}(ha:formT a=true)(hb:formT b=true):subT a (joinT a b)=true:=(lub_all _ (Nat.le_refl _) ha hb).2.1
theorem join_le2 {a b:Ty}(ha:formT a=true)(hb:formT b=true):subT b (joinT a b)=true:=(lub_all _ (Nat.le_refl _) ha hb).2.2.1
theorem join_least {a b c:Ty}(ha:formT a=true)(hb:formT b=true)(hc:formT c=true)(h1:subT a c=true)(h2:subT b c=true):subT (joinT a b) c=true:=(lub_all _ (Nat.le_refl _) ha hb).2.2.2 c hc h1 h2
theorem join_form {a b:Ty}(ha:formT a=true)(hb:formT b=true):formT (joinT a b)=true:=(lub_all _ (Nat.le_refl _) ha hb).1
def hgtB:Nat→Nat
 |0=>1
 |d+1=>65540+65 * (1+hgtB d)
mutual
def hgt:Ty→Nat→Nat
 | .mk _ _ _ _ _,0=>0
 | .mk k _ c e f,d+1=>if k=6 then 0 else if k=0 then hgtB (d+1) else 1+(if k=4 then c.toNat else 0)+(hgtE e d+hgtF f d)
def hgtE:List Ty→Nat→Nat
 |[],_=>0
 |t :: l,d=>hgt t d+hgtE l d
def hgtF:List (Int×Ty)→Nat→Nat
 |[],_=>0
 |(_,t) :: l,d=>(1+hgt t d)+hgtF l d
end
end Go.Deco
namespace Go.Deco
open Go Go.RowKit
set_option linter.unusedSimpArgs false
set_option linter.unusedVariables false
structure Con where
 kind:Int
 a:Int
 b:Int
 off:Int
 width:Int
 type:Ty
def accC (c:Con):Bool:=decide (c.kind=2∨c.kind=3)
def wideC (c:Con):Bool:=accC c && decide (c.width=4)
def wrongC (n:Int)(c:Con):Nat:=
 if (c.kind<0∨4<c.kind)∨(accC c=true∧c.width≠1∧c.width≠2∧c.width≠4) then 2
 else if (c.a<0∨n≤c.a)∨(c.kind≠1∧(c.b<0∨n≤c.b)) then 7
 else if c.kind=1 then chkT c.type else 0
def firstErrC (n:Int):List Con→Nat
 |[]=>0
 |c :: l=>if wrongC n c≠0 then wrongC n c else firstErrC n l
def checkC (l:List Con)(n:Int):Nat:=if n<0 then 2 else if 65536<n∨65536<(l.length:Int) then 6 else firstErrC n l
structure OkC (n:Int)(c:Con):Prop where
 k0:0≤c.kind
 k1:c.kind≤4
 w:accC c=true→c.width=1∨c.width=2∨c.width=4
 a0:0≤c.a
 a1:c.a<n
 b0:c.kind≠1→0≤c.b
 b1:c.kind≠1→c.b<n
 t:c.kind=1→goodT c.type=true
theorem wrong_zero {n:Int}{c:Con}:wrongC n c=0↔OkC n c:=by
 unfold wrongC;constructor
 ·intro h
  split at h
  ·cases h
  ·split at h
   ·cases h
   ·rename_i h1 h2
    refine⟨by omega,by omega,fun ha=>?_,by omega,by omega,fun hk=>by omega,fun hk=>by omega,fun hk=>?_⟩
    ·by_cases hw:c.width=1∨c.width=2∨c.width=4
     ·exact hw
     ·exact absurd (.inr ⟨ha,by omega,by omega,by omega⟩) h1
    ·rw[if_pos hk]at h;unfold goodT;rw[decide_eq_true_eq];exact h
 ·intro h;rw[if_neg,if_neg]
  ·by_cases hk:c.kind=1
   ·rw[if_pos hk];have:=h.t hk;unfold goodT at this
    rwa [decide_eq_true_eq]at this
   ·rw[if_neg hk]
  ·rintro(h1|⟨hk,h1⟩)
   ·have:=h.a0;have:=h.a1;omega
   ·have:=h.b0 hk;have:=h.b1 hk;omega
  ·rintro(h1|⟨ha,h1,h2,h3⟩)
   ·have:=h.k0;have:=h.k1;omega
   ·have:=h.w ha;omega
theorem first_zeroC {n:Int}:∀{l:List Con},firstErrC n l=0↔∀c∈l,OkC n c
 |[]=>by simp[firstErrC]
 | c :: l=>by
  rw[firstErrC];by_cases h:wrongC n c=0
  ·rw[if_neg (by simp[h]),first_zeroC (l:=l)];simp only[List.mem_cons,forall_eq_or_imp];exact⟨fun k=>⟨wrong_zero.1 h,k⟩,fun k=>k.2⟩
  ·rw[if_pos h];exact⟨fun k=>absurd k h,fun k=>absurd (wrong_zero.2 (k c (List.mem_cons_self ..))) h⟩
theorem check_zeroC {l:List Con}{n:Int}:checkC l n=0↔0≤n∧n≤65536∧l.length≤65536∧∀c∈l,OkC n c:=by
 unfold checkC
 split
 ·constructor
  ·intro h;cases h
  ·intro h;omega
 ·split
  ·constructor
   ·intro h;cases h
   ·intro h;omega
  ·rw[first_zeroC];constructor
   ·intro h;exact⟨by omega,by omega,by omega,h⟩
   ·intro h;exact h.2.2.2
inductive VE (l:List Con):Int→Int→Prop
 |refl (x:Int):VE l x x
 |symm {x y:Int}:VE l x y→VE l y x
 |trans {x y z:Int}:VE l x y→VE l y z→VE l x z
 |sub {c:Con}:c∈l→c.kind=0→VE l c.a c.b
 |cell {c e:Con}:c∈l→e∈l→wideC c=true→wideC e=true→c.off=e.off→VE l c.a e.a→VE l c.b e.b
theorem VE.mono {l m:List Con}(h:∀c∈l,c∈m){x y:Int}(hv:VE l x y):VE m x y:=by
 induction hv with
 |refl x=>exact .refl x
 |symm _ ih=>exact .symm ih
 |trans _ _ i1 i2=>exact .trans i1 i2
 |sub hc hk=>exact .sub (h _ hc) hk
 |cell hc he w1 w2 ho _ ih=>exact .cell (h _ hc) (h _ he) w1 w2 ho ih
def SameCell (l:List Con)(c e:Con):Prop:=wideC c=true∧wideC e=true∧c.off=e.off∧VE l c.a e.a
inductive Step (l:List Con):Int→Int→Prop
 |sub {c:Con}:c∈l→c.kind=0→Step l c.a c.b
 |cell {s d:Con}:s∈l→d∈l→SameCell l s d→s.kind=3→d.kind=2→Step l s.b d.b
inductive Reach (l:List Con):Int→Int→Prop
 |refl (x:Int):Reach l x x
 |step {x y z:Int}:Reach l x y→Step l y z→Reach l x z
theorem Reach.trans {l:List Con}{x y z:Int}(h1:Reach l x y)(h2:Reach l y z):Reach l x z:=by
 induction h2 with
 |refl=>exact h1
 |step _ s ih=>exact .step ih s
def IsLub (S:Ty→Prop)(t:Ty):Prop:=goodT t=true∧(∀s,S s→subT s t=true)∧∀u,goodT u=true→(∀s,S s→subT s u=true)→subT t u=true
theorem IsLub.unique {S:Ty→Prop}{t u:Ty}(h:IsLub S t)(k:IsLub S u):t=u:=
 subT_anti (good_form h.1) (good_form k.1) (h.2.2 u k.1 k.2.1) (k.2.2 t h.1 h.2.1)
theorem IsLub.congr {S S':Ty→Prop}{t:Ty}(h:IsLub S t)(e:∀s,S s↔S' s):IsLub S' t:=
 ⟨h.1,fun s hs=>h.2.1 s ((e s).2 hs),fun u hu hs=>h.2.2 u hu fun s k=>hs s ((e s).1 k)⟩
def IsScal (l:List Con)(x:Int)(t:Ty):Prop:=IsLub (fun s=>∃k∈l,k.kind=1∧Reach l k.a x∧s=k.type) t
def IsCell (l:List Con)(c:Con)(t:Ty):Prop:=IsLub (fun s=>∃e∈l,e.kind=3∧SameCell l e c∧∃k∈l,k.kind=1∧Reach l k.a e.b∧s=k.type) t
def IsPtr (l:List Con)(x:Int):Prop:=∃c∈l,accC c=true∧VE l c.a x
inductive Leads (l:List Con):Int→Int→Prop
 |one {c:Con} {x y:Int}:c∈l→wideC c=true→VE l c.a x→VE l c.b y→Leads l x y
 |more {c:Con} {x y z:Int}:Leads l x y→c∈l→wideC c=true→VE l c.a y→VE l c.b z→Leads l x z
def Rec (l:List Con)(c:Con):Prop:=VE l c.b c.a∨Leads l c.b c.a
def Used (l:List Con)(c:Con)(kind:Int):Prop:=∃e∈l,SameCell l c e∧e.kind=kind
def Spoiled (l:List Con)(x:Int):Prop:=∃c∈l,VE l c.a x∧
 ((c.kind=1∧c.type.kind≠0)∨(accC c=true∧c.off<0)∨(accC c=true∧∃e∈l,accC e=true∧VE l e.a x∧e.off=c.off∧e.width≠c.width)∨
  (wideC c=true∧Rec l c∧Used l c 2∧Used l c 3)∨(wideC c=true∧¬IsPtr l c.b∧∃t,IsCell l c t∧fieldT t 0 4≠some t))
mutual
def cntT:Ty→Nat
 | .mk _ _ _ e f=>1+cntE e+cntF f
def cntE:List Ty→Nat
 |[]=>0
 |t :: l=>cntT t+cntE l
def cntF:List (Int×Ty)→Nat
 |[]=>0
 |(_,t) :: l=>cntT t+cntF l
end
def Content (l:List Con)(P:Int→Ty→Prop)(c:Con)(t:Ty):Prop:=
 if c.width≠4 then t=Ty.uint c.width
 else (¬IsPtr l c.b∧IsCell l c t)∨(IsPtr l c.b∧¬Rec l c∧P c.b t)∨(IsPtr l c.b∧Rec l c∧((Used l c 3∧t=Ty.any)∨(¬Used l c 3∧t=Ty.unk)))
def Fields (l:List Con)(P:Int→Ty→Prop)(x:Int)(F:List (Int×Ty)):Prop:=
 AscF F∧(∀f∈F,∃c∈l,accC c=true∧VE l c.a x∧c.off=f.1)∧∀c∈l,accC c=true→VE l c.a x→∃t,lkF F c.off=some t∧Content l P c t
def PtrTy (l:List Con):Nat→Int→Ty→Prop
 |0,_,_=>False
 |n+1,x,t=>(Spoiled l x∧t=Ty.any)∨(¬Spoiled l x∧∃F,Fields l (PtrTy l n) x F∧t=if chkT (Ty.ptr (Ty.str F))≠0∨256<cntT (Ty.ptr (Ty.str F)) then Ty.any else Ty.ptr (Ty.str F))
def VarTy (l:List Con)(x:Int)(t:Ty):Prop:=(IsPtr l x∧∃n,PtrTy l n x t)∨(¬IsPtr l x∧IsScal l x t)
def Solves (l:List Con)(n:Int)(ts:List Ty):Prop:=(ts.length:Int)=n∧∀(v:Nat) (t:Ty),ts[v]? =some t→VarTy l v t
def badL (ts:List Ty):List Nat:=(ts.zipIdx.filter fun x=>decide (x.1.kind=6)).map Prod.snd
theorem SameCell.rel {l:List Con}{c e:Con}(h:SameCell l c e)(hc:c∈l)(he:e∈l):VE l c.b e.b:= .cell hc he h.1 h.2.1 h.2.2.1 h.2.2.2
theorem SameCell.symm {l:List Con}{c e:Con}(h:SameCell l c e):SameCell l e c:=⟨h.2.1,h.1,h.2.2.1.symm,h.2.2.2.symm⟩
theorem SameCell.trans {l:List Con}{c e d:Con}(h:SameCell l c e)(k:SameCell l e d):SameCell l c d:=⟨h.1,k.2.1,h.2.2.1.trans k.2.2.1,h.2.2.2.trans k.2.2.2⟩
theorem Content.unique {l:List Con}{P P':Int→Ty→Prop}(hP:∀x t t',P x t→P' x t'→t=t'){c:Con}{t t':Ty}(h:Content l P c t)(k:Content l P' c t'):t=t':=by
 unfold Content at h k
 split at h
 ·rename_i hw
  rw[if_pos hw]at k;rw[h,k]
 ·rename_i hw
  rw[if_neg hw]at k;rcases h with⟨h1,h2⟩|⟨h1,h2,h3⟩|⟨h1,h2,h3⟩ <;> rcases k with⟨k1,k2⟩|⟨k1,k2,k3⟩|⟨k1,k2,k3⟩
  ·exact h2.unique k2
  ·exact absurd k1 h1
  ·exact absurd k1 h1
  ·exact absurd h1 k1
  ·exact hP _ _ _ h3 k3
  ·exact absurd k2 h2
  ·exact absurd h1 k1
  ·exact absurd h2 k2
  ·rcases h3 with⟨u,rfl⟩|⟨u,rfl⟩ <;> rcases k3 with⟨v,rfl⟩|⟨v,rfl⟩
   ·rfl
   ·exact absurd u v
   ·exact absurd v u
   ·rfl
theorem Fields.unique {l:List Con}{P P':Int→Ty→Prop}(hP:∀x t t',P x t→P' x t'→t=t'){x:Int}{F F':List (Int×Ty)}(h:Fields l P x F)(k:Fields l P' x F'):F=F':=by
 refine lkF_ext h.1 k.1 fun o=>?_
 cases e:lkF F o with
 | none=>
  cases e':lkF F' o with
  |none=>rfl
  |some u=>
   obtain⟨c,hc,ha,hv,ho⟩:=k.2.1 _ (lkF_mem e');obtain⟨t,ht,_⟩:=h.2.2 c hc ha hv;simp only at ho;rw[ho,e]at ht;cases ht
 |some t=>
  obtain⟨c,hc,ha,hv,ho⟩:=h.2.1 _ (lkF_mem e);simp only at ho;obtain⟨t1,ht1,k1⟩:=h.2.2 c hc ha hv;obtain⟨t2,ht2,k2⟩:=k.2.2 c hc ha hv;rw[ho]at ht1 ht2;rw[e]at ht1;cases ht1;rw[ht2,k1.unique hP k2]
theorem PtrTy.unique {l:List Con}:∀{n m:Nat} {x:Int} {t u:Ty},PtrTy l n x t→PtrTy l m x u→t=u
 |0,_,_,_,_,h,_=>h.elim
 |n+1,0,_,_,_,_,h=>h.elim
 | n+1,m+1,x,t,u,h,k=>by
  rcases h with⟨h1,h2⟩|⟨h1,F,hF,h2⟩ <;> rcases k with⟨k1,k2⟩|⟨k1,F',hF',k2⟩
  ·rw[h2,k2]
  ·exact absurd h1 k1
  ·exact absurd k1 h1
  ·have hP:∀(y:Int) (a b:Ty),PtrTy l n y a→PtrTy l m y b→a=b:=fun y a b ha hb=>PtrTy.unique ha hb;have e:=Fields.unique hP hF hF';rw[h2,k2,e]
theorem VarTy.unique {l:List Con}{x:Int}{t u:Ty}(h:VarTy l x t)(k:VarTy l x u):t=u:=by
 rcases h with⟨h1,n,h2⟩|⟨h1,h2⟩ <;> rcases k with⟨k1,m,k2⟩|⟨k1,k2⟩
 ·exact h2.unique k2
 ·exact absurd h1 k1
 ·exact absurd k1 h1
 ·exact h2.unique k2
theorem Solves.unique {l:List Con}{n:Int}{ts us:List Ty}(h:Solves l n ts)(k:Solves l n us):ts=us:=by
 have hl:ts.length=us.length:=by have:=h.1;have:=k.1;omega
 refine List.ext_getElem? fun v=>?_;by_cases hv:v<ts.length
 ·obtain⟨t,ht⟩:∃t,ts[v]? =some t:=⟨_,List.getElem?_eq_getElem hv⟩;obtain⟨u,hu⟩:∃u,us[v]? =some u:=⟨_,List.getElem?_eq_getElem (by omega)⟩;rw[ht,hu,(h.2 v t ht).unique (k.2 v u hu)]
 ·rw[List.getElem?_eq_none (by omega),List.getElem?_eq_none (by omega)]
end Go.Deco
namespace Go.Deco
open Go Go.RowKit
set_option linter.unusedSimpArgs false
set_option linter.unusedVariables false
section
variable {α:Type}
structure Weak (lt:α→α→Bool):Prop where
 asym:∀x y,lt x y=true→lt y x=false
 trans:∀x y z,lt y x=false→lt z y=false→lt z x=false
namespace Weak
variable {lt:α→α→Bool}
theorem irr (W:Weak lt)(x:α):lt x x=false:=by
 cases h:lt x x with
 |false=>rfl
 |true=>rw [←W.asym x x h,h]
end Weak
def eqvB (lt:α→α→Bool)(p x:α):Bool:= !lt p x && !lt x p
theorem eqvB_iff {lt:α→α→Bool}{p x:α}:eqvB lt p x=true↔lt p x=false∧lt x p=false:=by
 unfold eqvB;cases lt p x <;> cases lt x p <;> simp
def Srt (lt:α→α→Bool)(l:List α):Prop:=l.Pairwise fun x y=>lt y x=false
def Cls (lt:α→α→Bool)(l m:List α):Prop:=∀p,m.filter (eqvB lt p)=l.filter (eqvB lt p)
theorem Cls.refl (lt:α→α→Bool)(l:List α):Cls lt l l:=fun _=>rfl
theorem Cls.trans {lt:α→α→Bool}{a b c:List α}(h:Cls lt a b)(k:Cls lt b c):Cls lt a c:=fun p=>(k p).trans (h p)
theorem Cls.symm {lt:α→α→Bool}{a b:List α}(h:Cls lt a b):Cls lt b a:=fun p=>(h p).symm
theorem Cls.app {lt:α→α→Bool}{a b c d:List α}(h:Cls lt a b)(k:Cls lt c d):Cls lt (a ++ c) (b ++ d):=fun p=>by rw[List.filter_append,List.filter_append,h p,k p]
theorem Cls.mem {lt:α→α→Bool}(W:Weak lt){l m:List α}(h:Cls lt l m)(x:α):x∈m↔x∈l:=by
 have hx:eqvB lt x x=true:=eqvB_iff.2 ⟨W.irr x,W.irr x⟩;constructor
 ·intro hm;have:x∈m.filter (eqvB lt x):=List.mem_filter.2 ⟨hm,hx⟩;rw[h x]at this;exact(List.mem_filter.1 this).1
 ·intro hl;have:x∈l.filter (eqvB lt x):=List.mem_filter.2 ⟨hl,hx⟩;rw[←h x]at this;exact(List.mem_filter.1 this).1
def insR (lt:α→α→Bool)(x:α):List α→List α
 |[]=>[x]
 |o :: t=>if lt x o then x :: o :: t else o :: insR lt x t
def stab (lt:α→α→Bool)(l:List α):List α:=l.foldl (fun O x=>insR lt x O) []
def mrg (lt:α→α→Bool):List α→List α→List α
 |[],R=>R
 |l :: L,[]=>l :: L
 |l :: L,r :: R=>if lt r l then r :: mrg lt (l :: L) R else l :: mrg lt L (r :: R)
termination_by L R=>L.length+R.length
def Swp (D:List α)(a b i:Nat)(D':List α):Prop:=
 D'.length=D.length∧∀k:Nat,D'[k]? =if a≤k∧k<a+i then D[k+(b - a)]? else if b≤k∧k<b+i then D[k - (b - a)]? else D[k]?
theorem Swp.start (D:List α)(a b:Nat):Swp D a b 0 D:=⟨rfl,fun k=>by rw[if_neg (by omega),if_neg (by omega)]⟩
theorem Swp.step {D D':List α}{a b i n:Nat}{x y:α}(h:Swp D a b i D')(hn:a+n≤b)(hi:i<n)(hx:D[b+i]? =some x)(hy:D[a+i]? =some y):Swp D a b (i+1) ((D'.set (a+i) x).set (b+i) y):=by
 have hbl:=(List.getElem?_eq_some_iff.1 hx).1;refine⟨by simp[h.1],fun k=>?_⟩;rw[List.getElem?_set,List.getElem?_set];simp only[List.length_set,h.1];by_cases e1:b+i=k
 ·subst e1;rw[if_pos rfl,if_pos hbl,if_neg (by omega),if_pos (by omega),←hy]
  congr 1
  omega
 ·rw [if_neg e1];by_cases e2:a+i=k
  ·subst e2;rw[if_pos rfl,if_pos (by omega),if_pos (by omega),←hx]
   congr 1
   omega
  ·rw[if_neg e2,h.2];by_cases c1:a≤k∧k<a+i
   ·have c1':a≤k∧k<a+(i+1):=by omega
    rw[if_pos c1,if_pos c1']
   ·have c1':¬(a≤k∧k<a+(i+1)):=by omega
    rw[if_neg c1,if_neg c1'];by_cases c2:b≤k∧k<b+i
    ·have c2':b≤k∧k<b+(i+1):=by omega
     rw[if_pos c2,if_pos c2']
    ·have c2':¬(b≤k∧k<b+(i+1)):=by omega
     rw[if_neg c2,if_neg c2']
end
end Go.Deco
namespace Go.Deco
open Go Go.RowKit
set_option linter.unusedSimpArgs false
set_option linter.unusedVariables false
abbrev Fd:=Int×Ty
structure Acc where
 base:Int
 off:Int
 width:Int
 sgn:Bool
deriving DecidableEq
def validA (a:Acc):Bool:=decide (a.width=1∨a.width=2∨a.width=4) && decide (0≤a.off) && decide (a.off≤65532)
def partA (a:Acc):Fd:=(a.off,if a.sgn then Ty.int a.width else Ty.uint a.width)
def endF (f:Fd):Int:=f.1+sizeT f.2
def ltF (x y:Fd):Bool:=decide (x.1<y.1)
def grpS (st:List (List Fd)×Int)(f:Fd):List (List Fd)×Int:=
 (if st.1≠[]∧f.1<st.2 then st.1.dropLast ++ [(st.1.getLast?.getD []) ++ [f]] else st.1 ++ [[f]],max st.2 (endF f))
def groupsF (l:List Fd):List (List Fd):=((stab ltF l).foldl grpS ([],0)).1
def intK (t:Ty):Bool:=decide (t.kind=1) || decide (t.kind=2)
def headF (g:List Fd):Fd:=g.head?.getD (0,Ty.unk)
def lastF (g:List Fd):Int:=g.foldl (fun n f=>max n (endF f)) 0
def sameG (g:List Fd):Bool:=g.all fun f=>decide (f.1=(headF g).1) && sameT f.2 (headF g).2
def sizedG (g:List Fd):Bool:=intK (headF g).2 && g.all fun f=>decide (f.1=(headF g).1) && intK f.2 && decide (f.2.size=(headF g).2.size)
def fieldG (g:List Fd):Fd×Bool:=
 if sameG g then (headF g,false) else if sizedG g then (((headF g).1,Ty.int (headF g).2.size),false)
 else (((headF g).1,Ty.arr (Ty.uint 1) (lastF g - (headF g).1)),true)
def rowFrom (t:Ty):Int→List Fd→Bool
 |_,[]=>true
 |n,f :: l=>decide (f.1=n) && sameT f.2 t && rowFrom t (endF f) l
def rowF (l:List Fd):Bool:=decide (1<l.length) && rowFrom (headF l).2 0 l
def arrangeF (p:List Fd):Ty×Nat:=
 let l:=(groupsF p).map fun g=>(fieldG g).1
 if 64<l.length then (Ty.unk,6) else if rowF l then (Ty.arr (headF l).2 l.length,0) else (Ty.str l,0)
def layoutA (l:List Acc):Ty×Nat:=
 if 1024<l.length then (Ty.unk,6) else
 if l.all fun a=>validA a && decide (a.base=((l.head?.map Acc.base).getD 0)) then arrangeF (l.map partA) else (Ty.unk,2)
def offsA (l:List Acc):List Int:=(l.filter validA).map Acc.off
def hitsA (l:List Acc)(a:Acc):Nat:=
 ((groupsF (((l.filter validA).filter fun x=>decide (x.base=a.base)).map partA)).filter fun g=>(fieldG g).2 && decide ((fieldG g).1.1≤a.off) && decide (a.off<endF (fieldG g).1)).length
def conflA (l:List Acc):List Nat:=(l.zipIdx.filterMap fun x=>if validA x.1 then some (List.replicate (hitsA l x.1) x.2) else none).flatten
def properT (t:Ty):Bool:=if t.kind=4 then decide (0<sizeT t) else decide (t.kind=5) && t.fields.all fun f=> !decide (sizeT f.2=0)
def countT (t:Ty):Int:=if t.kind=4 then t.count else t.fields.length
def rowParts (t:Ty)(n:Int):Nat→List Fd
 |0=>[]
 |k+1=>rowParts t n k ++ [(k * n,t)]
def partsT (t:Ty):List Fd:=if t.kind=4 then (match t.elem with|[]=>[]|x :: _=>rowParts x (sizeT x) t.count.toNat) else t.fields
def mergeT (a b:Ty):Ty×Nat:=
 if chkT a≠0 then (Ty.unk,chkT a) else if chkT b≠0 then (Ty.unk,chkT b) else
 if properT a=false∨properT b=false then (Ty.unk,16) else
 if 1024<countT a∨1024<countT b then (Ty.unk,6) else arrangeF (partsT a ++ partsT b)
end Go.Deco
namespace Go.Deco
open Go Go.RowKit
set_option linter.unusedSimpArgs false
set_option linter.unusedVariables false
theorem AscF.tail {f:Int×Ty}{l:List (Int×Ty)}(h:AscF (f :: l)):AscF l:=(List.pairwise_cons.1 h).2
theorem joinF_nil:∀(l:List (Int×Ty)),joinF l []=[]
 |[]=>rfl
 |(o,t) :: l=>by rw[joinF,lkF];exact joinF_nil l
theorem joinF_congr:∀{l r r':List (Int×Ty)},(∀f∈l,lkF r f.1=lkF r' f.1)→joinF l r=joinF l r'
 |[],_,_,_=>rfl
 |(o,t) :: l,r,r',h=>by
  rw[joinF,joinF,joinF_congr fun f hf=>h f (List.mem_cons_of_mem _ hf)];have h0:=h (o,t) (List.mem_cons_self ..);simp only at h0;rw[h0]
theorem joinF_lt {o o':Int}{t u:Ty}{l r:List (Int×Ty)}(h:o<o')(hr:AscF ((o',u) :: r)):joinF ((o,t) :: l) ((o',u) :: r)=joinF l ((o',u) :: r):=by
 have hr':=List.pairwise_cons.1 hr;rw[joinF,lkF_none fun f hf=>?_];rcases List.mem_cons.1 hf with rfl|hf
 ·simp only;omega
 ·have:=hr'.1 f hf;simp only at this;omega
theorem joinF_gt {o o':Int}{t u:Ty}{l r:List (Int×Ty)}(h:o'<o)(hl:AscF ((o,t) :: l)):joinF ((o,t) :: l) ((o',u) :: r)=joinF ((o,t) :: l) r:=by
 have hl':=List.pairwise_cons.1 hl;refine joinF_congr fun f hf=>?_;rw[lkF,if_neg];rcases List.mem_cons.1 hf with rfl|hf
 ·simp only;omega
 ·have:=hl'.1 f hf;simp only at this;omega
theorem joinF_eq {o:Int}{t u:Ty}{l r:List (Int×Ty)}(hl:AscF ((o,t) :: l)):joinF ((o,t) :: l) ((o,u) :: r)=(o,joinT t u) :: joinF l r:=by
 have hl':=List.pairwise_cons.1 hl;rw[joinF,lkF,if_pos rfl];simp only;rw[joinF_congr fun f hf=>?_];rw[lkF,if_neg];have:=hl'.1 f hf;simp only at this;omega
def anyF (l:List (Int×Ty))(n:Int)(u:Ty):Bool:=l.any fun x=>decide (x.1=n) && subT x.2 u
theorem anyF_sub:∀{l:List (Int×Ty)} {n:Int} {u:Ty},AscF l→anyF l n u=subF l n u
 |[],n,u,_=>by simp[anyF,subF]
 | (o,t) :: l,n,u,h=>by
  have h':=List.pairwise_cons.1 h;have ih:=anyF_sub (l:=l) (n:=n) (u:=u) h'.2;unfold anyF at ih ⊢;rw[List.any_cons,ih,subF];by_cases e:o=n
  ·subst e
   have:subF l o u=false:=by
    cases e2:subF l o u with
    |false=>rfl
    |true=>
     obtain⟨x,hx,_⟩:=(subF_lk l o u).1 e2;have:=h'.1 _ (lkF_mem hx);simp only at this;omega
   rw[this];simp
  ·simp[e]
def findF:List (Int×Ty)→Int→Option Nat
 |[],_=>none
 |(o,_) :: l,n=>if o=n then some 0 else (findF l n).map (· +1)
end Go.Deco
namespace Go.Deco
open Go Go.RowKit
set_option linter.unusedSimpArgs false
set_option linter.unusedVariables false
def grp1:Int→List Fd→List Fd×List Fd
 |_,[]=>([],[])
 |n,f :: l=>if f.1<n then (f :: (grp1 (max n (endF f)) l).1,(grp1 (max n (endF f)) l).2) else ([],f :: l)
def grpE:Int→List Fd→Int
 |n,[]=>n
 |n,f :: l=>if f.1<n then grpE (max n (endF f)) l else n
def grpR:Nat→List Fd→List (List Fd)
 |0,_=>[]
 |_,[]=>[]
 |k+1,f :: l=>(f :: (grp1 (endF f) l).1) :: grpR k (grp1 (endF f) l).2
def SrtF (l:List Fd):Prop:=l.Pairwise fun a b=>a.1≤b.1
def SameSet (l m:List Fd):Prop:=∀x,x∈l↔x∈m
end Go.Deco
namespace Go.Deco
open Go Go.RowKit
set_option linter.unusedSimpArgs false
set_option linter.unusedVariables false
def SameCons (l m:List Con):Prop:=∀c,c∈l↔c∈m
section
variable {l m:List Con}
end
section
variable {l:List Con}{x y:Int}
theorem isptr_ve (h:VE l x y)(k:IsPtr l x):IsPtr l y:=by
 obtain⟨c,hc,ha,hv⟩:=k;exact⟨c,hc,ha,hv.trans h⟩
theorem spoiled_ve (h:VE l x y)(k:Spoiled l x):Spoiled l y:=by
 obtain⟨c,hc,hv,k⟩:=k;refine⟨c,hc,hv.trans h, ?_⟩;rcases k with k|k|⟨k,e,he,k1,k2,k3⟩|k|k
 ·exact .inl k
 ·exact .inr (.inl k)
 ·exact .inr (.inr (.inl ⟨k,e,he,k1,k2.trans h,k3⟩))
 ·exact .inr (.inr (.inr (.inl k)))
 ·exact .inr (.inr (.inr (.inr k)))
theorem fields_ve {P:Int→Ty→Prop}(h:VE l x y){F:List (Int×Ty)}(k:Fields l P x F):Fields l P y F:=by
 obtain⟨h1,h2,h3⟩:=k;refine⟨h1,fun f hf=>?_,fun c hc ha hv=>h3 c hc ha (hv.trans h.symm)⟩;obtain⟨c,hc,ha,hv,ho⟩:=h2 f hf;exact⟨c,hc,ha,hv.trans h,ho⟩
theorem ptrty_ve (h:VE l x y):∀{n:Nat} {t:Ty},PtrTy l n x t→PtrTy l n y t
 |0,_,k=>k.elim
 |n+1,t,k=>by
  rcases k with⟨h1,h2⟩|⟨h1,F,hF,h2⟩
  ·exact .inl ⟨spoiled_ve h h1,h2⟩
  ·exact .inr ⟨fun k=>h1 (spoiled_ve h.symm k),F,fields_ve h hF,h2⟩
end
theorem ve_new {l:List Con}{n:Int}(hok:∀c∈l,OkC n c){x y:Int}(h:VE l x y):x=y∨(x<n∧y<n):=by
 induction h with
 |refl=>exact .inl rfl
 |symm _ ih=>rcases ih with h|h;exact .inl h.symm;exact .inr ⟨h.2,h.1⟩
 | trans _ _ i1 i2=>
  rcases i1 with rfl|i1
  ·exact i2
  ·rcases i2 with rfl|i2
   ·exact .inr i1
   ·exact .inr ⟨i1.1,i2.2⟩
 |sub hc hk=>have:=hok _ hc;exact .inr ⟨this.a1,this.b1 (by omega)⟩
 |cell hc he w1 w2 _ _ _=>
  have h1:=hok _ hc;have h2:=hok _ he;have hw:∀c:Con,wideC c=true→c.kind≠1:=fun c h e=>by simp[wideC,accC,e]at h
  exact .inr ⟨h1.b1 (hw _ w1),h2.b1 (hw _ w2)⟩
end Go.Deco
namespace Go.Deco
open Go Go.RowKit
set_option linter.unusedSimpArgs false
set_option linter.unusedVariables false
def typeAt (ts:List Ty)(v:Int):Ty:=if 0≤v then (ts[v.toNat]?).getD Ty.unk else Ty.unk
def satC (ts:List Ty) (c:Con):Bool:=
 if c.kind=0 then subG (typeAt ts c.a) (typeAt ts c.b) else if c.kind=1 then subG c.type (typeAt ts c.a) else if c.kind=4 then true
 else if c.kind=2∨c.kind=3 then
  (if (typeAt ts c.a).kind=6 then true else match (typeAt ts c.a).kind,(typeAt ts c.a).elem with
   |3,[x]=>(match fieldT x c.off c.width with
    |none=>false
    |some f=>if c.width≠4 then true else if c.kind=2 then subG f (typeAt ts c.b) else subG (typeAt ts c.b) f)
   |_,_=>false)
 else false
mutual
theorem shal_le:∀(t:Ty) {n m:Int},n≤m→shalT t n=true→shalT t m=true
 | .mk k s c e f,n,m,h,hs=>by
  rw[shalT]at hs ⊢;simp only[Bool.and_eq_true,decide_eq_true_eq]at hs ⊢;exact⟨by omega,shal_leE e (by omega) hs.2.1,shal_leF f (by omega) hs.2.2⟩
theorem shal_leE:∀(l:List Ty) {n m:Int},n≤m→shalE l n=true→shalE l m=true
 |[],_,_,_,_=>rfl
 |t :: l,n,m,h,hs=>by
  rw[shalE,Bool.and_eq_true]at hs ⊢;exact⟨shal_le t h hs.1,shal_leE l h hs.2⟩
theorem shal_leF:∀(l:List (Int×Ty)) {n m:Int},n≤m→shalF l n=true→shalF l m=true
 |[],_,_,_,_=>rfl
 |(o,t) :: l,n,m,h,hs=>by
  rw[shalF,Bool.and_eq_true]at hs ⊢;exact⟨shal_le t h hs.1,shal_leF l h hs.2⟩
end
theorem good_ptr {x:Ty}(h:goodT (Ty.ptr x)=true):goodT x=true:=by
 obtain⟨h1,h2,h3⟩:=goodT_iff.1 h;rw[shal_ptr,Bool.and_eq_true]at h1;rw[form_ptr]at h2;rw[wi_ptr]at h3;exact goodT_iff.2 ⟨shal_le x (by omega) h1.2,h2,h3⟩
theorem faF_gone:∀{l:List (Int×Ty)} {off wd:Int},(∀f∈l,off<f.1)→faF l off wd=none
 |[],_,_,_=>rfl
 |(o,t) :: l,off,wd,h=>by
  have h0:=h (o,t) (List.mem_cons_self ..);rw[faF,faF_gone fun f hf=>h f (List.mem_cons_of_mem _ hf)];exact faT_neg t (by simp only at h0;omega)
theorem faF_at:∀{F:List (Int×Ty)} {off wd:Int} {t f:Ty},AscF F→lkF F off=some t→faT t 0 wd=some f→faF F off wd=some f
 | (o,u) :: F,off,wd,t,f,ha,hl,hf=>by
  have ha:=List.pairwise_cons.1 ha;rw[lkF]at hl;rw[faF]
  split at hl
  ·rename_i e
   cases hl;subst e;rw[faF_gone fun g hg=>ha.1 g hg,Int.sub_self];exact hf
  ·rw[faF_at ha.2 hl hf]
theorem fa_uint {w:Int}(h:w=1∨w=2∨w=4):faT (Ty.uint w) 0 w=some (Ty.uint w):=by
 have hz:szT (Ty.uint w)=w:=sz_uint' w h;unfold Ty.uint at hz ⊢;rw[faT,if_neg (by omega),if_pos (by omega),if_pos ⟨rfl,hz.symm⟩]
theorem fa_any (off wd:Int)(h:0≤off):faT Ty.any off wd=some Ty.any:=by unfold Ty.any;rw[faT,if_pos (by omega),if_pos h]
theorem fa_unk (off wd:Int)(h:0≤off):faT Ty.unk off wd=some Ty.unk:=by unfold Ty.unk;rw[faT,if_pos (by omega),if_pos h]
theorem fa_ptr (x:Ty):faT (Ty.ptr x) 0 4=some (Ty.ptr x):=by
 have hz:=sz_ptr x;unfold Ty.ptr at hz ⊢;rw[faT,if_neg (by omega),if_pos (by omega),if_pos ⟨rfl,hz.symm⟩]
theorem ptrty_form {l:List Con}:∀{n:Nat} {x:Int} {t:Ty},PtrTy l n x t→t=Ty.any∨(¬Spoiled l x∧∃m F,n=m+1∧Fields l (PtrTy l m) x F∧t=Ty.ptr (Ty.str F)∧goodT t=true)
 |0,_,_,h=>h.elim
 | n+1,x,t,h=>by
  rcases h with⟨_,rfl⟩|⟨hs,F,hF,ht⟩
  ·exact .inl rfl
  ·by_cases hc:chkT (Ty.ptr (Ty.str F))≠0∨256<cntT (Ty.ptr (Ty.str F))
   ·rw[if_pos hc]at ht;exact .inl ht
   ·rw[if_neg hc]at ht;refine .inr ⟨hs,n,F,rfl,hF,ht, ?_⟩;rw[ht];unfold goodT;rw[decide_eq_true_eq];by_cases h0:chkT (Ty.ptr (Ty.str F))=0
    ·exact h0
    ·exact absurd (.inl h0) hc
theorem ptrty_good {l:List Con}{n:Nat}{x:Int}{t:Ty}(h:PtrTy l n x t):goodT t=true:=by
 rcases ptrty_form h with rfl|⟨_,_,_,_,_,_,h⟩
 ·exact any_good
 ·exact h
theorem varty_good {l:List Con}{x:Int}{t:Ty}(h:VarTy l x t):goodT t=true:=by
 rcases h with⟨_,n,h⟩|⟨_,h⟩
 ·exact ptrty_good h
 ·exact h.1
theorem subG_of {a b:Ty}(ha:goodT a=true)(hb:goodT b=true)(h:subT a b=true):subG a b=true:=by unfold subG;rw[ha,hb,h];rfl
theorem wide_of {c:Con}(ha:accC c=true)(hw:c.width=4):wideC c=true:=by unfold wideC;rw[ha,decide_eq_true hw];rfl
theorem fa_self {l:List Con}{n:Nat}{x:Int}{t:Ty}(h:PtrTy l n x t):faT t 0 4=some t:=by
 rcases ptrty_form h with rfl|⟨_,_,F,_,_,rfl,_⟩
 ·exact fa_any 0 4 (by omega)
 ·exact fa_ptr _
theorem solves_sat {l:List Con}{n:Int}(hok:∀c∈l,OkC n c){ts:List Ty}(h:Solves l n ts):∀c∈l,satC ts c=true:=by
 intro c hc;have ho:=hok c hc
 have at_:∀v:Int,0≤v→v<n→VarTy l v (typeAt ts v):=fun v h0 h1=>by
  have hl:=h.1;obtain⟨t,ht⟩:∃t,ts[v.toNat]? =some t:=⟨_,List.getElem?_eq_getElem (by omega)⟩;have h2:=h.2 v.toNat t ht;rw[Int.toNat_of_nonneg h0]at h2;unfold typeAt;rw[if_pos h0,ht];exact h2
 have hA:=at_ c.a ho.a0 ho.a1;have hgA:=varty_good hA;unfold satC;by_cases k0:c.kind=0
 ·rw[if_pos k0];have hB:=at_ c.b (ho.b0 (by omega)) (ho.b1 (by omega));have hgB:=varty_good hB;refine subG_of hgA hgB ?_;have hv:VE l c.a c.b:= .sub hc k0;rcases hA with⟨p1,m,h1⟩|⟨p1,h1⟩ <;> rcases hB with⟨p2,m',h2⟩|⟨p2,h2⟩
  ·rw[(ptrty_ve hv h1).unique h2];exact subT_refl (good_form hgB)
  ·exact absurd (isptr_ve hv p1) p2
  ·exact absurd (isptr_ve hv.symm p2) p1
  ·refine h1.2.2 _ hgB ?_;rintro s ⟨k,hk,k1,hr,rfl⟩;exact h2.2.1 _ ⟨k,hk,k1,.step hr (.sub hc k0),rfl⟩
 rw[if_neg k0];by_cases k1:c.kind=1
 ·rw [if_pos k1];refine subG_of (ho.t k1) hgA ?_;rcases hA with⟨p1,m,h1⟩|⟨p1,h1⟩
  ·by_cases hk:c.type.kind=0
   ·have:c.type=Ty.unk:=by
     rcases formT_cases (good_form (ho.t k1)) with(e|e)|⟨s,hs,(e|e)⟩|⟨x,e,hx⟩|⟨x,n,e,h1,h2,hx⟩|⟨f,e,hl⟩ <;> rw[e]at hk
     ·exact e
     all_goals simp[Ty.any,Ty.int,Ty.uint,Ty.ptr,Ty.arr,Ty.str,Ty.kind]at hk
    rw[this];exact sub_unk _
   ·rcases ptrty_form h1 with e|⟨hs,_⟩
    ·rw[e];exact sub_any _
    ·exact absurd ⟨c,hc,.refl _,.inl ⟨k1,hk⟩⟩ hs
  ·exact h1.2.1 _ ⟨c,hc,k1,.refl _,rfl⟩
 rw[if_neg k1];by_cases k4:c.kind=4
 ·rw[if_pos k4]
 rw[if_neg k4];have h23:c.kind=2∨c.kind=3:=by have:=ho.k0;have:=ho.k1;omega
 rw[if_pos h23];have ha:accC c=true:=by unfold accC;rw[decide_eq_true_eq];exact h23
 have hB:=at_ c.b (ho.b0 k1) (ho.b1 k1);have hgB:=varty_good hB;have hpA:IsPtr l c.a:=⟨c,hc,ha,.refl _⟩;rcases hA with⟨p1,m,h1⟩|⟨p1,h1⟩
 case inr=>exact absurd hpA p1
 rcases ptrty_form h1 with e|⟨hs,m',F,rfl,hF,e,hg⟩
 ·rw[e,if_pos (show Ty.any.kind=6 from rfl)]
 rw[e]at hg;rw[e,if_neg (by simp[Ty.ptr,Ty.kind])]
 have hoff:0≤c.off:=by
  by_cases h0:0≤c.off
  ·exact h0
  ·exact absurd ⟨c,hc,.refl _,.inr (.inl ⟨ha,by omega⟩)⟩ hs
 obtain⟨t,ht,hct⟩:=hF.2.2 c hc ha (.refl _);have hw:=ho.w ha
 have key:∀f,faT t 0 c.width=some f→fieldT (Ty.str F) c.off c.width=some f:=fun f hf=>by
  unfold fieldT;rw[if_pos ⟨good_ptr hg,hw⟩];have e3:faT (Ty.str F) c.off c.width=if c.off<0 then none else faF F c.off c.width:=by simp[Ty.str,faT]
  rw[e3,if_neg (by omega)];exact faF_at hF.1 ht hf
 show (match fieldT (Ty.str F) c.off c.width with
       |none=>false
       |some f=>if c.width≠4 then true else if c.kind=2 then subG f (typeAt ts c.b) else subG (typeAt ts c.b) f)=true
 unfold Content at hct;by_cases h4:c.width=4
 case neg=>
  rw[if_pos h4]at hct;subst hct;rw[key _ (fa_uint hw)];simp[h4]
 rw[if_neg (fun k=>k h4)]at hct;have hwc:=wide_of ha h4;have hcc:SameCell l c c:=⟨hwc,hwc,rfl,.refl _⟩
 have fin:∀f,faT t 0 4=some f→(c.kind=2→subG f (typeAt ts c.b)=true)→(c.kind=3→subG (typeAt ts c.b) f=true)→
   (match fieldT (Ty.str F) c.off c.width with
    |none=>false
    |some f=>if c.width≠4 then true else if c.kind=2 then subG f (typeAt ts c.b) else subG (typeAt ts c.b) f)=true:=fun f hf i2 i3=>by
  rw[key f (by rw[h4];exact hf)];simp only[h4,ne_eq,not_true_eq_false,if_false];by_cases h2:c.kind=2
  ·rw[if_pos h2];exact i2 h2
  ·rw[if_neg h2];exact i3 (by omega)
 rcases hct with⟨q1,q2⟩|⟨q1,q2,q3⟩|⟨q1,q2,q3⟩
 ·have hft:fieldT t 0 4=some t:=by
   by_cases hh:fieldT t 0 4=some t
   ·exact hh
   ·exact absurd ⟨c,hc,.refl _,.inr (.inr (.inr (.inr ⟨hwc,q1,t,q2,hh⟩)))⟩ hs
  have hfa:faT t 0 4=some t:=by
   unfold fieldT at hft
   split at hft
   ·exact hft
   ·cases hft
  rcases hB with⟨p2,m',h2⟩|⟨p2,h2⟩
  ·exact absurd p2 q1
  ·refine fin t hfa (fun hk=>subG_of q2.1 hgB ?_) (fun hk=>subG_of hgB q2.1 ?_)
   ·refine q2.2.2 _ hgB ?_;rintro s ⟨e',he',e3,hse,k,hk1,k1',hr,rfl⟩;exact h2.2.1 _ ⟨k,hk1,k1',.step hr (.cell he' hc hse e3 hk),rfl⟩
   ·refine h2.2.2 _ q2.1 ?_;rintro s ⟨k,hk1,k1',hr,rfl⟩;exact q2.2.1 _ ⟨c,hc,hk,hcc,k,hk1,k1',hr,rfl⟩
 ·rcases hB with⟨p2,m'',h2⟩|⟨p2,h2⟩
  ·have e2:t=typeAt ts c.b:=q3.unique h2;refine fin t (fa_self q3) (fun _=>?_) (fun _=>?_)
   ·rw[e2];exact subG_of hgB hgB (subT_refl (good_form hgB))
   ·rw[e2];exact subG_of hgB hgB (subT_refl (good_form hgB))
  ·exact absurd q1 p2
 ·rcases q3 with⟨u3,rfl⟩|⟨u3,rfl⟩
  ·refine fin _ (fa_any 0 4 (by omega)) (fun hk=>?_) (fun _=>subG_of hgB any_good (sub_any _));exact absurd ⟨c,hc,.refl _,.inr (.inr (.inr (.inl ⟨hwc,q2,⟨c,hc,hcc,hk⟩,u3⟩)))⟩ hs
  ·refine fin _ (fa_unk 0 4 (by omega)) (fun _=>subG_of unk_good hgB (sub_unk _)) (fun hk=>?_);exact absurd ⟨c,hc,hcc,hk⟩ u3
end Go.Deco
namespace Go.Deco
set_option linter.unusedSimpArgs false
set_option linter.unusedVariables false
def DnP (P:List Nat):Prop:=∀k p:Nat,P[k]? =some p→p≤k
def rootN (P:List Nat):Nat→Nat→Nat
 |0,k=>k
 |n+1,k=>match P[k]? with
  |some p=>if p=k then k else rootN P n p
  |none=>k
def rootP (P:List Nat)(k:Nat):Nat:=rootN P k k
theorem rootN_le {P:List Nat}(h:DnP P):∀(n k:Nat),rootN P n k≤k
 |0,k=>by rw[rootN];omega
 | n+1,k=>by
  rw[rootN]
  cases e:P[k]? with
  |none=>simp
  |some p=>
   have hp:=h k p e;simp only
   split
   ·omega
   ·have:=rootN_le h n p;omega
theorem rootN_more {P:List Nat}(h:DnP P):∀(n m k:Nat),k≤n→k≤m→rootN P n k=rootN P m k
 |0,0,_,_,_=>rfl
 |0,m+1,k,h0,_=>by
  obtain rfl:k=0:=by omega
  rw[rootN,rootN]
  cases e:P[0]? with
  |none=>rfl
  |some p=>have:=h 0 p e;simp only;rw[if_pos (by omega)]
 |n+1,0,k,_,h0=>by
  obtain rfl:k=0:=by omega
  rw[rootN,rootN]
  cases e:P[0]? with
  |none=>rfl
  |some p=>have:=h 0 p e;simp only;rw[if_pos (by omega)]
 | n+1,m+1,k,h1,h2=>by
  rw[rootN,rootN]
  cases e:P[k]? with
  |none=>rfl
  |some p=>
   have:=h k p e;simp only
   split
   ·rfl
   ·exact rootN_more h n m p (by omega) (by omega)
theorem rootP_step {P:List Nat}(h:DnP P){k p:Nat}(hk:P[k]? =some p):rootP P k=if p=k then k else rootP P p:=by
 unfold rootP;have hp:=h k p hk
 cases k with
 |zero=>
  rw[rootN,if_pos (by omega)]
 |succ k=>
  rw[rootN,hk];simp only
  split
  ·rfl
  ·exact rootN_more h k p p (by omega) (Nat.le_refl _)
theorem rootP_self {P:List Nat}(h:DnP P){k:Nat}(hk:P[k]? =some k):rootP P k=k:=by rw[rootP_step h hk,if_pos rfl]
theorem rootP_up {P:List Nat}(h:DnP P){k p:Nat}(hk:P[k]? =some p):rootP P k=rootP P p:=by
 rw[rootP_step h hk]
 split
 ·rename_i e
  rw[e]at hk;rw[e,rootP_self h hk]
 ·rfl
theorem rootP_none {P:List Nat}{k:Nat}(hk:P[k]? =none):rootP P k=k:=by
 unfold rootP
 cases k with
 |zero=>rfl
 |succ k=>rw [rootN,hk]
theorem rootP_le {P:List Nat}(h:DnP P)(k:Nat):rootP P k≤k:=rootN_le h k k
theorem rootP_fix {P:List Nat}(h:DnP P):∀(n k:Nat),k≤n→k<P.length→P[rootP P k]? =some (rootP P k)
 | n,k,hn,hk=>by
  have e:=List.getElem?_eq_getElem hk;have hp:=h k _ e;by_cases c:P[k]=k
  ·rw[rootP_step h e,if_pos c];rw[c]at e;exact e
  ·rw[rootP_step h e,if_neg c]
   cases n with
   |zero=>omega
   |succ n=>exact rootP_fix h n _ (by omega) (by omega)
theorem rootP_lt {P:List Nat}(h:DnP P){k:Nat}(hk:k<P.length):rootP P k<P.length:=by have:=rootP_le h k;omega
theorem rootP_idem {P:List Nat}(h:DnP P){k:Nat}(hk:k<P.length):rootP P (rootP P k)=rootP P k:=rootP_self h (rootP_fix h k k (Nat.le_refl _) hk)
structure SameP (P P':List Nat):Prop where
 len:P'.length=P.length
 dn:DnP P'
 root:∀x,rootP P' x=rootP P x
 sum:P'.sum≤P.sum
theorem SameP.refl {P:List Nat}(h:DnP P):SameP P P:=⟨rfl,h,fun _=>rfl,Nat.le_refl _⟩
theorem SameP.trans {P Q R:List Nat}(h:SameP P Q)(k:SameP Q R):SameP P R:=⟨k.len.trans h.len,k.dn,fun x=>(k.root x).trans (h.root x),Nat.le_trans k.sum h.sum⟩
theorem sum_set:∀(P:List Nat) (k p q:Nat),P[k]? =some p→(P.set k q).sum+p=P.sum+q
 |[],_,_,_,h=>by simp at h
 |x :: P,0,p,q,h=>by
  simp at h;subst h;simp;omega
 |x :: P,k+1,p,q,h=>by
  have:=sum_set P k p q (by simpa using h);simp;omega
theorem dn_set {P:List Nat}(h:DnP P){k q:Nat}(hq:q≤k):DnP (P.set k q):=by
 intro i p hi;by_cases e:k=i
 ·subst e;by_cases hl:k<P.length
  ·rw[List.getElem?_set_self hl]at hi;cases hi;exact hq
  ·rw[List.getElem?_eq_none (by simp;omega)]at hi;cases hi
 ·rw[List.getElem?_set_ne e]at hi;exact h i p hi
theorem half_same {P:List Nat}(h:DnP P){k p q:Nat}(hk:P[k]? =some p)(hp:P[p]? =some q):SameP P (P.set k q):=by
 have h1:=h k p hk;have h2:=h p q hp;have hd:DnP (P.set k q):=dn_set h (by omega);have hkl:=(List.getElem?_eq_some_iff.1 hk).1;refine⟨by simp,hd,fun x=>?_,by have:=sum_set P k p q hk;omega⟩
 induction x using Nat.strongRecOn with
 | _ x ih=>
  by_cases e:k=x
  ·subst e;have hs:(P.set k q)[k]? =some q:=List.getElem?_set_self hkl;rw[rootP_up h hk,rootP_up h hp];by_cases c:q=k
   ·subst c;rw[rootP_self hd hs];have:p=q:=by omega
    subst this;rw[rootP_self h hp]
   ·rw[rootP_up hd hs];exact ih q (by omega)
  ·cases hx:P[x]? with
   |none=>rw [rootP_none hx,rootP_none (by rw[List.getElem?_set_ne e];exact hx)]
   |some y=>
    have hy:=h x y hx;have hs:(P.set k q)[x]? =some y:=by rw[List.getElem?_set_ne e];exact hx
    rw[rootP_step h hx,rootP_step hd hs]
    split
    ·rfl
    ·exact ih y (by omega)
theorem unite_root {P:List Nat}(h:DnP P){a b:Nat}(ha:P[a]? =some a)(hb:P[b]? =some b)(hab:b≤a):
  DnP (P.set a b)∧(P.set a b).length=P.length∧(∀x,rootP (P.set a b) x=if rootP P x=a then b else rootP P x)∧(P.set a b).sum+a=P.sum+b:=by
 have hd:DnP (P.set a b):=dn_set h hab;have hal:=(List.getElem?_eq_some_iff.1 ha).1;refine⟨hd,by simp,fun x=>?_,sum_set P a a b ha⟩;have hs:(P.set a b)[a]? =some b:=List.getElem?_set_self hal
 have hrb:rootP (P.set a b) b=b:=by
  by_cases c:a=b
  ·subst c;exact rootP_self hd hs
  ·exact rootP_self hd (by rw[List.getElem?_set_ne c];exact hb)
 induction x using Nat.strongRecOn with
 | _ x ih=>
  by_cases e:a=x
  ·subst e;rw[rootP_self h ha,if_pos rfl,rootP_up hd hs,hrb]
  ·cases hx:P[x]? with
   |none=>
    rw[rootP_none hx,rootP_none (by rw[List.getElem?_set_ne e];exact hx),if_neg (fun c=>e c.symm)]
   | some y=>
    have hy:=h x y hx;have hs':(P.set a b)[x]? =some y:=by rw[List.getElem?_set_ne e];exact hx
    by_cases c:y=x
    ·subst c;rw[rootP_self h hx,rootP_self hd hs',if_neg (fun c=>e c.symm)]
    ·rw[rootP_up h hx,rootP_up hd hs'];exact ih y (by omega)
theorem alone_dn (N:Nat):DnP (List.range N):=by
 intro k p h;obtain⟨h1,h2⟩:=List.getElem?_eq_some_iff.1 h;simp at h2;omega
theorem alone_root (N k:Nat):rootP (List.range N) k=k:=by
 by_cases h:k<N
 ·exact rootP_self (alone_dn N) (by rw[List.getElem?_range h])
 ·exact rootP_none (List.getElem?_eq_none (by simp;omega))
end Go.Deco
namespace Go.Deco
open Go Go.RowKit
set_option linter.unusedSimpArgs false
set_option linter.unusedVariables false
def nodeV (l:List Con)(n:Nat)(x:Nat):Int:=if x<n then x else match l[x - n]? with
 |some c=>if wideC c then c.b else x
 |none=>x
theorem nodeV_var {l:List Con}{n x:Nat}(h:x<n):nodeV l n x=x:=by unfold nodeV;rw[if_pos h]
theorem nodeV_wide {l:List Con}{n k:Nat}{c:Con}(hc:l[k]? =some c)(hw:wideC c=true):nodeV l n (n+k)=c.b:=by
 unfold nodeV;rw[if_neg (by omega),show n+k - n=k by omega,hc];simp[hw]
def SoundR (l:List Con)(n:Nat)(r:Nat→Nat):Prop:=∀x y,x<n+l.length→y<n+l.length→r x=r y→VE l (nodeV l n x) (nodeV l n y)
theorem sound_alone (l:List Con)(n:Nat):SoundR l n (fun x=>x):=fun x y _ _ h=>by simp only at h;rw[h];exact .refl _
theorem sound_congr {l:List Con}{n:Nat}{r r':Nat→Nat}(h:SoundR l n r)(e:∀x,r' x=r x):SoundR l n r':=fun x y hx hy k=>h x y hx hy (by rw[←e,←e,k])
theorem sound_unite {l:List Con}{n:Nat}{r r':Nat→Nat}(h:SoundR l n r){x0 y0 a b:Nat}(hx0:x0<n+l.length)(hy0:y0<n+l.length)(hv:VE l (nodeV l n x0) (nodeV l n y0))
  (hab:(r x0=a∧r y0=b)∨(r x0=b∧r y0=a)) (e:∀z,r' z=if r z=a then b else r z):SoundR l n r':=by
 have key:∀x,x<n+l.length→(r x=a∨r x=b)→VE l (nodeV l n x) (nodeV l n x0):=fun x hx hr=>by
  rcases hab with⟨h1,h2⟩|⟨h1,h2⟩
  ·rcases hr with hr|hr
   ·exact h x x0 hx hx0 (by rw[hr,h1])
   ·exact(h x y0 hx hy0 (by rw[hr,h2])).trans hv.symm
  ·rcases hr with hr|hr
   ·exact(h x y0 hx hy0 (by rw[hr,h2])).trans hv.symm
   ·exact h x x0 hx hx0 (by rw[hr,h1])
 intro x y hx hy k;rw[e,e]at k;by_cases c1:r x=a
 ·rw[if_pos c1]at k;by_cases c2:r y=a
  ·exact(key x hx (.inl c1)).trans (key y hy (.inl c2)).symm
  ·rw[if_neg c2]at k;exact(key x hx (.inl c1)).trans (key y hy (.inr k.symm)).symm
 ·rw[if_neg c1]at k;by_cases c2:r y=a
  ·rw[if_pos c2]at k;exact(key x hx (.inr k)).trans (key y hy (.inl c2)).symm
  ·rw[if_neg c2]at k;exact h x y hx hy k
structure ClosedR (l:List Con)(n:Nat)(r:Nat→Nat):Prop where
 sub:∀c∈l,c.kind=0→r c.a.toNat=r c.b.toNat
 node:∀k c,l[k]? =some c→wideC c=true→r (n+k)=r c.b.toNat
 cell:∀k i c e,l[k]? =some c→l[i]? =some e→wideC c=true→wideC e=true→c.off=e.off→r c.a.toNat=r e.a.toNat→r (n+k)=r (n+i)
theorem wide_k {c:Con}(h:wideC c=true):c.kind≠1∧c.kind≠0∧(c.kind=2∨c.kind=3):=by
 unfold wideC accC at h;simp only[Bool.and_eq_true,decide_eq_true_eq]at h;omega
theorem closed_var {l:List Con}{n:Nat}{r:Nat→Nat}(hok:∀c∈l,OkC n c)(h:ClosedR l n r){x y:Int}(hv:VE l x y):r x.toNat=r y.toNat:=by
 induction hv with
 |refl=>rfl
 |symm _ ih=>exact ih.symm
 |trans _ _ i1 i2=>exact i1.trans i2
 |sub hc hk=>exact h.sub _ hc hk
 |cell hc he w1 w2 ho _ ih=>
  obtain⟨k,hk⟩:=List.getElem?_of_mem hc;obtain⟨i,hi⟩:=List.getElem?_of_mem he;rw[←h.node k _ hk w1,←h.node i _ hi w2];exact h.cell k i _ _ hk hi w1 w2 ho ih
def ClassR (l:List Con)(n:Nat)(r:Nat→Nat):Prop:=∀x y,x<n+l.length→y<n+l.length→(r x=r y↔VE l (nodeV l n x) (nodeV l n y))
theorem class_of {l:List Con}{n:Nat}{r:Nat→Nat}(hok:∀c∈l,OkC n c)(hs:SoundR l n r)(hc:ClosedR l n r):ClassR l n r:=by
 have var:∀x,x<n+l.length→(r x=r (nodeV l n x).toNat∧0≤nodeV l n x∧nodeV l n x<n)∨(nodeV l n x=x∧(n:Int)≤x):=fun x hx=>by
  unfold nodeV;by_cases h:x<n
  ·rw[if_pos h];exact .inl ⟨rfl,by omega,by omega⟩
  ·rw[if_neg h];have hg:=List.getElem?_eq_getElem (l:=l) (i:=x - n) (by omega);rw[hg];simp only
   split
   ·rename_i hw
    have ho:=hok _ (List.mem_of_getElem? hg);have hk:=(wide_k hw).1;have:=hc.node (x - n) _ hg hw;rw[show n+(x - n)=x by omega]at this;exact .inl ⟨this,ho.b0 hk,ho.b1 hk⟩
   ·exact .inr ⟨rfl,by omega⟩
 intro x y hx hy;refine⟨hs x y hx hy,fun hv=>?_⟩;rcases var x hx with⟨h1,h2,h3⟩|⟨h1,h2⟩
 ·rcases var y hy with⟨k1,k2,k3⟩|⟨k1,k2⟩
  ·rw[h1,k1];exact closed_var hok hc hv
  ·rw[k1]at hv;rcases ve_new hok hv with e|e <;> omega
 ·rw[h1]at hv;rcases ve_new hok hv with e|e
  ·rcases var y hy with⟨k1,k2,k3⟩|⟨k1,k2⟩
   ·omega
   ·have:x=y:=by omega
    rw[this]
  ·omega
section
variable {l:List Con}{n:Nat}{r:Nat→Nat}
theorem class_var (h:ClassR l n r){x y:Nat}(hx:x<n)(hy:y<n):r x=r y↔VE l (x:Int) (y:Int):=by
 rw[h x y (by omega) (by omega),nodeV_var hx,nodeV_var hy]
theorem class_int (h:ClassR l n r){x y:Int}(h0:0≤x)(h1:x<n)(k0:0≤y)(k1:y<n):r x.toNat=r y.toNat↔VE l x y:=by
 rw[class_var h (by omega) (by omega),Int.toNat_of_nonneg h0,Int.toNat_of_nonneg k0]
theorem class_node (h:ClassR l n r){k:Nat}{c:Con}(hok:OkC n c)(hc:l[k]? =some c)(hw:wideC c=true):r (n+k)=r c.b.toNat:=by
 have h0:=hok.b0 (wide_k hw).1;have h1:=hok.b1 (wide_k hw).1;have hk:=(List.getElem?_eq_some_iff.1 hc).1;rw[h _ _ (by omega) (by omega),nodeV_wide hc hw,nodeV_var (by omega),Int.toNat_of_nonneg h0];exact .refl _
theorem class_cell (h:ClassR l n r){c e:Con}(hc:OkC n c)(he:OkC n e)(w1:wideC c=true)(w2:wideC e=true):SameCell l c e↔c.off=e.off∧r c.a.toNat=r e.a.toNat:=by
 unfold SameCell;rw[class_int h hc.a0 hc.a1 he.a0 he.a1];exact⟨fun k=>k.2.2,fun k=>⟨w1,w2,k⟩⟩
end
end Go.Deco
namespace Go.Deco
open Go Go.RowKit
set_option linter.unusedSimpArgs false
set_option linter.unusedVariables false
def inPlace (l:List Con)(r:Nat→Nat)(p:Nat×Int)(i:Nat):Bool:=match l[i]? with
 |some c=>wideC c && decide (r c.a.toNat=p.1) && decide (c.off=p.2)
 |none=>false
def placeK (l:List Con)(r:Nat→Nat)(m:Nat)(p:Nat×Int):List Nat:=(List.range m).filter (inPlace l r p)
def placeL (l:List Con)(r:Nat→Nat)(p:Nat×Int):List Nat:=placeK l r l.length p
theorem placeK_mem {l:List Con}{r:Nat→Nat}{m:Nat}{p:Nat×Int}{i:Nat}:i∈placeK l r m p↔i<m∧∃c,l[i]? =some c∧wideC c=true∧r c.a.toNat=p.1∧c.off=p.2:=by
 unfold placeK inPlace;rw[List.mem_filter,List.mem_range]
 cases h:l[i]? with
 |none=>simp
 |some c=>simp [and_assoc]
theorem placeK_step {l:List Con}{r:Nat→Nat}{m:Nat}{c:Con}(hc:l[m]? =some c)(p:Nat×Int):placeK l r (m+1) p=if wideC c=true∧r c.a.toNat=p.1∧c.off=p.2 then placeK l r m p ++ [m] else placeK l r m p:=by
 unfold placeK;rw[List.range_succ,List.filter_append];have:inPlace l r p m=(wideC c && decide (r c.a.toNat=p.1) && decide (c.off=p.2)):=by unfold inPlace;rw[hc]
 split
 ·rename_i h
  rw[List.filter_cons_of_pos (by rw[this,h.1,decide_eq_true h.2.1,decide_eq_true h.2.2];rfl)];rfl
 ·rename_i h
  rw[List.filter_cons_of_neg (by rw[this];simp only[Bool.and_eq_true,decide_eq_true_eq];exact fun k=>h ⟨k.1.1,k.1.2,k.2⟩)];simp
theorem placeK_congr {l:List Con}{r r':Nat→Nat}(h:∀x,r' x=r x)(m:Nat)(p:Nat×Int):placeK l r' m p=placeK l r m p:=by
 have:r'=r:=funext h;rw[this]
def placeOf (r:Nat→Nat)(c:Con):Nat×Int:=(r c.a.toNat,c.off)
def cellN (l:List Con)(n:Nat)(r:Nat→Nat)(c:Con):Nat:=n+(placeL l r (placeOf r c)).headD 0
section
variable {l:List Con}{n:Nat}{r:Nat→Nat}
theorem place_self {k:Nat}{c:Con}(hc:l[k]? =some c)(hw:wideC c=true):k∈placeL l r (placeOf r c):=
 placeK_mem.2 ⟨(List.getElem?_eq_some_iff.1 hc).1,c,hc,hw,rfl,rfl⟩
theorem cellN_spec {c:Con}(hc:c∈l)(hw:wideC c=true):∃i e,cellN l n r c=n+i∧l[i]? =some e∧wideC e=true∧r e.a.toNat=r c.a.toNat∧e.off=c.off∧(placeL l r (placeOf r c))[0]? =some i:=by
 obtain⟨k,hk⟩:=List.getElem?_of_mem hc;have hm:=place_self (r:=r) hk hw;unfold cellN
 cases h:placeL l r (placeOf r c) with
 |nil=>rw [h]at hm;cases hm
 |cons i rest=>
  have hi:i∈placeL l r (placeOf r c):=by rw[h];exact List.mem_cons_self ..
  obtain⟨_,e,h1,h2,h3,h4⟩:=placeK_mem.1 hi;exact⟨i,e,rfl,h1,h2,h3,h4,rfl⟩
theorem cellN_ge (c:Con):n≤cellN l n r c:=by unfold cellN;omega
theorem cellN_eq {c e:Con}(h1:c.off=e.off)(h2:r c.a.toNat=r e.a.toNat):cellN l n r c=cellN l n r e:=by unfold cellN placeOf;rw[h1,h2]
theorem cellN_inj {c e:Con}(hc:c∈l)(he:e∈l)(w1:wideC c=true)(w2:wideC e=true)(h:cellN l n r c=cellN l n r e):c.off=e.off∧r c.a.toNat=r e.a.toNat:=by
 obtain⟨i,x,e1,h1,_,h2,h3,_⟩:=cellN_spec (n:=n) (r:=r) hc w1;obtain⟨j,y,e2,k1,_,k2,k3,_⟩:=cellN_spec (n:=n) (r:=r) he w2;obtain rfl:i=j:=by omega
 rw[h1]at k1;cases k1;exact⟨h3.symm.trans k3,h2.symm.trans k2⟩
theorem cellN_same (h:ClassR l n r)(hok:∀c∈l,OkC n c){c e:Con}(hc:c∈l)(he:e∈l)(w1:wideC c=true)(w2:wideC e=true):cellN l n r c=cellN l n r e↔SameCell l c e:=by
 rw[class_cell h (hok c hc) (hok e he) w1 w2];exact⟨cellN_inj hc he w1 w2,fun k=>cellN_eq k.1 k.2⟩
theorem cellN_lt {c:Con}(hc:c∈l)(hw:wideC c=true):cellN l n r c<n+l.length:=by
 obtain⟨i,e,h1,h2,_⟩:=cellN_spec (n:=n) (r:=r) hc hw;have:=(List.getElem?_eq_some_iff.1 h2).1;omega
end
def edgeC (l:List Con)(n:Nat)(r:Nat→Nat)(c:Con):Option (Nat×Nat):=
 if c.kind=0 then some (c.a.toNat,c.b.toNat) else if wideC c=true then (if c.kind=2 then some (cellN l n r c,c.b.toNat) else some (c.b.toNat,cellN l n r c)) else none
def addE (x:Nat)(L:List Nat):Option (Nat×Nat)→List Nat
 |some (a,b)=>if a=x then L ++ [b] else L
 |none=>L
def edgesK (l:List Con)(n:Nat)(r:Nat→Nat):Nat→Nat→List Nat
 |0,_=>[]
 |m+1,x=>match l[m]? with
  |some c=>addE x (edgesK l n r m x) (edgeC l n r c)
  |none=>edgesK l n r m x
def initK (l:List Con):Nat→Nat→Ty
 |0,_=>Ty.unk
 |m+1,x=>match l[m]? with
  |some c=>if c.kind=1∧c.a.toNat=x then joinT (initK l m x) c.type else initK l m x
  |none=>initK l m x
def NStep (l:List Con)(n:Nat)(r:Nat→Nat)(x y:Nat):Prop:=∃c∈l,edgeC l n r c=some (x,y)
inductive NReach (l:List Con)(n:Nat)(r:Nat→Nat):Nat→Nat→Prop
 |refl (x:Nat):NReach l n r x x
 |step {x y z:Nat}:NReach l n r x y→NStep l n r y z→NReach l n r x z
section
variable {l:List Con}{n:Nat}{r:Nat→Nat}
theorem edgesK_mem:∀{m x y:Nat},y∈edgesK l n r m x↔∃k c,k<m∧l[k]? =some c∧edgeC l n r c=some (x,y)
 |0,x,y=>by simp[edgesK]
 | m + 1,x,y=>by
  rw[edgesK];constructor
  ·intro h
   cases hc:l[m]? with
   |none=>
    rw[hc]at h;obtain⟨k,c,h1,h2⟩:=edgesK_mem.1 h;exact⟨k,c,by omega,h2⟩
   | some c=>
    rw[hc]at h;simp only at h;unfold addE at h
    split at h
    ·rename_i a b he
     split at h
     ·rename_i hx
      rcases List.mem_append.1 h with h|h
      ·obtain⟨k,c,h1,h2⟩:=edgesK_mem.1 h;exact⟨k,c,by omega,h2⟩
      ·simp at h;subst h hx;exact⟨m,c,by omega,hc,he⟩
     ·obtain⟨k,c,h1,h2⟩:=edgesK_mem.1 h;exact⟨k,c,by omega,h2⟩
    ·obtain⟨k,c,h1,h2⟩:=edgesK_mem.1 h;exact⟨k,c,by omega,h2⟩
  ·rintro⟨k,c,h1,h2,h3⟩;by_cases hk:k=m
   ·subst hk;rw[h2];simp only;rw[h3];simp[addE]
   ·have h4:y∈edgesK l n r m x:=edgesK_mem.2 ⟨k,c,by omega,h2,h3⟩
    cases hc:l[m]? with
    |none=>exact h4
    | some c'=>
     simp only;unfold addE
     split
     ·split
      ·exact List.mem_append_left _ h4
      ·exact h4
     ·exact h4
theorem edges_step {x y:Nat}:y∈edgesK l n r l.length x↔NStep l n r x y:=by
 rw[edgesK_mem];constructor
 ·rintro⟨k,c,_,h1,h2⟩;exact⟨c,List.mem_of_getElem? h1,h2⟩
 ·rintro⟨c,hc,h⟩;obtain⟨k,hk⟩:=List.getElem?_of_mem hc;exact⟨k,c,(List.getElem?_eq_some_iff.1 hk).1,hk,h⟩
theorem edge_lt (hok:∀c∈l,OkC n c){x y:Nat}(h:NStep l n r x y):x<n+l.length∧y<n+l.length:=by
 obtain⟨c,hc,h⟩:=h;have ho:=hok c hc;unfold edgeC at h
 split at h
 ·rename_i hk
  cases h;have h1:=ho.a1;have h2:=ho.b1 (by omega);have h3:=ho.a0;have h4:=ho.b0 (by omega);omega
 ·split at h
  ·rename_i hw
   have h2:=ho.b1 (wide_k hw).1;have h4:=ho.b0 (wide_k hw).1;have h5:=cellN_lt (n:=n) (r:=r) hc hw
   split at h <;> cases h <;> omega
  ·cases h
theorem initK_good (hok:∀c∈l,OkC n c):∀(m x:Nat),goodT (initK l m x)=true
 |0,_=>unk_good
 | m+1,x=>by
  rw[initK]
  cases hc:l[m]? with
  |none=>exact initK_good hok m x
  | some c=>
   simp only
   split
   ·rename_i h
    exact join_good (initK_good hok m x) ((hok c (List.mem_of_getElem? hc)).t h.1)
   ·exact initK_good hok m x
theorem initK_le (hok:∀c∈l,OkC n c):∀{m k:Nat} {c:Con},k<m→l[k]? =some c→c.kind=1→subT c.type (initK l m c.a.toNat)=true
 | m +1,k,c,hk,hc,h1=>by
  rw[initK];have hgc:=good_form ((hok c (List.mem_of_getElem? hc)).t h1);have hgm:=good_form (initK_good hok m c.a.toNat);by_cases e:k=m
  ·subst e;rw[hc];simp only[h1,and_self,if_true];exact join_le2 hgm hgc
  ·have ih:=initK_le hok (m:=m) (by omega) hc h1
   cases hm:l[m]? with
   |none=>exact ih
   | some c'=>
    simp only
    split
    ·rename_i h
     have hgc':=good_form ((hok c' (List.mem_of_getElem? hm)).t h.1);exact subT_trans hgc hgm (join_form hgm hgc') ih (join_le1 hgm hgc')
    ·exact ih
theorem initK_least (hok:∀c∈l,OkC n c){u:Ty}(hu:goodT u=true){x:Nat}(h:∀c∈l,c.kind=1→c.a.toNat=x→subT c.type u=true):∀(m:Nat),subT (initK l m x) u=true
 |0=>sub_unk u
 | m+1=>by
  rw[initK];have ih:=initK_least hok hu h m
  cases hc:l[m]? with
  |none=>exact ih
  | some c=>
   simp only
   split
   ·rename_i hk
    have hm:=List.mem_of_getElem? hc;exact join_least (good_form (initK_good hok m x)) (good_form ((hok c hm).t hk.1)) (good_form hu) ih (h c hm hk.1 hk.2)
   ·exact ih
theorem nreach_to (hcl:ClassR l n r)(hok:∀c∈l,OkC n c){x y:Nat}(h:NReach l n r x y)(hx:x<n):
  (y<n→Reach l (x:Int) (y:Int))∧∀c∈l,wideC c=true→y=cellN l n r c→∃e∈l,e.kind=3∧SameCell l e c∧Reach l (x:Int) e.b:=by
 induction h with
 |refl=>exact⟨fun _=> .refl _,fun c hc hw e=>by have:=cellN_ge (l:=l) (n:=n) (r:=r) c;omega⟩
 | step _ s ih=>
  obtain⟨c,hc,he⟩:=s;have ho:=hok c hc;unfold edgeC at he
  split at he
  ·rename_i hk
   cases he;have h1:=ho.a1;have h2:=ho.b1 (by omega);have h3:=ho.a0;have h4:=ho.b0 (by omega);have h5:=ih.1 (by omega);rw[Int.toNat_of_nonneg h3]at h5;refine⟨fun _=>by rw[Int.toNat_of_nonneg h4];exact .step h5 (.sub hc hk),fun c' _ _ e=>?_⟩;have:=cellN_ge (l:=l) (n:=n) (r:=r) c';omega
  ·split at he
   ·rename_i hw
    have h2:=ho.b1 (wide_k hw).1;have h4:=ho.b0 (wide_k hw).1
    split at he
    ·rename_i hk
     cases he;obtain⟨e,he,e3,hse,hr⟩:=ih.2 c hc hw rfl;refine⟨fun _=>by rw[Int.toNat_of_nonneg h4];exact .step hr (.cell he hc hse e3 hk),fun c' _ _ e=>?_⟩;have:=cellN_ge (l:=l) (n:=n) (r:=r) c';omega
    ·rename_i hk
     cases he;have h5:=ih.1 (by omega);rw[Int.toNat_of_nonneg h4]at h5;refine⟨fun h=>?_,fun c' hc' hw' e=>⟨c,hc,by have:=(wide_k hw).2.2;omega,(cellN_same hcl hok hc hc' hw hw').1 e,h5⟩⟩;have:=cellN_ge (l:=l) (n:=n) (r:=r) c;omega
   ·cases he
theorem nreach_of (hcl:ClassR l n r)(hok:∀c∈l,OkC n c){x y:Int}(h:Reach l x y)(h0:0≤x):NReach l n r x.toNat y.toNat:=by
 induction h with
 |refl=>exact .refl _
 | step _ s ih=>
  cases s with
  |sub hc hk=>exact .step ih ⟨_,hc,by unfold edgeC;rw[if_pos hk]⟩
  | @cell s d hs hd hsd k3 k2=>
   have e1:edgeC l n r s=some (s.b.toNat,cellN l n r s):=by
    unfold edgeC;rw[if_neg (by omega),if_pos hsd.1,if_neg (by omega)]
   have e2:edgeC l n r d=some (cellN l n r s,d.b.toNat):=by
    unfold edgeC;rw[if_neg (by omega),if_pos hsd.2.1,if_pos k2,(cellN_same hcl hok hs hd hsd.1 hsd.2.1).2 hsd]
   exact .step (.step ih ⟨_,hs,e1⟩) ⟨_,hd,e2⟩
structure FlowIs (l:List Con)(n:Nat)(r:Nat→Nat)(opn:Nat→Prop)(S:Nat→Ty):Prop where
 good:∀x,goodT (S x)=true
 init:∀c∈l,c.kind=1→subT c.type (S c.a.toNat)=true
 edge:∀x y,NStep l n r x y→¬opn x→subT (S x) (S y)=true
 least:∀x u,goodT u=true→(∀c∈l,c.kind=1→NReach l n r c.a.toNat x→subT c.type u=true)→subT (S x) u=true
theorem flow_le (hok:∀c∈l,OkC n c){S:Nat→Ty}(h:FlowIs l n r (fun _=>False) S){x y:Nat}(hr:NReach l n r x y):subT (S x) (S y)=true:=by
 induction hr with
 |refl=>exact subT_refl (good_form (h.good _))
 |step _ s ih=>exact subT_trans (good_form (h.good _)) (good_form (h.good _)) (good_form (h.good _)) ih (h.edge _ _ s (fun k=>k))
theorem flow_scal (hcl:ClassR l n r)(hok:∀c∈l,OkC n c){S:Nat→Ty}(h:FlowIs l n r (fun _=>False) S){x:Nat}(hx:x<n):IsScal l (x:Int) (S x):=by
 refine⟨h.good x, ?_,fun u hu hs=>h.least x u hu fun c hc hk hr=>hs _ ⟨c,hc,hk, ?_,rfl⟩⟩
 ·rintro s ⟨k,hk,k1,hr,rfl⟩;have h1:=nreach_of hcl hok hr (hok k hk).a0;rw[Int.toNat_natCast]at h1;exact subT_trans (good_form ((hok k hk).t k1)) (good_form (h.good _)) (good_form (h.good _)) (h.init k hk k1) (flow_le hok h h1)
 ·have h0:=(hok c hc).a0;have h1:=(hok c hc).a1;have:=(nreach_to hcl hok hr (by omega)).1 hx
  rwa [Int.toNat_of_nonneg h0]at this
theorem flow_cell (hcl:ClassR l n r)(hok:∀c∈l,OkC n c){S:Nat→Ty}(h:FlowIs l n r (fun _=>False) S){c:Con}(hc:c∈l)(hw:wideC c=true):IsCell l c (S (cellN l n r c)):=by
 refine⟨h.good _, ?_,fun u hu hs=>h.least _ u hu fun k hk k1 hr=>hs _ ?_⟩
 ·rintro s ⟨e,he,e3,hse,k,hk,k1,hr,rfl⟩;have h1:=nreach_of hcl hok hr (hok k hk).a0
  have h2:NStep l n r e.b.toNat (cellN l n r c):=⟨e,he,by
   unfold edgeC;rw[if_neg (by omega),if_pos hse.1,if_neg (by omega),(cellN_same hcl hok he hc hse.1 hw).2 hse]⟩
  exact subT_trans (good_form ((hok k hk).t k1)) (good_form (h.good _)) (good_form (h.good _)) (h.init k hk k1) (flow_le hok h (.step h1 h2))
 ·have h0:=(hok k hk).a0;have h1:=(hok k hk).a1;obtain⟨e,he,e3,hse,hr'⟩:=(nreach_to hcl hok hr (by omega)).2 c hc hw rfl;rw[Int.toNat_of_nonneg h0]at hr';exact⟨e,he,e3,hse,k,hk,k1,hr',rfl⟩
theorem flow_start (hok:∀c∈l,OkC n c):FlowIs l n r (fun x=>(initK l l.length x).kind≠0) (initK l l.length):=by
 refine⟨fun x=>initK_good hok _ x,fun c hc hk=>?_,fun x y _ hx=>?_,fun x u hu h=>initK_least hok hu (fun c hc hk hx=>h c hc hk (by rw[hx];exact .refl _)) _⟩
 ·obtain⟨k,hk'⟩:=List.getElem?_of_mem hc;exact initK_le hok (List.getElem?_eq_some_iff.1 hk').1 hk' hk
 ·have:initK l l.length x=Ty.unk:=by
   have hg:=initK_good hok l.length x
   have h0:(initK l l.length x).kind=0:=by
    by_cases e:(initK l l.length x).kind=0
    ·exact e
    ·exact absurd e hx
   rcases formT_cases (good_form hg) with(e|e)|⟨s,hs,(e|e)⟩|⟨x,e,hx⟩|⟨x,n,e,h1,h2,hx⟩|⟨f,e,hl⟩ <;> rw[e]at h0
   ·exact e
   all_goals simp[Ty.any,Ty.int,Ty.uint,Ty.ptr,Ty.arr,Ty.str,Ty.kind]at h0
  rw[this];exact sub_unk _
theorem flow_step (hok:∀c∈l,OkC n c){S:Nat→Ty}{opn:Nat→Prop}(h:FlowIs l n r opn S){k t:Nat}(hs:NStep l n r k t):
  FlowIs l n r (fun x=>opn x∨x=t) (fun x=>if x=t then joinT (S t) (S k) else S x):=by
 have hft:=good_form (h.good t);have hfk:=good_form (h.good k)
 have hup:∀x,subT (S x) (if x=t then joinT (S t) (S k) else S x)=true:=fun x=>by
  split
  ·rename_i e;rw[e];exact join_le1 hft hfk
  ·exact subT_refl (good_form (h.good x))
 have hgd:∀x,goodT (if x=t then joinT (S t) (S k) else S x)=true:=fun x=>by
  split
  ·exact join_good (h.good t) (h.good k)
  ·exact h.good x
 refine⟨hgd,fun c hc hk=>?_,fun x y hxy hx=>?_,fun x u hu hl=>?_⟩
 ·exact subT_trans (good_form ((hok c hc).t hk)) (good_form (h.good _)) (good_form (hgd _)) (h.init c hc hk) (hup _)
 ·have hx1:x≠t:=fun e=>hx (.inr e);rw[if_neg hx1];have:=h.edge x y hxy (fun e=>hx (.inl e));exact subT_trans (good_form (h.good _)) (good_form (h.good _)) (good_form (hgd _)) this (hup y)
 ·split
  ·rename_i e
   subst e;refine join_least hft hfk (good_form hu) (h.least x u hu hl) (h.least k u hu fun c hc hk hr=>hl c hc hk (.step hr hs))
  ·exact h.least x u hu hl
theorem FlowIs.weaken {S:Nat→Ty}{opn opn':Nat→Prop}(h:FlowIs l n r opn S)(hx:∀x y,NStep l n r x y→opn x→¬opn' x→subT (S x) (S y)=true):FlowIs l n r opn' S:=
 ⟨h.good,h.init,fun x y hs hn=>by
  by_cases c:opn x
  ·exact hx x y hs c hn
  ·exact h.edge x y hs c,h.least⟩
end
end Go.Deco
namespace Go.Deco
open Go Go.RowKit
set_option linter.unusedSimpArgs false
set_option linter.unusedVariables false
theorem Content.mono {l:List Con}{P P':Int→Ty→Prop}(hP:∀x t,P x t→P' x t){c:Con}{t:Ty}(h:Content l P c t):Content l P' c t:=by
 unfold Content at h ⊢
 split
 ·rename_i hw;rwa [if_pos hw]at h
 ·rename_i hw
  rw[if_neg hw]at h;rcases h with h|⟨h1,h2,h3⟩|h
  ·exact .inl h
  ·exact .inr (.inl ⟨h1,h2,hP _ _ h3⟩)
  ·exact .inr (.inr h)
theorem Fields.mono {l:List Con}{P P':Int→Ty→Prop}(hP:∀x t,P x t→P' x t){x:Int}{F:List (Int×Ty)}(h:Fields l P x F):Fields l P' x F:=
 ⟨h.1,h.2.1,fun c hc ha hv=>by obtain⟨t,h1,h2⟩:=h.2.2 c hc ha hv;exact⟨t,h1,h2.mono hP⟩⟩
theorem PtrTy.up {l:List Con}:∀{n:Nat} {x:Int} {t:Ty},PtrTy l n x t→PtrTy l (n+1) x t
 |0,_,_,h=>h.elim
 |n+1,x,t,h=>by
  rcases h with h|⟨h1,F,hF,h2⟩
  ·exact .inl h
  ·exact .inr ⟨h1,F,hF.mono fun y u k=>PtrTy.up k,h2⟩
theorem PtrTy.mono {l:List Con}{n m:Nat}(hm:n≤m){x:Int}{t:Ty}(h:PtrTy l n x t):PtrTy l m x t:=by
 induction hm with
 |refl=>exact h
 |step _ ih=>exact ih.up
theorem lub_list:∀(L:List Ty),(∀t∈L,goodT t=true)→∃t,IsLub (fun s=>s∈L) t
 |[],_=>⟨Ty.unk,unk_good,fun s h=>(by cases h),fun u _ _=>sub_unk u⟩
 | s :: L,h=>by
  obtain⟨t,h1,h2,h3⟩:=lub_list L fun t ht=>h t (List.mem_cons_of_mem _ ht);have hs:=h s (List.mem_cons_self ..);refine⟨joinT s t,join_good hs h1,fun x hx=>?_,fun u hu hx=>?_⟩
  ·rcases List.mem_cons.1 hx with rfl|hx
   ·exact join_le1 (good_form hs) (good_form h1)
   ·exact subT_trans (good_form (h x (List.mem_cons_of_mem _ hx))) (good_form h1) (good_form (join_good hs h1)) (h2 x hx) (join_le2 (good_form hs) (good_form h1))
  ·exact join_least (good_form hs) (good_form h1) (good_form hu) (hx s (List.mem_cons_self ..)) (h3 u hu fun x k=>hx x (List.mem_cons_of_mem _ k))
open Classical in
theorem lub_cons {l:List Con}{n:Int}(hok:∀c∈l,OkC n c)(p:Con→Prop):∃t,IsLub (fun s=>∃k∈l,k.kind=1∧p k∧s=k.type) t:=by
 obtain⟨t,ht⟩:=lub_list ((l.filter fun k:Con=>decide (k.kind=1∧p k)).map Con.type) (fun t ht=>by
  obtain⟨k,hk,rfl⟩:=List.mem_map.1 ht;obtain⟨h1,h2⟩:=List.mem_filter.1 hk;exact(hok k h1).t (of_decide_eq_true h2).1)
 refine⟨t,ht.congr fun s=>?_⟩;constructor
 ·intro hs;obtain⟨k,hk,rfl⟩:=List.mem_map.1 hs;obtain⟨h1,h2⟩:=List.mem_filter.1 hk;exact⟨k,h1,(of_decide_eq_true h2).1,(of_decide_eq_true h2).2,rfl⟩
 ·rintro⟨k,hk,h1,h2,rfl⟩;exact List.mem_map.2 ⟨k,List.mem_filter.2 ⟨hk,decide_eq_true ⟨h1,h2⟩⟩,rfl⟩
theorem cell_ex {l:List Con}{n:Int}(hok:∀c∈l,OkC n c)(c:Con):∃t,IsCell l c t:=by
 obtain⟨t,ht⟩:=lub_cons hok fun k=>∃e∈l,e.kind=3∧SameCell l e c∧Reach l k.a e.b;refine⟨t,ht.congr fun s=>?_⟩;constructor
 ·rintro⟨k,hk,k1,⟨e,he,e3,hse,hr⟩,rfl⟩;exact⟨e,he,e3,hse,k,hk,k1,hr,rfl⟩
 ·rintro⟨e,he,e3,hse,k,hk,k1,hr,rfl⟩;exact⟨k,hk,k1,⟨e,he,e3,hse,hr⟩,rfl⟩
theorem Leads.left {l:List Con}{x x' y:Int}(hv:VE l x' x)(h:Leads l x y):Leads l x' y:=by
 induction h with
 |one hc hw h1 h2=>exact .one hc hw (h1.trans hv.symm) h2
 |more _ hc hw h1 h2 ih=>exact .more (ih hv) hc hw h1 h2
theorem Leads.right {l:List Con}{x y y':Int}(h:Leads l x y)(hv:VE l y y'):Leads l x y':=by
 cases h with
 |one hc hw h1 h2=>exact .one hc hw h1 (h2.trans hv)
 |more h0 hc hw h1 h2=>exact .more h0 hc hw h1 (h2.trans hv)
theorem Leads.trans {l:List Con}{x y z:Int}(h:Leads l x y)(k:Leads l y z):Leads l x z:=by
 induction k with
 |one hc hw h1 h2=>exact .more h hc hw h1 h2
 |more _ hc hw h1 h2 ih=>exact .more (ih h) hc hw h1 h2
def LeadsEq (l:List Con)(x y:Int):Prop:=VE l x y∨Leads l x y
open Classical in
noncomputable def mu (l:List Con) (n:Nat) (x:Int):Nat:=((List.range n).filter fun y:Nat=>decide (LeadsEq l x (y:Int))).length
theorem filter_lt' {p q:Nat→Bool}{L:List Nat}(h:∀x∈L,p x=true→q x=true){a:Nat}(ha:a∈L)(hp:p a=false)(hq:q a=true):(L.filter p).length<(L.filter q).length:=by
 induction L with
 |nil=>cases ha
 | cons b L ih=>
  have hle:(L.filter p).length≤(L.filter q).length:=by
   clear ih ha;have h':∀x∈L,p x=true→q x=true:=fun x hx=>h x (List.mem_cons_of_mem _ hx);clear h
   induction L with
   |nil=>simp
   | cons c L ih=>
    have h1:=ih fun x hx=>h' x (List.mem_cons_of_mem _ hx);by_cases hc:p c=true
    ·rw[List.filter_cons_of_pos hc,List.filter_cons_of_pos (h' c (List.mem_cons_self ..) hc)];simp;exact h1
    ·rw[List.filter_cons_of_neg hc];by_cases hq:q c=true
     ·rw[List.filter_cons_of_pos hq];simp;omega
     ·rw[List.filter_cons_of_neg hq];exact h1
  rcases List.mem_cons.1 ha with rfl|ha
  ·rw[List.filter_cons_of_neg (by simp[hp]),List.filter_cons_of_pos hq];simp;omega
  ·have h1:=ih (fun x hx=>h x (List.mem_cons_of_mem _ hx)) ha;by_cases hc:p b=true
   ·rw[List.filter_cons_of_pos hc,List.filter_cons_of_pos (h b (List.mem_cons_self ..) hc)];simp;exact h1
   ·rw[List.filter_cons_of_neg hc];by_cases hq':q b=true
    ·rw[List.filter_cons_of_pos hq'];simp;omega
    ·rw[List.filter_cons_of_neg hq'];exact h1
open Classical in
theorem mu_lt {l:List Con}{n:Nat}(hok:∀c∈l,OkC n c){c:Con}(hc:c∈l)(hw:wideC c=true){x:Int}(hv:VE l c.a x)(hr:¬Rec l c):mu l n c.b<mu l n x:=by
 have ho:=hok c hc;have h0:=ho.a0;have h1:=ho.a1;unfold mu;refine filter_lt' (a:=c.a.toNat) (fun y _ hy=>?_) (List.mem_range.2 (by omega)) ?_ ?_
 ·have hy':=of_decide_eq_true hy;refine decide_eq_true (.inr ?_);rcases hy' with hy'|hy'
  ·exact .one hc hw hv hy'
  ·exact(Leads.one hc hw hv (.refl _)).trans hy'
 ·refine decide_eq_false ?_;rw[Int.toNat_of_nonneg h0];rintro(k|k)
  ·exact hr (.inl k)
  ·exact hr (.inr k)
 ·refine decide_eq_true ?_;rw[Int.toNat_of_nonneg h0];exact .inl hv.symm
theorem mu_ve {l:List Con}{n:Nat}{x y:Int}(hv:VE l x y):mu l n x=mu l n y:=by
 have:∀z,LeadsEq l x z↔LeadsEq l y z:=fun z=>by
  constructor
  ·rintro(h|h)
   ·exact .inl (hv.symm.trans h)
   ·exact .inr (h.left hv.symm)
  ·rintro(h|h)
   ·exact .inl (hv.trans h)
   ·exact .inr (h.left hv)
 unfold mu;exact congrArg List.length (List.filter_congr fun z _=>decide_eq_decide.2 (this z))
theorem Rec.cell {l:List Con}{c e:Con}(hc:c∈l)(he:e∈l)(h:SameCell l c e)(k:Rec l c):Rec l e:=by
 have hb:=h.rel hc he;rcases k with k|k
 ·exact .inl (hb.symm.trans (k.trans h.2.2.2))
 ·exact .inr ((k.right h.2.2.2).left hb.symm)
theorem Used.cell {l:List Con}{c e:Con}{k:Int}(h:SameCell l c e)(u:Used l c k):Used l e k:=by
 obtain⟨x,hx,h1,h2⟩:=u;exact⟨x,hx,h.symm.trans h1,h2⟩
theorem IsCell.cell {l:List Con}{c e:Con}{t:Ty}(h:SameCell l c e)(k:IsCell l c t):IsCell l e t:=by
 refine IsLub.congr k fun s=>?_;constructor
 ·rintro⟨x,hx,x3,hs,r⟩;exact⟨x,hx,x3,hs.trans h,r⟩
 ·rintro⟨x,hx,x3,hs,r⟩;exact⟨x,hx,x3,hs.trans h.symm,r⟩
theorem Content.cell {l:List Con}{m:Nat}{c e:Con}{t:Ty}(hc:c∈l)(he:e∈l)(ac:accC c=true)(ae:accC e=true)(hv:VE l c.a e.a)(ho:c.off=e.off)(hw:c.width=e.width)(h:Content l (PtrTy l m) c t):Content l (PtrTy l m) e t:=by
 unfold Content at h ⊢;rw[←hw]
 split
 ·rename_i k;rwa [if_pos k]at h
 ·rename_i k
  rw[if_neg k]at h;have k4:c.width=4:=by omega
  have wc:wideC c=true:=wide_of ac k4;have we:wideC e=true:=wide_of ae (by omega);have hs:SameCell l c e:=⟨wc,we,ho,hv⟩;have hb:=hs.rel hc he;rcases h with⟨h1,h2⟩|⟨h1,h2,h3⟩|⟨h1,h2,h3⟩
  ·exact .inl ⟨fun k=>h1 (isptr_ve hb.symm k),h2.cell hs⟩
  ·exact .inr (.inl ⟨isptr_ve hb h1,fun k=>h2 (k.cell he hc hs.symm),ptrty_ve hb h3⟩)
  ·refine .inr (.inr ⟨isptr_ve hb h1,h2.cell hc he hs, ?_⟩);rcases h3 with⟨u,rfl⟩|⟨u,rfl⟩
   ·exact .inl ⟨u.cell hs,rfl⟩
   ·exact .inr ⟨fun k=>u (k.cell hs.symm),rfl⟩
def putF (o:Int)(t:Ty):List (Int×Ty)→List (Int×Ty)
 |[]=>[(o,t)]
 |(p,u) :: l=>if o<p then (o,t) :: (p,u) :: l else (p,u) :: putF o t l
theorem putF_mem {o:Int}{t:Ty}:∀{l:List (Int×Ty)} {f:Int×Ty},f∈putF o t l↔f=(o,t)∨f∈l
 |[],f=>by simp[putF]
 | (p,u) :: l,f=>by
  rw[putF]
  split
  ·simp
  ·rw[List.mem_cons,putF_mem (l:=l),List.mem_cons];constructor
   ·rintro(h|h|h)
    ·exact .inr (.inl h)
    ·exact .inl h
    ·exact .inr (.inr h)
   ·rintro(h|h|h)
    ·exact .inr (.inl h)
    ·exact .inl h
    ·exact .inr (.inr h)
theorem putF_asc {o:Int}{t:Ty}:∀{l:List (Int×Ty)},AscF l→(∀f∈l,f.1≠o)→AscF (putF o t l)
 |[],_,_=>by simp[putF,AscF]
 | (p,u) :: l,h,hn=>by
  have h':=List.pairwise_cons.1 h;have hp:=hn (p,u) (List.mem_cons_self ..);simp only at hp;rw[putF]
  split
  ·rename_i hlt
   refine List.pairwise_cons.2 ⟨fun f hf=>?_,h⟩;rcases List.mem_cons.1 hf with rfl|hf
   ·exact hlt
   ·have:=h'.1 f hf;simp only at this ⊢;omega
  ·rename_i hlt
   refine List.pairwise_cons.2 ⟨fun f hf=>?_,putF_asc h'.2 fun f hf=>hn f (List.mem_cons_of_mem _ hf)⟩;rcases putF_mem.1 hf with rfl|hf
   ·simp only;omega
   ·exact h'.1 f hf
theorem fields_ex {l:List Con}{m:Nat}{x:Int}(hC:∀c∈l,accC c=true→VE l c.a x→∃t,Content l (PtrTy l m) c t)
  (hS:∀c∈l,∀e∈l,accC c=true→accC e=true→VE l c.a x→VE l e.a x→c.off=e.off→c.width=e.width):∃F,Fields l (PtrTy l m) x F:=by
 have key:∀L:List Con,(∀c∈L,c∈l∧accC c=true∧VE l c.a x)→∃F,AscF F∧(∀f∈F,∃c∈L,c.off=f.1)∧∀c∈L,∃t,lkF F c.off=some t∧Content l (PtrTy l m) c t:=by
  intro L
  induction L with
  |nil=>exact fun _=>⟨[],List.Pairwise.nil,fun f h=>(by cases h),fun c h=>(by cases h)⟩
  | cons c L ih=>
   intro hL;obtain⟨F,h1,h2,h3⟩:=ih fun e he=>hL e (List.mem_cons_of_mem _ he);obtain⟨hc,ac,vc⟩:=hL c (List.mem_cons_self ..);by_cases hx:∃e∈L,e.off=c.off
   ·obtain⟨e,he,ho⟩:=hx;obtain⟨hel,ae,ve⟩:=hL e (List.mem_cons_of_mem _ he);obtain⟨t,k1,k2⟩:=h3 e he;refine⟨F,h1,fun f hf=>?_,fun d hd=>?_⟩
    ·obtain⟨d,hd,e'⟩:=h2 f hf;exact⟨d,List.mem_cons_of_mem _ hd,e'⟩
    ·rcases List.mem_cons.1 hd with rfl|hd
     ·exact⟨t,by rw[←ho];exact k1,k2.cell hel hc ae ac (ve.trans vc.symm) ho (hS e hel _ hc ae ac ve vc ho)⟩
     ·exact h3 d hd
   ·obtain⟨t,ht⟩:=hC c hc ac vc
    have hn:∀f∈F,f.1≠c.off:=fun f hf e=>by
     obtain⟨d,hd,e'⟩:=h2 f hf;exact hx ⟨d,hd,e'.trans e⟩
    have ha:=putF_asc (t:=t) h1 hn;refine⟨putF c.off t F,ha,fun f hf=>?_,fun d hd=>?_⟩
    ·rcases putF_mem.1 hf with rfl|hf
     ·exact⟨c,List.mem_cons_self ..,rfl⟩
     ·obtain⟨d,hd,e'⟩:=h2 f hf;exact⟨d,List.mem_cons_of_mem _ hd,e'⟩
    ·rcases List.mem_cons.1 hd with rfl|hd
     ·exact⟨t,lkF_of_mem ha (putF_mem.2 (.inl rfl)),ht⟩
     ·obtain⟨u,k1,k2⟩:=h3 d hd;exact⟨u,lkF_of_mem ha (putF_mem.2 (.inr (lkF_mem k1))),k2⟩
 classical
 obtain⟨F,h1,h2,h3⟩:=key (l.filter fun c=>decide (accC c=true∧VE l c.a x)) (fun c hc=>by
  obtain⟨k1,k2⟩:=List.mem_filter.1 hc;exact⟨k1,of_decide_eq_true k2⟩)
 refine⟨F,h1,fun f hf=>?_,fun c hc ac vc=>h3 c (List.mem_filter.2 ⟨hc,decide_eq_true ⟨ac,vc⟩⟩)⟩;obtain⟨c,hc,ho⟩:=h2 f hf;obtain⟨k1,k2⟩:=List.mem_filter.1 hc;have k2:=of_decide_eq_true k2;exact⟨c,k1,k2.1,k2.2,ho⟩
theorem not_spoiled_width {l:List Con}{x:Int}(h:¬Spoiled l x):∀c∈l,∀e∈l,accC c=true→accC e=true→VE l c.a x→VE l e.a x→c.off=e.off→c.width=e.width:=by
 intro c hc e he ac ae vc ve ho;by_cases hw:c.width=e.width
 ·exact hw
 ·exact absurd ⟨c,hc,vc,.inr (.inr (.inl ⟨ac,e,he,ae,ve,ho.symm,fun k=>hw k.symm⟩))⟩ h
theorem content_ex {l:List Con}{n:Nat}(hok:∀c∈l,OkC n c){m:Nat}{c:Con}(hc:c∈l)(ac:accC c=true)(hP:IsPtr l c.b→wideC c=true→¬Rec l c→∃t,PtrTy l m c.b t):∃t,Content l (PtrTy l m) c t:=by
 unfold Content;by_cases hw:c.width=4
 ·simp only[hw,ne_eq,not_true_eq_false,if_false];by_cases hp:IsPtr l c.b
  ·by_cases hr:Rec l c
   ·by_cases hu:Used l c 3
    ·exact⟨Ty.any,.inr (.inr ⟨hp,hr,.inl ⟨hu,rfl⟩⟩)⟩
    ·exact⟨Ty.unk,.inr (.inr ⟨hp,hr,.inr ⟨hu,rfl⟩⟩)⟩
   ·obtain⟨t,ht⟩:=hP hp (wide_of ac hw) hr;exact⟨t,.inr (.inl ⟨hp,hr,ht⟩)⟩
  ·obtain⟨t,ht⟩:=cell_ex hok c;exact⟨t,.inl ⟨hp,ht⟩⟩
 ·exact⟨_,by rw[if_pos hw]⟩
theorem ptr_ex {l:List Con}{n:Nat}(hok:∀c∈l,OkC n c):∀(m:Nat) (x:Int),mu l n x<m→∃t,PtrTy l m x t
 |0,_,h=>by omega
 | m+1,x,h=>by
  by_cases hs:Spoiled l x
  ·exact⟨Ty.any,.inl ⟨hs,rfl⟩⟩
  ·obtain⟨F,hF⟩:=fields_ex (l:=l) (m:=m) (x:=x) (fun c hc ac vc=>content_ex hok hc ac fun hp hw hr=>by
    have:=mu_lt hok hc hw vc hr;exact ptr_ex hok m c.b (by omega)) (not_spoiled_width hs)
   exact⟨_,.inr ⟨hs,F,hF,rfl⟩⟩
theorem fields_ex' {l:List Con}{n:Nat}(hok:∀c∈l,OkC n c){m:Nat}{x:Int}(h:mu l n x≤m)(hs:¬Spoiled l x):∃F,Fields l (PtrTy l m) x F:=
 fields_ex (fun c hc ac vc=>content_ex hok hc ac fun hp hw hr=>by
  have:=mu_lt hok hc hw vc hr;exact ptr_ex hok m c.b (by omega)) (not_spoiled_width hs)
theorem cntT_pos (t:Ty):1≤cntT t:=by cases t;rw[cntT];omega
theorem cntF_sub:∀{G F:List (Int×Ty)},AscF G→AscF F→(∀f∈G,f∈F)→cntF G≤cntF F
 |[],F,_,_,_=>by rw[cntF];omega
 |(o,t) :: G,[],_,_,h=>by have:=h (o,t) (List.mem_cons_self ..);cases this
 | (o,t) :: G,(p,u) :: F,hG,hF,h=>by
  have hG':=List.pairwise_cons.1 hG;have hF':=List.pairwise_cons.1 hF;by_cases e:o=p
  ·subst e
   have h0:t=u:=by
    rcases List.mem_cons.1 (h (o,t) (List.mem_cons_self ..)) with k|k
    ·cases k;rfl
    ·have:=hF'.1 _ k;simp only at this;omega
   subst h0;rw[cntF,cntF]
   have:=cntF_sub hG'.2 hF'.2 fun f hf=>by
    rcases List.mem_cons.1 (h f (List.mem_cons_of_mem _ hf)) with k|k
    ·have:=hG'.1 f hf;rw[k]at this;simp only at this;omega
    ·exact k
   omega
  ·have hm:∀f∈(o,t) :: G,f∈F:=fun f hf=>by
    rcases List.mem_cons.1 (h f hf) with k|k
    ·rcases List.mem_cons.1 hf with k'|k'
     ·rw[k]at k';cases k';exact absurd rfl e
     ·have h1:=hG'.1 f k';rw[k]at h1;rcases List.mem_cons.1 (h (o,t) (List.mem_cons_self ..)) with k2|k2
      ·cases k2;exact absurd rfl e
      ·have h2:=hF'.1 _ k2;simp only at h1 h2;omega
    ·exact k
   have:=cntF_sub hG hF'.2 hm;rw[show cntF ((p,u) :: F)=cntT u+cntF F from by rw[cntF]];omega
end Go.Deco
namespace Go.Deco
open Go Go.RowKit
set_option linter.unusedSimpArgs false
set_option linter.unusedVariables false
structure Cl2 (l:List Con)(n:Nat)(r:Nat→Nat)(k:Nat):Prop where
 sub:∀i c,i<k→l[i]? =some c→c.kind=0→r c.a.toNat=r c.b.toNat
 node:∀i c,i<k→l[i]? =some c→wideC c=true→r (n+i)=r c.b.toNat
section
variable {l:List Con}{n:Nat}{r r':Nat→Nat}
theorem Cl2.start:Cl2 l n r 0:=⟨fun i _ h=>by omega,fun i _ h=>by omega⟩
theorem Cl2.mono {k:Nat}(h:Cl2 l n r k)(e:∀x y,r x=r y→r' x=r' y):Cl2 l n r' k:=⟨fun i c h1 h2 h3=>e _ _ (h.sub i c h1 h2 h3),fun i c h1 h2 h3=>e _ _ (h.node i c h1 h2 h3)⟩
theorem Cl2.step {k:Nat}{c:Con}(h:Cl2 l n r k)(hc:l[k]? =some c)(e:∀x y,r x=r y→r' x=r' y)(h1:c.kind=0→r' c.a.toNat=r' c.b.toNat)(h2:wideC c=true→r' (n+k)=r' c.b.toNat):Cl2 l n r' (k+1):=by
 have h':=h.mono e;refine⟨fun i d hi hd hk=>?_,fun i d hi hd hk=>?_⟩
 ·by_cases hik:i=k
  ·subst hik;rw[hc]at hd;cases hd;exact h1 hk
  ·exact h'.sub i d (by omega) hd hk
 ·by_cases hik:i=k
  ·subst hik;rw[hc]at hd;cases hd;exact h2 hk
  ·exact h'.node i d (by omega) hd hk
theorem unite_mono {a b:Nat}(e:∀x,r' x=if r x=a then b else r x):∀x y,r x=r y→r' x=r' y:=fun x y h=>by rw[e,e,h]
theorem unite_eq {x0 y0:Nat}(e:∀x,r' x=if r x=max (r x0) (r y0) then min (r x0) (r y0) else r x):r' x0=r' y0:=by
 rw[e,e];rcases Nat.lt_trichotomy (r x0) (r y0) with h|h|h
 ·rw[if_neg (by omega),if_pos (by omega)];omega
 ·rw[h]
 ·rw[if_pos (by omega),if_neg (by omega)];omega
theorem unite_sound (h:SoundR l n r){x0 y0:Nat}(hx0:x0<n+l.length)(hy0:y0<n+l.length)(hv:VE l (nodeV l n x0) (nodeV l n y0))(e:∀x,r' x=if r x=max (r x0) (r y0) then min (r x0) (r y0) else r x):SoundR l n r':=by
 refine sound_unite h hx0 hy0 hv (a:=max (r x0) (r y0)) (b:=min (r x0) (r y0)) ?_ e;rcases Nat.le_total (r x0) (r y0) with h|h
 ·right;omega
 ·left;omega
structure RndP (l:List Con)(n:Nat)(r0 r:Nat→Nat)(k:Nat)(ch:Bool)(cf:Nat→Int→List Nat):Prop where
 snd:∀q o i,i∈cf q o→i<k∧q<n+l.length∧∃c,l[i]? =some c∧wideC c=true∧c.off=o∧VE l c.a (nodeV l n q)
 no:ch=false→(∀x,r x=r0 x)∧(∀q o,cf q o=placeK l r0 k (q,o))∧∀i c,i<k→l[i]? =some c→wideC c=true→r0 (n+i)=r0 (n+(placeK l r0 k (placeOf r0 c)).headD 0)
theorem RndP.start:RndP l n r r 0 false (fun _ _=>[]):=⟨fun _ _ _ h=>(by cases h),fun _=>⟨fun _=>rfl,fun _ _=>rfl,fun i _ h=>by omega⟩⟩
theorem headD_app {L:List Nat}{k:Nat}(h:L≠[]):(L ++ [k]).headD 0=L.headD 0:=by
 cases L with
 |nil=>exact absurd rfl h
 |cons x L=>rfl
theorem RndP.skip {r0:Nat→Nat}{k:Nat}{ch:Bool}{cf:Nat→Int→List Nat}{c:Con}(h:RndP l n r0 r k ch cf)(hc:l[k]? =some c)(hw:wideC c=false):RndP l n r0 r (k+1) ch cf:=by
 refine⟨fun q o i hi=>?_,fun hn=>?_⟩
 ·obtain⟨h1,h2⟩:=h.snd q o i hi;exact⟨by omega,h2⟩
 ·obtain⟨h1,h2,h3⟩:=h.no hn;have hp:∀p,placeK l r0 (k+1) p=placeK l r0 k p:=fun p=>by rw[placeK_step hc,if_neg (by rw[hw];simp)]
  refine⟨h1,fun q o=>by rw[h2,hp],fun i d hi hd hwd=>?_⟩;rw[hp];by_cases hik:i=k
  ·subst hik;rw[hc]at hd;cases hd;rw[hw]at hwd;cases hwd
  ·exact h3 i d (by omega) hd hwd
theorem RndP.first {r0:Nat→Nat}{k:Nat}{ch:Bool}{cf:Nat→Int→List Nat}{c:Con}(h:RndP l n r0 r k ch cf)(hc:l[k]? =some c)(hw:wideC c=true)(hs:SoundR l n r)(hok:OkC n c)(hq:r c.a.toNat<n+l.length)(hidem:r (r c.a.toNat)=r c.a.toNat)
  {i:Nat} (hi:(cf (r c.a.toNat) c.off ++ [k])[0]? =some i):i≤k∧VE l (nodeV l n (n+i)) (nodeV l n (n+k)):=by
 have hkl:=(List.getElem?_eq_some_iff.1 hc).1;have ha:=hok.a0;have ha1:=hok.a1
 have hva:VE l c.a (nodeV l n (r c.a.toNat)):=by
  have:=hs c.a.toNat (r c.a.toNat) (by omega) hq hidem.symm
  rwa [nodeV_var (by omega),Int.toNat_of_nonneg ha]at this
 cases e:cf (r c.a.toNat) c.off with
 |nil=>
  rw[e]at hi;simp at hi;subst hi;exact⟨Nat.le_refl _,.refl _⟩
 |cons j L=>
  rw[e]at hi;simp at hi;subst hi;obtain⟨h1,_,d,hd,hwd,ho,hv⟩:=h.snd (r c.a.toNat) c.off j (by rw[e];exact List.mem_cons_self ..);refine⟨by omega, ?_⟩;rw[nodeV_wide hd hwd,nodeV_wide hc hw];exact .cell (List.mem_of_getElem? hd) (List.mem_of_getElem? hc) hwd hw ho (hv.trans hva.symm)
theorem RndP.step {r0:Nat→Nat}{k:Nat}{ch:Bool}{cf cf':Nat→Int→List Nat}{c:Con}(h:RndP l n r0 r k ch cf)(hc:l[k]? =some c)(hw:wideC c=true)(hs:SoundR l n r)(hok:OkC n c)(hq:r c.a.toNat<n+l.length)(hidem:r (r c.a.toNat)=r c.a.toNat)
  {i:Nat} (hi:(cf (r c.a.toNat) c.off ++ [k])[0]? =some i) (e:∀x,r' x=if r x=max (r (n+i)) (r (n+k)) then min (r (n+i)) (r (n+k)) else r x)
  (hcf:∀q o,cf' q o=if q=r c.a.toNat∧o=c.off then cf (r c.a.toNat) c.off ++ [k] else cf q o):RndP l n r0 r' (k+1) (decide (r (n+i)≠r (n+k)) || ch) cf':=by
 have ha:=hok.a0;have ha1:=hok.a1
 have hva:VE l c.a (nodeV l n (r c.a.toNat)):=by
  have:=hs c.a.toNat (r c.a.toNat) (by omega) hq hidem.symm
  rwa [nodeV_var (by omega),Int.toNat_of_nonneg ha]at this
 refine⟨fun q o j hj=>?_,fun hn=>?_⟩
 ·rw[hcf]at hj
  split at hj
  ·rename_i hqo
   obtain⟨rfl,rfl⟩:=hqo;rcases List.mem_append.1 hj with hj|hj
   ·obtain⟨h1,h2,h3⟩:=h.snd _ _ j hj;exact⟨by omega,h2,h3⟩
   ·simp at hj;subst hj;exact⟨by omega,hq,c,hc,hw,rfl,hva⟩
  ·obtain⟨h1,h2⟩:=h.snd q o j hj;exact⟨by omega,h2⟩
 ·simp only[Bool.or_eq_false_iff,decide_eq_false_iff_not,ne_eq,Decidable.not_not]at hn;obtain⟨h1,h2,h3⟩:=h.no hn.2;have hrr:∀x,r' x=r x:=fun x=>by rw[e,hn.1,Nat.max_self,Nat.min_self];split <;> omega
  have hpl:∀q o,cf' q o=placeK l r0 (k+1) (q,o):=fun q o=>by
   rw[hcf,placeK_step hc];by_cases hqo:q=r c.a.toNat∧o=c.off
   ·rw[if_pos hqo,if_pos ⟨hw,by rw[←h1];exact hqo.1.symm,hqo.2.symm⟩,←hqo.1,←hqo.2,h2]
   ·rw[if_neg hqo,if_neg (fun hh=>hqo ⟨by rw[h1];exact hh.2.1.symm,hh.2.2.symm⟩),h2]
  refine⟨fun x=>(hrr x).trans (h1 x),hpl,fun j d hj hd hwd=>?_⟩;by_cases hjk:j=k
  ·subst hjk;rw[hc]at hd;cases hd
   have e1:placeK l r0 (j+1) (placeOf r0 c)=cf (r c.a.toNat) c.off ++ [j]:=by
    have:=hpl (r c.a.toNat) c.off;rw[hcf,if_pos ⟨rfl,rfl⟩]at this;rw[this,h1];rfl
   rw[e1]
   have e2:(cf (r c.a.toNat) c.off ++ [j]).headD 0=i:=by
    cases hL:cf (r c.a.toNat) c.off ++ [j] with
    |nil=>simp at hL
    |cons x L=>rw [hL]at hi;simp at hi;exact hi
   rw[e2,←h1,←h1];exact hn.1.symm
  ·have hjk':j<k:=by omega
   rw[h3 j d hjk' hd hwd,placeK_step hc]
   split
   ·rw[headD_app];have:j∈placeK l r0 k (placeOf r0 d):=placeK_mem.2 ⟨hjk',d,hd,hwd,rfl,rfl⟩;intro e0;rw[e0]at this;cases this
   ·rfl
theorem RndP.closed {cf:Nat→Int→List Nat}(h2:Cl2 l n r l.length){r0:Nat→Nat}(h:RndP l n r0 r l.length false cf):ClosedR l n r:=by
 obtain⟨h1,_,h3⟩:=h.no rfl;refine⟨fun c hc hk=>?_,fun k c hc hw=>h2.node k c (List.getElem?_eq_some_iff.1 hc).1 hc hw,fun k i c e hk hi w1 w2 ho hr=>?_⟩
 ·obtain⟨k,hk'⟩:=List.getElem?_of_mem hc;exact h2.sub k c (List.getElem?_eq_some_iff.1 hk').1 hk' hk
 ·rw[h1,h1]at hr;rw[h1,h1,h3 k c (List.getElem?_eq_some_iff.1 hk).1 hk w1,h3 i e (List.getElem?_eq_some_iff.1 hi).1 hi w2];unfold placeOf;rw[ho,hr]
theorem RndP.cells {cf:Nat→Int→List Nat}{r0:Nat→Nat}(h:RndP l n r0 r l.length false cf)(q:Nat)(o:Int):cf q o=placeL l r (q,o):=by
 obtain⟨h1,h2,_⟩:=h.no rfl;rw[h2];exact(placeK_congr h1 _ _).symm
end
def isAt (l:List Con)(r:Nat→Nat)(q:Nat)(o:Int)(i:Nat):Bool:=match l[i]? with
 |some c=>accC c && decide (r c.a.toNat=q) && decide (c.off=o)
 |none=>false
def accK (l:List Con)(r:Nat→Nat)(m q:Nat)(o:Int):List Nat:=(List.range m).filter (isAt l r q o)
def dirK (l:List Con)(r:Nat→Nat)(m q:Nat):Bool:=(List.range m).any fun i=>match l[i]? with
 |some c=>decide (c.kind=1) && decide (c.type.kind≠0) && decide (r c.a.toNat=q)
 |none=>false
section
variable {l:List Con}{n:Nat}{r:Nat→Nat}
theorem accK_mem {m q:Nat}{o:Int}{i:Nat}:i∈accK l r m q o↔i<m∧∃c,l[i]? =some c∧accC c=true∧r c.a.toNat=q∧c.off=o:=by
 unfold accK isAt;rw[List.mem_filter,List.mem_range]
 cases h:l[i]? with
 |none=>simp
 |some c=>simp [and_assoc]
theorem accK_step {m:Nat}{c:Con}(hc:l[m]? =some c)(q:Nat)(o:Int):accK l r (m+1) q o=if accC c=true∧r c.a.toNat=q∧c.off=o then accK l r m q o ++ [m] else accK l r m q o:=by
 unfold accK;rw[List.range_succ,List.filter_append];have:isAt l r q o m=(accC c && decide (r c.a.toNat=q) && decide (c.off=o)):=by unfold isAt;rw[hc]
 split
 ·rename_i h
  rw[List.filter_cons_of_pos (by rw[this,h.1,decide_eq_true h.2.1,decide_eq_true h.2.2];rfl)];rfl
 ·rename_i h
  rw[List.filter_cons_of_neg (by rw[this];simp only[Bool.and_eq_true,decide_eq_true_eq];exact fun k=>h ⟨k.1.1,k.1.2,k.2⟩)];simp
theorem dirK_step {m:Nat}{c:Con}(hc:l[m]? =some c)(q:Nat):dirK l r (m+1) q=(dirK l r m q || (decide (c.kind=1) && decide (c.type.kind≠0) && decide (r c.a.toNat=q))):=by
 unfold dirK;rw[List.range_succ,List.any_append];simp[hc]
theorem dirK_iff {q:Nat}:dirK l r l.length q=true↔∃c∈l,c.kind=1∧c.type.kind≠0∧r c.a.toNat=q:=by
 unfold dirK;rw[List.any_eq_true];constructor
 ·rintro⟨i,hi,h⟩
  cases hc:l[i]? with
  |none=>rw [hc]at h;cases h
  |some c=>
   rw[hc]at h;simp only[Bool.and_eq_true,decide_eq_true_eq]at h;exact⟨c,List.mem_of_getElem? hc,h.1.1,h.1.2,h.2⟩
 ·rintro⟨c,hc,h1,h2,h3⟩;obtain⟨i,hi⟩:=List.getElem?_of_mem hc;exact⟨i,List.mem_range.2 (List.getElem?_eq_some_iff.1 hi).1,by rw[hi];simp[h1,h2,h3]⟩
end
end Go.Deco
namespace Go.Deco
open Go Go.RowKit
set_option linter.unusedSimpArgs false
set_option linter.unusedVariables false
theorem least_ex {α:Type}{p:α→Prop}{μ:α→Nat}(h:∃a,p a):∃n,(∃a,p a∧μ a=n)∧∀a,p a→n≤μ a:=by
 obtain⟨a,ha⟩:=h
 have key:∀k (a:α),p a→μ a≤k→∃n,(∃a,p a∧μ a=n)∧∀a,p a→n≤μ a:=by
  intro k
  induction k with
  |zero=>exact fun a ha h=>⟨0,⟨a,ha,by omega⟩,fun _ _=>Nat.zero_le _⟩
  | succ k ih=>
   intro a ha h;by_cases hb:∃b,p b∧μ b≤k
   ·obtain⟨b,h1,h2⟩:=hb;exact ih b h1 h2
   ·refine⟨μ a,⟨a,ha,rfl⟩,fun b hb'=>?_⟩;by_cases hbk:μ b≤k
    ·exact absurd ⟨b,hb',hbk⟩ hb
    ·omega
 exact key _ a ha (Nat.le_refl _)
open Classical in
noncomputable def leastM {α:Type} (p:α→Prop) (μ:α→Nat):Nat:=if h:∃a,p a then (least_ex (μ:=μ) h).choose else 0
theorem leastM_spec {α:Type}{p:α→Prop}{μ:α→Nat}(h:∃a,p a):∃a,p a∧μ a=leastM p μ:=by
 have e:leastM p μ=(least_ex (μ:=μ) h).choose:=by unfold leastM;rw[dif_pos h]
 rw[e];exact(least_ex (μ:=μ) h).choose_spec.1
theorem leastM_le {α:Type}{p:α→Prop}{μ:α→Nat}{a:α}(ha:p a):leastM p μ≤μ a:=by
 have h:∃a,p a:=⟨a,ha⟩;have e:leastM p μ=(least_ex (μ:=μ) h).choose:=by unfold leastM;rw[dif_pos h]
 rw[e];exact(least_ex (μ:=μ) h).choose_spec.2 a ha
def notIn (l:List Con)(t:Ty)(k:Nat):Bool:=match l[k]? with
 |some c=>decide (c.kind=1) && !subT c.type t
 |none=>false
def pot (l:List Con)(t:Ty):Nat:=((List.range l.length).filter (notIn l t)).length
def potS (l:List Con)(S:Nat→Ty)(N:Nat):Nat:=((List.range N).map fun x=>pot l (S x)).sum
def SupT (l:List Con)(t:Ty):Prop:=∀u,goodT u=true→(∀c∈l,c.kind=1→subT c.type t=true→subT c.type u=true)→subT t u=true
section
variable {l:List Con}{n:Nat}
theorem pot_le (l:List Con)(t:Ty):pot l t≤l.length:=Nat.le_trans (List.length_filter_le _ _) (by simp)
theorem filter_len_lt {α:Type}{p q:α→Bool}:∀{L:List α} {a:α},(∀x,p x=true→q x=true)→a∈L→q a=true→p a=false→(L.filter p).length<(L.filter q).length
 | b :: L,a,h,ha,hq,hp=>by
  have hle:(L.filter p).length≤(L.filter q).length:=by
   rw[←List.countP_eq_length_filter,←List.countP_eq_length_filter];exact List.countP_mono_left fun x _=>h x
  rcases List.mem_cons.1 ha with rfl|ha
  ·rw[List.filter_cons_of_neg (by rw[hp];simp),List.filter_cons_of_pos hq];simp;omega
  ·have ih:=filter_len_lt h ha hq hp
   cases hb:p b with
   |true=>rw [List.filter_cons_of_pos hb,List.filter_cons_of_pos (h b hb)];simp;omega
   |false=>
    rw[List.filter_cons_of_neg (by rw[hb];simp)]
    cases hb':q b with
    |true=>rw [List.filter_cons_of_pos hb'];simp;omega
    |false=>rw [List.filter_cons_of_neg (by rw[hb'];simp)];exact ih
theorem pot_lt (hok:∀c∈l,OkC n c){t u:Ty}(ht:goodT t=true)(hu:goodT u=true)(hs:SupT l u)(htu:subT t u=true)(hne:u≠t):pot l u<pot l t:=by
 have hex:∃c∈l,c.kind=1∧subT c.type u=true∧subT c.type t=false:=by
  by_cases h:∃c∈l,c.kind=1∧subT c.type u=true∧subT c.type t=false
  ·exact h
  ·exfalso
   apply hne;refine subT_anti (good_form hu) (good_form ht) (hs t ht fun c hc hk h1=>?_) htu
   cases h2:subT c.type t with
   |true=>rfl
   |false=>exact absurd ⟨c,hc,hk,h1,h2⟩ h
 obtain⟨c,hc,hk,h1,h2⟩:=hex;obtain⟨k,hk'⟩:=List.getElem?_of_mem hc;refine filter_len_lt (a:=k) (fun x hx=>?_) (List.mem_range.2 (List.getElem?_eq_some_iff.1 hk').1) (by unfold notIn;rw[hk'];simp[hk,h2]) (by unfold notIn;rw[hk'];simp[hk,h1]);unfold notIn at hx ⊢
 cases hx':l[x]? with
 |none=>rw [hx']at hx;cases hx
 | some e=>
  rw[hx']at hx;simp only[Bool.and_eq_true,decide_eq_true_eq,Bool.not_eq_true']at hx ⊢;refine⟨hx.1, ?_⟩
  cases h3:subT e.type t with
  |false=>rfl
  |true=>
   have he:=List.mem_of_getElem? hx';have:=subT_trans (good_form ((hok e he).t hx.1)) (good_form ht) (good_form hu) h3 htu;rw[hx.2]at this;cases this
theorem sup_unk:SupT l Ty.unk:=fun u _ _=>sub_unk _
theorem sup_join {t u:Ty}(ht:goodT t=true)(hu:goodT u=true)(h1:SupT l t)(h2:SupT l u)(hok:∀c∈l,OkC n c):SupT l (joinT t u):=by
 intro v hv h;have hft:=good_form ht;have hfu:=good_form hu;have hj:=good_form (join_good ht hu);refine join_least hft hfu (good_form hv) (h1 v hv fun c hc hk hs=>h c hc hk ?_) (h2 v hv fun c hc hk hs=>h c hc hk ?_)
 ·exact subT_trans (good_form ((hok c hc).t hk)) hft hj hs (join_le1 hft hfu)
 ·exact subT_trans (good_form ((hok c hc).t hk)) hfu hj hs (join_le2 hft hfu)
theorem sup_given (hok:∀c∈l,OkC n c){c:Con}(hc:c∈l)(hk:c.kind=1):SupT l c.type:=fun u _ h=>h c hc hk (subT_refl (good_form ((hok c hc).t hk)))
theorem sup_init (hok:∀c∈l,OkC n c):∀(m x:Nat),SupT l (initK l m x)
 |0,_=>sup_unk
 | m+1,x=>by
  rw[initK]
  split
  ·rename_i c hc
   split
   ·rename_i h
    have hmem:=List.mem_of_getElem? hc;exact sup_join (initK_good hok m x) ((hok c hmem).t h.1) (sup_init hok m x) (sup_given hok hmem h.1) hok
   ·exact sup_init hok m x
  ·exact sup_init hok m x
theorem sum_upd {f f':Nat→Nat}{t:Nat}(he:∀x,x≠t→f' x=f x):∀N,((List.range N).map f').sum+(if t<N then f t else 0)=((List.range N).map f).sum+(if t<N then f' t else 0)
 |0=>by simp
 | N+1=>by
  have ih:=sum_upd he N;rw[List.range_succ,List.map_append,List.map_append,List.sum_append,List.sum_append];simp only[List.map_cons,List.map_nil,List.sum_cons,List.sum_nil];by_cases h:t<N
  ·rw[if_pos h]at ih;rw[if_pos (by omega),if_pos (by omega),he N (by omega)];rw[if_pos h]at ih;omega
  ·rw[if_neg h]at ih;rw[if_neg h]at ih;by_cases h2:t=N
   ·subst h2;rw[if_pos (by omega),if_pos (by omega)];omega
   ·rw[if_neg (by omega),if_neg (by omega),he N (fun e=>h2 e.symm)];omega
theorem potS_lt {S S':Nat→Ty}{N t:Nat}(ht:t<N)(he:∀x,x≠t→S' x=S x)(hlt:pot l (S' t)<pot l (S t)):potS l S' N<potS l S N:=by
 have:=sum_upd (f:=fun x=>pot l (S x)) (f':=fun x=>pot l (S' x)) (t:=t) (fun x hx=>by simp only[he x hx]) N;rw[if_pos ht,if_pos ht]at this;unfold potS;omega
theorem potS_le (S:Nat→Ty):∀N,potS l S N≤N * l.length
 |0=>by simp[potS]
 |N+1=>by
  have ih:=potS_le S N;have h:=pot_le l (S N);unfold potS at ih ⊢;rw[List.range_succ,List.map_append,List.sum_append,Nat.succ_mul];simp;omega
end
end Go.Deco
namespace Go.Deco
open Go Go.RowKit
set_option linter.unusedSimpArgs false
set_option linter.unusedVariables false
theorem cnt_ptr (x:Ty):cntT (Ty.ptr x)=1+cntT x:=by simp[Ty.ptr,cntT,cntE,cntF]
theorem cnt_arr (x:Ty)(n:Int):cntT (Ty.arr x n)=1+cntT x:=by simp[Ty.arr,cntT,cntE,cntF]
theorem cnt_str1 (f:List (Int×Ty)):cntT (Ty.str f)=1+cntF f:=by simp[Ty.str,cntT,cntE,cntF]
theorem joinF_cnt {m:Nat}:∀(k:Nat) {l r:List (Int×Ty)},l.length+r.length≤k→AscF l→AscF r→(∀f∈l,∀g∈r,cntT (joinT f.2 g.2)≤cntT f.2+cntT g.2)→cntF (joinF l r)≤cntF l+cntF r
 |_,[],r,_,_,_,_=>by rw[joinF,cntF];omega
 |_,(o,t) :: l,[],_,_,_,_=>by rw[joinF_nil,cntF];omega
 |0,(o,t) :: l,(o',u) :: r,h,_,_,_=>by simp at h
 | k+1,(o,t) :: l,(o',u) :: r,h,hl,hr,hc=>by
  simp only[List.length_cons]at h;have e1:cntF ((o,t) :: l)=cntT t+cntF l:=by rw[cntF]
  have e2:cntF ((o',u) :: r)=cntT u+cntF r:=by rw[cntF]
  rcases Int.lt_trichotomy o o' with ho|ho|ho
  ·rw[joinF_lt ho hr];have:=joinF_cnt (m:=m) k (l:=l) (r:=(o',u) :: r) (by simp only[List.length_cons];omega) hl.tail hr (fun f hf g hg=>hc f (List.mem_cons_of_mem _ hf) g hg);omega
  ·subst ho;rw[joinF_eq hl,cntF];have:=joinF_cnt (m:=m) k (l:=l) (r:=r) (by omega) hl.tail hr.tail (fun f hf g hg=>hc f (List.mem_cons_of_mem _ hf) g (List.mem_cons_of_mem _ hg));have h0:=hc (o,t) (List.mem_cons_self ..) (o,u) (List.mem_cons_self ..);simp only at h0;omega
  ·rw[joinF_gt ho hl];have:=joinF_cnt (m:=m) k (l:=(o,t) :: l) (r:=r) (by simp only[List.length_cons];omega) hl hr.tail (fun f hf g hg=>hc f hf g (List.mem_cons_of_mem _ hg));omega
theorem join_cnt:∀(k:Nat) {a b:Ty},szN a≤k→formT a=true→formT b=true→cntT (joinT a b)≤cntT a+cntT b
 |0,a,_,h,_,_=>by cases a;rw[szN]at h;omega
 | k+1,a,b,h,ha,hb=>by
  rcases join_inv ha hb with⟨rfl,e⟩|⟨rfl,e⟩|⟨rfl,hw,e⟩|⟨x,y,rfl,rfl⟩|⟨x,y,m,m',rfl,rfl⟩|⟨f,g,rfl,rfl⟩|⟨e,hc⟩
  ·rw[e];omega
  ·rw[e];omega
  ·rw[e];omega
  ·rw[szN_ptr]at h;rw[form_ptr]at ha hb;have ih:=join_cnt k (by omega) ha hb;rw[join_ptr,cnt_ptr,cnt_ptr,cnt_ptr];omega
  ·rw[szN_arr]at h;rw[form_arr]at ha hb;simp only[Bool.and_eq_true,decide_eq_true_eq]at ha hb;have ih:=join_cnt k (by omega) ha.2 hb.2;rw[join_arr,cnt_arr,cnt_arr,cnt_arr];omega
  ·rw[szN_str]at h;rw[form_str]at ha hb;rw[join_str,cnt_str1,cnt_str1,cnt_str1]
   have:=joinF_cnt (m:=0) _ (Nat.le_refl _) (formF_asc ha) (formF_asc hb) (fun x hx y hy=>by
    have hs:=szN_mem hx;exact join_cnt k (by omega) (formF_all ha _ hx).2.2 (formF_all hb _ hy).2.2)
   omega
  ·rw[e];have h1:=cntT_pos a;have h2:cntT Ty.any=1:=by decide
   omega
theorem lub_list_cnt:∀(L:List Ty),(∀t∈L,goodT t=true)→∃t,IsLub (fun s=>s∈L) t∧cntT t≤1+(L.map cntT).sum
 |[],_=>⟨Ty.unk,⟨unk_good,fun s h=>(by cases h),fun u _ _=>sub_unk u⟩,by decide⟩
 | s :: L,h=>by
  obtain⟨t,⟨h1,h2,h3⟩,h4⟩:=lub_list_cnt L fun t ht=>h t (List.mem_cons_of_mem _ ht);have hs:=h s (List.mem_cons_self ..);refine⟨joinT s t,⟨join_good hs h1,fun x hx=>?_,fun u hu hx=>?_⟩, ?_⟩
  ·rcases List.mem_cons.1 hx with rfl|hx
   ·exact join_le1 (good_form hs) (good_form h1)
   ·exact subT_trans (good_form (h x (List.mem_cons_of_mem _ hx))) (good_form h1) (good_form (join_good hs h1)) (h2 x hx) (join_le2 (good_form hs) (good_form h1))
  ·exact join_least (good_form hs) (good_form h1) (good_form hu) (hx s (List.mem_cons_self ..)) (h3 u hu fun x k=>hx x (List.mem_cons_of_mem _ k))
  ·have:=join_cnt _ (Nat.le_refl _) (good_form hs) (good_form h1);rw[List.map_cons,List.sum_cons];omega
def cntL (l:List Con):Nat:=1+((l.filter fun c=>decide (c.kind=1)).map fun c=>cntT c.type).sum
theorem sum_filter (p q:Con→Bool)(f:Con→Nat)(hpq:∀c,p c=true→q c=true):∀l:List Con,((l.filter p).map f).sum≤((l.filter q).map f).sum
 |[]=>by simp
 | c :: l=>by
  have:=sum_filter p q f hpq l;by_cases h:p c=true
  ·rw[List.filter_cons_of_pos h,List.filter_cons_of_pos (hpq c h),List.map_cons,List.map_cons,List.sum_cons,List.sum_cons];omega
  ·rw[List.filter_cons_of_neg h];by_cases h':q c=true
   ·rw[List.filter_cons_of_pos h',List.map_cons,List.sum_cons];omega
   ·rw[List.filter_cons_of_neg h'];exact this
open Classical in
theorem lub_cons_cnt {l:List Con}{n:Int}(hok:∀c∈l,OkC n c)(p:Con→Prop){t:Ty}(ht:IsLub (fun s=>∃k∈l,k.kind=1∧p k∧s=k.type) t):cntT t≤cntL l:=by
 obtain⟨t',ht',hc⟩:=lub_list_cnt ((l.filter fun k:Con=>decide (k.kind=1∧p k)).map Con.type) (fun t ht=>by
  obtain⟨k,hk,rfl⟩:=List.mem_map.1 ht;obtain⟨h1,h2⟩:=List.mem_filter.1 hk;exact(hok k h1).t (of_decide_eq_true h2).1)
 have e:t=t':=ht.unique (ht'.congr fun s=>by
  constructor
  ·intro hs;obtain⟨k,hk,rfl⟩:=List.mem_map.1 hs;obtain⟨h1,h2⟩:=List.mem_filter.1 hk;exact⟨k,h1,(of_decide_eq_true h2).1,(of_decide_eq_true h2).2,rfl⟩
  ·rintro⟨k,hk,h1,h2,rfl⟩;exact List.mem_map_of_mem (List.mem_filter.2 ⟨hk,decide_eq_true ⟨h1,h2⟩⟩))
 rw[e];have h2:=sum_filter (fun k:Con=>decide (k.kind=1∧p k)) (fun c=>decide (c.kind=1)) (fun c=>cntT c.type) (fun c hc=>decide_eq_true (of_decide_eq_true hc).1) l;rw[List.map_map]at hc;unfold cntL;have h3:(cntT ∘ Con.type)=fun c:Con=>cntT c.type:=rfl;rw[h3]at hc;omega
theorem IsScal.cnt {l:List Con}{n:Int}(hok:∀c∈l,OkC n c){x:Int}{t:Ty}(h:IsScal l x t):cntT t≤cntL l:=lub_cons_cnt hok (fun k=>Reach l k.a x) h
theorem IsCell.cnt {l:List Con}{n:Int}(hok:∀c∈l,OkC n c){c:Con}{t:Ty}(h:IsCell l c t):cntT t≤cntL l:=by
 refine lub_cons_cnt hok (fun k=>∃e∈l,e.kind=3∧SameCell l e c∧Reach l k.a e.b) (IsLub.congr h fun s=>?_);constructor
 ·rintro⟨e,he,e3,hse,k,hk,k1,hr,rfl⟩;exact⟨k,hk,k1,⟨e,he,e3,hse,hr⟩,rfl⟩
 ·rintro⟨k,hk,k1,⟨e,he,e3,hse,hr⟩,rfl⟩;exact⟨e,he,e3,hse,k,hk,k1,hr,rfl⟩
mutual
theorem bn_cnt:∀(t:Ty),cntT t≤1000000→bnT t=true
 | .mk k s c e f,h=>by
  rw[cntT]at h;rw[bnT];have h1:=bn_cntE e (by omega);have h2:=bn_cntF f (by omega);simp only[h1.1,h2.1,Bool.and_true,Bool.true_and,Bool.and_eq_true,decide_eq_true_eq];exact⟨by have:=h1.2;omega,by have:=h2.2;omega⟩
theorem bn_cntE:∀(l:List Ty),cntE l≤1000000→bnE l=true∧l.length≤1000000
 |[],_=>⟨rfl,by simp⟩
 |t :: l,h=>by
  rw[cntE]at h;have h1:=bn_cnt t (by omega);have h2:=bn_cntE l (by omega);have h3:=cntT_pos t;have h4:=lenE_cnt l;refine⟨by rw[bnE,h1,h2.1];rfl, ?_⟩;simp only[List.length_cons];omega
theorem bn_cntF:∀(l:List (Int×Ty)),cntF l≤1000000→bnF l=true∧l.length≤1000000
 |[],_=>⟨rfl,by simp⟩
 |(o,t) :: l,h=>by
  rw[cntF]at h;have h1:=bn_cnt t (by omega);have h2:=bn_cntF l (by omega);have h3:=cntT_pos t;have h4:=lenF_cnt l;refine⟨by rw[bnF,h1,h2.1];rfl, ?_⟩;simp only[List.length_cons];omega
theorem lenE_cnt:∀(l:List Ty),l.length≤cntE l
 |[]=>by simp
 |t :: l=>by have:=lenE_cnt l;have:=cntT_pos t;rw[cntE,List.length_cons];omega
theorem lenF_cnt:∀(l:List (Int×Ty)),l.length≤cntF l
 |[]=>by simp
 |(o,t) :: l=>by have:=lenF_cnt l;have:=cntT_pos t;rw[cntF,List.length_cons];omega
end
end Go.Deco
namespace Go.Deco
open Go Go.RowKit
set_option linter.unusedSimpArgs false
set_option linter.unusedVariables false
inductive RchN (l:List Con)(r:Nat→Nat):Nat→Nat→Prop
 |refl (q:Nat):RchN l r q q
 |step {q y:Nat} {c:Con}:RchN l r q y→c∈l→wideC c=true→r c.a.toNat=y→IsPtr l c.b→RchN l r q (r c.b.toNat)
section
variable {l:List Con}{n:Nat}{r:Nat→Nat}
structure RootsR (n:Nat)(r:Nat→Nat):Prop where
 lt:∀x,x<n→r x<n
 idem:∀x,x<n→r (r x)=r x
theorem ve_pos {l:List Con}{n:Nat}(hok:∀c∈l,OkC n c){x y:Int}(h:VE l x y)(hx:0≤x):0≤y:=by
 have key:∀{x y:Int},VE l x y→x=y∨(0≤x∧0≤y):=fun {x y} h=>by
  induction h with
  |refl=>exact .inl rfl
  |symm _ ih=>rcases ih with h|h;exact .inl h.symm;exact .inr ⟨h.2,h.1⟩
  | trans _ _ i1 i2=>
   rcases i1 with rfl|i1
   ·exact i2
   ·rcases i2 with rfl|i2
    ·exact .inr i1
    ·exact .inr ⟨i1.1,i2.2⟩
  |sub hc hk=>have:=hok _ hc;exact .inr ⟨this.a0,this.b0 (by omega)⟩
  |cell hc he w1 w2 _ _ _=>exact .inr ⟨(hok _ hc).b0 (wide_k w1).1,(hok _ he).b0 (wide_k w2).1⟩
 rcases key h with e|e
 ·omega
 ·exact e.2
theorem ok_a {c:Con}(h:OkC n c):∃a:Nat,c.a=a∧a<n:=⟨c.a.toNat,(Int.toNat_of_nonneg h.a0).symm,by have:=h.a0;have:=h.a1;omega⟩
theorem ok_b {c:Con}(h:OkC n c)(hw:wideC c=true):∃b:Nat,c.b=b∧b<n:=⟨c.b.toNat,(Int.toNat_of_nonneg (h.b0 (wide_k hw).1)).symm,by have:=h.b0 (wide_k hw).1;have:=h.b1 (wide_k hw).1;omega⟩
theorem root_ve (hcl:ClassR l n r)(hr:RootsR n r){x:Nat}(hx:x<n):VE l (x:Int) (r x:Int):=(class_var hcl hx (hr.lt x hx)).1 (hr.idem x hx).symm
theorem rch_lt (hr:RootsR n r)(hok:∀c∈l,OkC n c){q y:Nat}(hq:q<n)(h:RchN l r q y):y<n:=by
 induction h with
 |refl=>exact hq
 |step _ hc hw _ _ ih=>
  obtain⟨b,hb,hbn⟩:=ok_b (hok _ hc) hw;rw[hb];exact hr.lt _ hbn
theorem rch_to (hcl:ClassR l n r)(hr:RootsR n r)(hok:∀c∈l,OkC n c){q y:Nat}(hq:q<n)(hqq:r q=q)(h:RchN l r q y):LeadsEq l (q:Int) (y:Int):=by
 induction h with
 |refl=>exact .inl (.refl _)
 |@step y c h0 hc hw ha hp ih=>
  have h1:=rch_lt hr hok hq h0;obtain⟨a,han,hal⟩:=ok_a (hok _ hc);obtain⟨b,hbn,hbl⟩:=ok_b (hok _ hc) hw;rw[han]at ha;have ha':r a=y:=ha;have hva:VE l c.a (y:Int):=by rw[han,←ha'];exact root_ve hcl hr hal
  have hvb:VE l c.b ((r c.b.toNat:Nat):Int):=by rw[hbn];exact root_ve hcl hr hbl
  rcases ih with h2|h2
  ·exact .inr (.one hc hw (hva.trans h2.symm) hvb)
  ·exact .inr (.more h2 hc hw hva hvb)
theorem ve_root (hcl:ClassR l n r)(hok:∀c∈l,OkC n c){x y:Int}(hx:0≤x∧x<n)(h:VE l x y):r x.toNat=r y.toNat∧0≤y∧y<n:=by
 rcases ve_new hok h with e|⟨h1,h2⟩
 ·subst e;exact⟨rfl,hx⟩
 ·have h0:0≤y:=by
   rcases ve_new hok h with e|_
   ·omega
   ·exact ve_pos hok h hx.1
  exact⟨(class_int hcl hx.1 hx.2 h0 h2).2 h,h0,h2⟩
theorem rch_leads (hcl:ClassR l n r)(hr:RootsR n r)(hok:∀c∈l,OkC n c){x z:Int}(h:Leads l x z)(hx:0≤x∧x<n)(hz:IsPtr l z):RchN l r (r x.toNat) (r z.toNat):=by
 induction h with
 |one hc hw h1 h2=>
  have e1:=(ve_root hcl hok hx h1.symm).1;obtain⟨b,hbn,hbl⟩:=ok_b (hok _ hc) hw;have e2:=(ve_root hcl hok (by omega) h2).1;rw[←e2];exact .step (.refl _) hc hw e1.symm (isptr_ve h2.symm hz)
 |more h0 hc hw h1 h2 ih=>
  obtain⟨b,hbn,hbl⟩:=ok_b (hok _ hc) hw;obtain⟨a,han,hal⟩:=ok_a (hok _ hc);have e2:=(ve_root hcl hok (by omega) h2).1;have e1:=(ve_root hcl hok (by omega) h1).1;rw[←e2];refine .step (ih hx ?_) hc hw e1 (isptr_ve h2.symm hz);refine⟨_,hc, ?_,h1⟩
  revert hw
  unfold wideC;intro hw;exact(Bool.and_eq_true_iff.1 hw).1
theorem rch_iff (hcl:ClassR l n r)(hr:RootsR n r)(hok:∀c∈l,OkC n c){q y:Nat}(hq:q<n)(hqq:r q=q)(hy:y<n)(hyy:r y=y)(hp:IsPtr l (y:Int)):RchN l r q y↔LeadsEq l (q:Int) (y:Int):=by
 refine⟨rch_to hcl hr hok hq hqq, ?_⟩;rintro(h|h)
 ·have:=(class_var hcl hq hy).2 h;rw[hqq,hyy]at this;subst this;exact .refl _
 ·have:=rch_leads hcl hr hok h (by omega) hp
  rwa [Int.toNat_natCast,Int.toNat_natCast,hqq,hyy]at this
end
def Direct (l:List Con)(x:Int):Prop:=∃c∈l,VE l c.a x∧c.kind=1∧c.type.kind≠0
def BadAcc (l:List Con)(x:Int)(c:Con):Prop:=
 c.off<0∨(∃e∈l,accC e=true∧VE l e.a x∧e.off=c.off∧e.width≠c.width)∨(wideC c=true∧Rec l c∧Used l c 2∧Used l c 3)∨(wideC c=true∧¬IsPtr l c.b∧∃t,IsCell l c t∧fieldT t 0 4≠some t)
def SpoilAt (l:List Con)(x o:Int):Prop:=∃c∈l,VE l c.a x∧accC c=true∧c.off=o∧BadAcc l x c
theorem wide_acc {c:Con}(h:wideC c=true):accC c=true:=by
 unfold wideC at h;exact(Bool.and_eq_true_iff.1 h).1
theorem spoiled_iff {l:List Con}{x:Int}:Spoiled l x↔Direct l x∨∃o,SpoilAt l x o:=by
 constructor
 ·rintro⟨c,hc,hv,h|h|⟨h,k⟩|h|h⟩
  ·exact .inl ⟨c,hc,hv,h⟩
  ·exact .inr ⟨_,c,hc,hv,h.1,rfl,.inl h.2⟩
  ·exact .inr ⟨_,c,hc,hv,h,rfl,.inr (.inl k)⟩
  ·exact .inr ⟨_,c,hc,hv,wide_acc h.1,rfl,.inr (.inr (.inl h))⟩
  ·exact .inr ⟨_,c,hc,hv,wide_acc h.1,rfl,.inr (.inr (.inr h))⟩
 ·rintro(⟨c,hc,hv,h⟩|⟨o,c,hc,hv,ha,rfl,h|h|h|h⟩)
  ·exact⟨c,hc,hv,.inl h⟩
  ·exact⟨c,hc,hv,.inr (.inl ⟨ha,h⟩)⟩
  ·exact⟨c,hc,hv,.inr (.inr (.inl ⟨ha,h⟩))⟩
  ·exact⟨c,hc,hv,.inr (.inr (.inr (.inl h)))⟩
  ·exact⟨c,hc,hv,.inr (.inr (.inr (.inr h)))⟩
def FieldIs (l:List Con)(x o:Int)(t:Ty)(k:Nat)(ok:Bool):Prop:=
 (ok=false∧SpoilAt l x o)∨(ok=true∧¬SpoilAt l x o∧k=cntT t∧∃m,∀c∈l,accC c=true→VE l c.a x→c.off=o→Content l (PtrTy l m) c t)
section
variable {l:List Con}{x o:Int}{c:Con}
theorem field_of (hc:c∈l)(ac:accC c=true)(vc:VE l c.a x)(ho:c.off=o)(hw:∀e∈l,accC e=true→VE l e.a x→e.off=o→e.width=c.width){t:Ty}{m:Nat}(h:Content l (PtrTy l m) c t)(hs:¬SpoilAt l x o):FieldIs l x o t (cntT t) true:=
 .inr ⟨rfl,hs,rfl,m,fun e he ae ve hoe=>h.cell hc he ac ae (vc.trans ve.symm) (ho.trans hoe.symm) (hw e he ae ve hoe).symm⟩
theorem bad_cell (hw:∀e∈l,accC e=true→VE l e.a x→e.off=o→e.width=c.width)(hc:c∈l)(ac:accC c=true)(vc:VE l c.a x)(ho:c.off=o):SpoilAt l x o↔o<0∨(wideC c=true∧Rec l c∧Used l c 2∧Used l c 3)∨(wideC c=true∧¬IsPtr l c.b∧∃t,IsCell l c t∧fieldT t 0 4≠some t):=by
 constructor
 ·rintro⟨e,he,ve,ae,hoe,h|⟨d,hd,ad,vd,hod,hne⟩|⟨h1,h2,h3,h4⟩|⟨h1,h2,t,h3,h4⟩⟩
  ·exact .inl (by omega)
  ·exact absurd ((hw d hd ad vd (hod.trans hoe)).trans (hw e he ae ve hoe).symm) hne
  ·have k:=hw e he ae ve hoe;have wc:wideC c=true:=wide_of ac (by unfold wideC at h1;have:=(Bool.and_eq_true_iff.1 h1).2;have:=of_decide_eq_true this;omega);have hs:SameCell l e c:=⟨h1,wc,hoe.trans ho.symm,ve.trans vc.symm⟩;exact .inr (.inl ⟨wc,h2.cell he hc hs,h3.cell hs,h4.cell hs⟩)
  ·have k:=hw e he ae ve hoe;have wc:wideC c=true:=wide_of ac (by unfold wideC at h1;have:=(Bool.and_eq_true_iff.1 h1).2;have:=of_decide_eq_true this;omega);have hs:SameCell l e c:=⟨h1,wc,hoe.trans ho.symm,ve.trans vc.symm⟩;exact .inr (.inr ⟨wc,fun k=>h2 (isptr_ve (hs.rel he hc).symm k),t,h3.cell hs,h4⟩)
 ·rintro(h|h|h)
  ·exact⟨c,hc,vc,ac,ho,.inl (by omega)⟩
  ·exact⟨c,hc,vc,ac,ho,.inr (.inr (.inl h))⟩
  ·exact⟨c,hc,vc,ac,ho,.inr (.inr (.inr h))⟩
theorem spoil_width {e:Con}(hc:c∈l)(he:e∈l)(ac:accC c=true)(ae:accC e=true)(vc:VE l c.a x)(ve:VE l e.a x)(ho:c.off=o)(hoe:e.off=o)(hw:e.width≠c.width):SpoilAt l x o:=
 ⟨c,hc,vc,ac,ho,.inr (.inl ⟨e,he,ae,ve,hoe.trans ho.symm,hw⟩)⟩
end
structure FldsP (l:List Con)(x:Int)(O:List Int)(F:List (Int×Ty)):Prop where
 offs:F.map Prod.fst=O
 no:∀f∈F,¬SpoilAt l x f.1
 cont:∃m,∀f∈F,∀c∈l,accC c=true→VE l c.a x→c.off=f.1→Content l (PtrTy l m) c f.2
theorem FldsP.nil {l:List Con}{x:Int}:FldsP l x [] []:=⟨rfl,fun _ h=>(by cases h),0,fun _ h=>(by cases h)⟩
theorem cont_up {l:List Con}{m m':Nat}(h:m≤m'){c:Con}{t:Ty}(k:Content l (PtrTy l m) c t):Content l (PtrTy l m') c t:=k.mono fun _ _ p=>p.mono h
theorem FldsP.snoc {l:List Con}{x:Int}{O:List Int}{F:List (Int×Ty)}(h:FldsP l x O F){o:Int}{t:Ty}(hs:¬SpoilAt l x o)(hc:∃m,∀c∈l,accC c=true→VE l c.a x→c.off=o→Content l (PtrTy l m) c t):FldsP l x (O ++ [o]) (F ++ [(o,t)]):=by
 obtain⟨m,hm⟩:=h.cont;obtain⟨k,hk⟩:=hc;refine⟨by simp[h.offs],fun f hf=>?_,max m k,fun f hf c h1 h2 h3 h4=>?_⟩
 ·rcases List.mem_append.1 hf with hf|hf
  ·exact h.no f hf
  ·obtain rfl:f=(o,t):=by simpa using hf
   exact hs
 ·rcases List.mem_append.1 hf with hf|hf
  ·exact cont_up (by omega) (hm f hf c h1 h2 h3 h4)
  ·obtain rfl:f=(o,t):=by simpa using hf
   exact cont_up (by omega) (hk c h1 h2 h3 h4)
theorem cntF_snoc:∀(F:List (Int×Ty)) (o:Int) (t:Ty),cntF (F ++ [(o,t)])=cntF F+cntT t
 |[],o,t=>by simp[cntF]
 |(p,u) :: F,o,t=>by rw[List.cons_append,cntF,cntF,cntF_snoc F];omega
theorem cnt_str (F:List (Int×Ty)):cntT (Ty.ptr (Ty.str F))=2+cntF F:=by
 simp[Ty.ptr,Ty.str,cntT,cntE,cntF];omega
theorem asc_of {F:List (Int×Ty)}{O:List Int}(h:F.map Prod.fst=O)(hO:O.Pairwise (· <·)):AscF F:=by
 subst h;exact List.pairwise_map.1 hO
def StrucIs (l:List Con)(x:Int)(t:Ty)(k:Nat):Prop:=
 (t=Ty.unk∧k=0∧∃m,PtrTy l m x Ty.any)∨(k≤256∧k=cntT t∧∃F m,t=Ty.ptr (Ty.str F)∧¬Spoiled l x∧Fields l (PtrTy l m) x F)
section
variable {l:List Con}{n:Nat}{x:Int}
theorem ptr_bad (h:Spoiled l x):∃m,PtrTy l m x Ty.any:=⟨1,.inl ⟨h,rfl⟩⟩
theorem struc_direct (h:Direct l x):StrucIs l x Ty.unk 0:= .inl ⟨rfl,rfl,ptr_bad (spoiled_iff.2 (.inl h))⟩
theorem struc_spoil {o:Int}(h:SpoilAt l x o):StrucIs l x Ty.unk 0:= .inl ⟨rfl,rfl,ptr_bad (spoiled_iff.2 (.inr ⟨o,h⟩))⟩
theorem struc_many (hok:∀c∈l,OkC n c){O:List Int}{F:List (Int×Ty)}(h:FldsP l x O F)(hO:O.Pairwise (· <·))(hacc:∀o∈O,∃c∈l,accC c=true∧VE l c.a x∧c.off=o)(hm:256<2+cntF F):StrucIs l x Ty.unk 0:=by
 refine .inl ⟨rfl,rfl, ?_⟩;by_cases hs:Spoiled l x
 ·exact ptr_bad hs
 ·obtain⟨G,hG⟩:=fields_ex' hok (m:=mu l n x) (x:=x) (Nat.le_refl _) hs;refine⟨mu l n x+1,.inr ⟨hs,G,hG, ?_⟩⟩;rw[if_pos];refine .inr ?_;rw[cnt_str];have hsub:=cntF_sub (asc_of h.offs hO) hG.1 fun f hf=>?_
  ·omega
  ·have hfo:f.1∈O:=by rw[←h.offs];exact List.mem_map_of_mem hf
   obtain⟨c,hc,ac,vc,ho⟩:=hacc f.1 hfo;obtain⟨t,ht,hct⟩:=hG.2.2 c hc ac vc;obtain⟨m,hmm⟩:=h.cont;have h1:=hmm f hf c hc ac vc ho;have h2:=Content.unique (fun _ _ _=>PtrTy.unique) h1 hct;rw[ho]at ht;rw[←h2]at ht;exact lkF_mem ht
theorem struc_all {O:List Int}{F:List (Int×Ty)}(h:FldsP l x O F)(hO:O.Pairwise (· <·))(hacc:∀o,o∈O↔∃c∈l,accC c=true∧VE l c.a x∧c.off=o)(hd:¬Direct l x)(hm:2+cntF F≤256):StrucIs l x (Ty.ptr (Ty.str F)) (2+cntF F):=by
 obtain⟨m,hmm⟩:=h.cont;have hasc:=asc_of h.offs hO;refine .inr ⟨hm,(cnt_str F).symm,F,m,rfl,fun hs=>?_,hasc,fun f hf=>?_,fun c hc ac vc=>?_⟩
 ·rcases spoiled_iff.1 hs with k|⟨o,c,hc,vc,ac,rfl,k⟩
  ·exact hd k
  ·have ho:c.off∈F.map Prod.fst:=by rw[h.offs];exact(hacc _).2 ⟨c,hc,ac,vc,rfl⟩
   obtain⟨f,hf,hfo⟩:=List.mem_map.1 ho;exact h.no f hf ⟨c,hc,vc,ac,hfo.symm,k⟩
 ·have hfo:f.1∈O:=by rw[←h.offs];exact List.mem_map_of_mem hf
  obtain⟨c,hc,ac,vc,ho⟩:=(hacc _).1 hfo;exact⟨c,hc,ac,vc,ho⟩
 ·have ho:c.off∈F.map Prod.fst:=by rw[h.offs];exact(hacc _).2 ⟨c,hc,ac,vc,rfl⟩
  obtain⟨f,hf,hfo⟩:=List.mem_map.1 ho;refine⟨f.2, ?_,hmm f hf c hc ac vc hfo.symm⟩;rw[←hfo];exact lkF_of_mem hasc hf
theorem struc_ptr {t:Ty}{k:Nat}(h:StrucIs l x t k):∃m,PtrTy l m x (if 256<k∨t.kind≠3∨chkT t≠0 then Ty.any else t):=by
 rcases h with⟨rfl,rfl,m,h⟩|⟨h1,h2,F,m,rfl,hs,hF⟩
 ·refine⟨m, ?_⟩;rw[if_pos (.inr (.inl (by decide)))];exact h
 ·refine⟨m+1,.inr ⟨hs,F,hF, ?_⟩⟩;have hk:(Ty.ptr (Ty.str F)).kind=3:=rfl;rw[←h2];by_cases hc:chkT (Ty.ptr (Ty.str F))≠0
  ·rw[if_pos (.inr (.inr hc)),if_pos (.inl hc)]
  ·rw[if_neg (by rintro(e|e|e);omega;exact e hk;exact hc e),if_neg (by rintro(e|e);exact hc e;omega)]
theorem struc_cnt {t:Ty}{k:Nat}(h:StrucIs l x t k):(if 256<k∨t.kind≠3∨chkT t≠0 then 1 else k)=cntT (if 256<k∨t.kind≠3∨chkT t≠0 then Ty.any else t):=by
 split
 ·decide
 ·rename_i hn
  rcases h with⟨rfl,rfl, -⟩|⟨h1,h2, -⟩
  ·exact absurd (.inr (.inl (by decide))) hn
  ·exact h2
end
end Go.Deco
namespace Go.Deco
open Go Go.RowKit
set_option linter.unusedSimpArgs false
set_option linter.unusedVariables false
theorem lub_one {S:Ty→Prop}{t:Ty}(ht:goodT t=true)(h:∀s,S s↔s=t):IsLub S t:=
 ⟨ht,fun s hs=>by rw[(h s).1 hs];exact subT_refl (good_form ht),fun u _ hu=>hu t ((h t).2 rfl)⟩
theorem lub_none {S:Ty→Prop}(h:∀s,¬S s):IsLub S Ty.unk:=⟨unk_good,fun s hs=>absurd hs (h s),fun u _ _=>sub_unk u⟩
def ex1a:Con:=⟨3,0,1,8,4,Ty.unk⟩
def ex1b:Con:=⟨1,1,0,0,0,Ty.int 4⟩
def exL1:List Con:=[ex1a,ex1b]
def exT1:List Ty:=[Ty.ptr (Ty.str [(8,Ty.int 4)]),Ty.int 4]
def ex2a:Con:=⟨2,0,1,0,1,Ty.unk⟩
def ex2b:Con:=⟨2,0,1,0,4,Ty.unk⟩
def exL2:List Con:=[ex2a,ex2b]
def exT2:List Ty:=[Ty.any,Ty.unk]
theorem ex1_mem {c:Con}(h:c∈exL1):c=ex1a∨c=ex1b:=by simpa [exL1] using h
theorem ex2_mem {c:Con}(h:c∈exL2):c=ex2a∨c=ex2b:=by simpa [exL2] using h
theorem ex1_wide {c:Con}(h:c∈exL1)(hw:wideC c=true):c=ex1a:=by
 rcases ex1_mem h with rfl|rfl
 ·rfl
 ·exact absurd hw (by decide)
theorem ex2_wide {c:Con}(h:c∈exL2)(hw:wideC c=true):c=ex2b:=by
 rcases ex2_mem h with rfl|rfl
 ·exact absurd hw (by decide)
 ·rfl
theorem ex1_ve {x y:Int}(h:VE exL1 x y):x=y:=by
 induction h with
 |refl=>rfl
 |symm _ ih=>exact ih.symm
 |trans _ _ i1 i2=>exact i1.trans i2
 |sub hc hk=>rcases ex1_mem hc with rfl|rfl <;> exact absurd hk (by decide)
 |cell hc he w1 w2 _ _ _=>rw [ex1_wide hc w1,ex1_wide he w2]
theorem ex2_ve {x y:Int}(h:VE exL2 x y):x=y:=by
 induction h with
 |refl=>rfl
 |symm _ ih=>exact ih.symm
 |trans _ _ i1 i2=>exact i1.trans i2
 |sub hc hk=>rcases ex2_mem hc with rfl|rfl <;> exact absurd hk (by decide)
 |cell hc he w1 w2 _ _ _=>rw [ex2_wide hc w1,ex2_wide he w2]
theorem ex1_cell:IsCell exL1 ex1a (Ty.int 4):=by
 refine lub_one (by decide) fun s=>?_;constructor
 ·rintro⟨e,he,e3,hs,k,hk,k1,hr,rfl⟩;rcases ex1_mem hk with rfl|rfl
  ·exact absurd k1 (by decide)
  ·rfl
 ·rintro rfl;exact⟨ex1a,by simp[exL1],rfl,⟨by decide,by decide,rfl,.refl _⟩,ex1b,by simp[exL1],rfl,.refl _,rfl⟩
theorem ex1_ptr {x:Int}(h:IsPtr exL1 x):x=0:=by
 obtain⟨c,hc,ha,hv⟩:=h;rcases ex1_mem hc with rfl|rfl
 ·exact(ex1_ve hv).symm
 ·exact absurd ha (by decide)
theorem ex1_np:¬IsPtr exL1 1:=fun h=>by have:=ex1_ptr h;omega
theorem ex1_leads {x y:Int}(h:Leads exL1 x y):x=0:=by
 induction h with
 |one hc hw h1 _=>rw [←ex1_ve h1,ex1_wide hc hw];rfl
 |more _ _ _ _ _ ih=>exact ih
theorem ex1_good:¬Spoiled exL1 0:=by
 rintro⟨c,hc,hv,h⟩
 have hca:c=ex1a:=by
  rcases ex1_mem hc with rfl|rfl
  ·rfl
  ·have:=ex1_ve hv;exfalso;revert this;decide
 subst hca;rcases h with h|h|⟨_,e,he,ae,ve,_,hw⟩|⟨_,hr,_⟩|⟨_,_,t,ht,hne⟩
 ·exact absurd h.1 (by decide)
 ·exact absurd h.2 (by decide)
 ·rcases ex1_mem he with rfl|rfl
  ·exact hw rfl
  ·exact absurd ae (by decide)
 ·rcases hr with hr|hr
  ·have:=ex1_ve hr;revert this;decide
  ·have:=ex1_leads hr;revert this;decide
 ·rw[ht.unique ex1_cell]at hne;exact hne (by unfold fieldT;rw[if_pos (by decide)];rfl)
theorem ex1_solves:Solves exL1 2 exT1:=by
 refine⟨by decide,fun v t hv=>?_⟩
 match v,hv with
 | 0,hv=>
  obtain rfl:Ty.ptr (Ty.str [(8,Ty.int 4)])=t:=by simpa [exT1] using hv
  refine .inl ⟨⟨ex1a,by simp[exL1],by decide,.refl _⟩,1,.inr ⟨ex1_good,[(8,Ty.int 4)],⟨by simp[AscF],fun f hf=>?_,fun c hc ac vc=>?_⟩,by decide⟩⟩
  ·obtain rfl:f=(8,Ty.int 4):=by simpa using hf
   exact⟨ex1a,by simp[exL1],by decide,.refl _,rfl⟩
  ·rcases ex1_mem hc with rfl|rfl
   ·refine⟨Ty.int 4,by decide, ?_⟩;unfold Content;rw[if_neg (by decide)];exact .inl ⟨ex1_np,ex1_cell⟩
   ·exact absurd ac (by decide)
 | 1,hv=>
  obtain rfl:Ty.int 4=t:=by simpa [exT1] using hv
  refine .inr ⟨ex1_np,lub_one (by decide) fun s=>?_⟩;constructor
  ·rintro⟨k,hk,k1,hr,rfl⟩;rcases ex1_mem hk with rfl|rfl
   ·exact absurd k1 (by decide)
   ·rfl
  ·rintro rfl;exact⟨ex1b,by simp[exL1],rfl,.refl _,rfl⟩
 |v+2,hv=>simp [exT1]at hv
theorem ex2_solves:Solves exL2 2 exT2:=by
 refine⟨by decide,fun v t hv=>?_⟩
 match v,hv with
 |0,hv=>
  obtain rfl:Ty.any=t:=by simpa [exT2] using hv
  exact .inl ⟨⟨ex2a,by simp[exL2],by decide,.refl _⟩,1,.inl ⟨⟨ex2a,by simp[exL2],.refl _,.inr (.inr (.inl ⟨by decide,ex2b,by simp[exL2],by decide,.refl _,rfl,by decide⟩))⟩,rfl⟩⟩
 | 1,hv=>
  obtain rfl:Ty.unk=t:=by simpa [exT2] using hv
  refine .inr ⟨?_,lub_none fun s=>?_⟩
  ·rintro⟨c,hc,ha,hv⟩;have:=ex2_ve hv;rcases ex2_mem hc with rfl|rfl <;> revert this <;> decide
  ·rintro⟨k,hk,k1,_⟩;rcases ex2_mem hk with rfl|rfl <;> exact absurd k1 (by decide)
 |v+2,hv=>simp [exT2]at hv
theorem ex1_check:checkC exL1 2=0:=by decide
theorem ex2_check:checkC exL2 2=0:=by decide
theorem ex1_sat:satC exT1 ex1b=true:=solves_sat (fun c hc=>(check_zeroC.1 ex1_check).2.2.2 c hc) ex1_solves ex1b (by simp[exL1])
theorem ex1_bad:badL exT1=[]:=by decide
theorem ex2_bad:badL exT2=[0]:=by decide
end Go.Deco
