/- Lemmas of mine, merged. -/
import Derived.Test.YtlmipgdnlfjpaaaGreatPlam
import Derived.Laws.OwnMore
set_option linter.unusedSimpArgs false
set_option linter.unusedVariables false
namespace Go.Deco
open Go Go.RowKit
def setRow (w:World)(g:Nat):Nat->List Value->World
 |_,[]=>w
 |off,c :: cs=>setRow (w.setCell ⟨g,off,none⟩ c) g (off+1) cs
def Kj:List Value->Nat->List Value->List Value
 |xs,_,[]=>xs
 |xs,off,c :: cs=>Kj (xs.set off c) (off+1) cs
theorem cD:∀(cs old pre post:List Value),old.length=cs.length->Kj (pre ++ (old ++ post)) pre.length cs=pre ++ (cs ++ post)
 |[],old,pre,post,h=>by
  rw[List.length_eq_zero_iff.1 h];rfl
 |c :: cs,[],pre,post,h=>by simp at h
 |c :: cs,o :: old,pre,post,h=>by
  have e:(pre ++ (o :: old ++ post)).set pre.length c=(pre ++ [c]) ++ (old ++ post):=by simp
  have el:pre.length+1=(pre ++ [c]).length:=by simp
  rw[Kj,e,el,cD cs old (pre ++ [c]) post (by simpa using h)];simp
section
variable {E:Type}{R:Rep E}{w w':World}{S T:Nat->Prop}
theorem gF:∀{l:List E} {xs:List Value} {k:Nat} {e:E},QD R w S xs l->l[k]? =some e->
  ∃pre old post,xs=pre ++ (old ++ post)/\pre.length=k * R.size/\R.rel w S old e/\∀cs e',R.rel w S cs e'->QD R w S (pre ++ (cs ++ post)) (l.set k e')
 |[],_,_,_,_,h=>by simp at h
 |x :: l,_,0,e,⟨cs,rest,hx,hr,hc⟩,h=>by
  simp at h;subst h;refine⟨[],cs,rest,by simpa using hx,by simp,hr,fun cs' e' h'=>?_⟩;exact⟨cs',rest,rfl,h',hc⟩
 |x :: l,_,k+1,e,⟨cs,rest,hx,hr,hc⟩,h=>by
  obtain⟨pre,old,post,h1,h2,h3,h4⟩:=gF hc (by simpa using h);refine⟨cs ++ pre,old,post,by rw[hx,h1,List.append_assoc],by rw[List.length_append,R.len hr,h2,Nat.succ_mul,Nat.add_comm],h3,fun cs' e' h'=>?_⟩;exact⟨cs,pre ++ (cs' ++ post),by rw[List.append_assoc],hr,h4 cs' e' h'⟩
theorem fz {l:List E}{xs cs:List Value}{k:Nat}{e e':E}(h:QD R w S xs l)(hk:l[k]? =some e)(hr:R.rel w S cs e'):QD R w S (Kj xs (k * R.size) cs) (l.set k e'):=by
 obtain⟨pre,old,post,rfl,h2,h3,h4⟩:=gF h hk;rw[<-h2,cD cs old pre post (by rw[R.len h3,R.len hr])];exact h4 cs e' hr
theorem setRow_heap:∀(cs:List Value) (w:World) (g off b:Nat),b≠g->(setRow w g off cs).heap[b]? =w.heap[b]?
 |[],_,_,_,_,_=>rfl
 |c :: cs,w,g,off,b,h=>by
  rw[setRow,setRow_heap cs _ g _ b h];exact Below.heap_setCell _ _ _ _ h
theorem Yf:∀(cs:List Value) {w0 w:World} (g off:Nat),Ext w0 w->w0.heap.size<=g->Ext w0 (setRow w g off cs)
 |[],_,_,_,_,h,_=>h
 |c :: cs,_,_,g,off,h,hg=>Yf cs g (off+1) (h.setCell hg c) hg
theorem wg:∀(cs:List Value) {w:World} {base g n c:Nat} {e:TypeId} {size:Nat} {xs:List Value} (off:Nat),w.ownsRow base e size (.slice (some ⟨g,0,none⟩) n c) n xs->off+cs.length<=n * size->
  (setRow w g off cs).ownsRow base e size (.slice (some ⟨g,0,none⟩) n c) n (Kj xs off cs)
 |[],_,_,_,_,_,_,_,_,_,h,_=>h
 |u :: cs,w,_,g,_,_,_,_,xs,off,h,ho=>wg cs (off+1) (h.stored off u).1 (by simp at ho;omega)
theorem Qf.cells {base g n c k:Nat}{t:TypeId}{l:List E}{e:E}(h:Qf R w base t T (.slice (some ⟨g,0,none⟩) n c) l)(hk:l[k]? =some e):
  ∃cs,R.rel w (fun b=>T b/\b≠g) cs e/\∀j u,cs[j]? =some u->w.cell? ⟨g,k * R.size+j,none⟩=some u/\w.frozen? ⟨g,k * R.size+j,none⟩=false:=by
 have hn:=h.len;obtain⟨xs,ho,hc⟩:=h;obtain⟨cs,hr,hat⟩:=hc.get hk;have hlt:=(Qz hk).1;rw[<-hn]at ho;refine⟨cs,R.mono (fun b hb _=>⟨hb.1,fun e=>hb.2 (by rw[e];rfl)⟩) hr,fun j u hu=>⟨?_,ho.frozenAt _⟩⟩;have hj:=(Qz hu).1;rw[R.len hr]at hj;have hm:(k+1) * R.size<=n * R.size:=Nat.mul_le_mul_right _ (by omega);rw[Nat.succ_mul]at hm;rw[ho.cellAt _ (by omega)];exact hat j u hu
theorem Qf.put {base g n c k:Nat}{t:TypeId}{l:List E}{e e':E}{cs:List Value}(h:Qf R w base t T (.slice (some ⟨g,0,none⟩) n c) l)(hk:l[k]? =some e)(hr:R.rel w (fun b=>T b/\b≠g) cs e'):
  Qf R (setRow w g (k * R.size) cs) base t T (.slice (some ⟨g,0,none⟩) n c) (l.set k e'):=by
 have hn:=h.len;obtain⟨xs,ho,hc⟩:=h;have hlt:=(Qz hk).1;have hm:(k+1) * R.size<=n * R.size:=Nat.mul_le_mul_right _ (by omega);rw[Nat.succ_mul]at hm;refine⟨Kj xs (k * R.size) cs, ?_, ?_⟩
 ·rw[List.length_set,<-hn];rw[<-hn]at ho;exact wg cs _ ho (by rw[R.len hr];omega)
 ·have h2:=fz hc hk (R.mono (fun b hb _=>⟨hb.1,fun e=>by simp[Value.ownBlock]at e;exact hb.2 e⟩) hr);exact h2.keep fun b hb _=>setRow_heap cs w g _ b fun e=>hb.2 (by rw[e];rfl)
theorem mP:∀(pre cs xs:List Value) (off:Nat),(∀i u,pre[i]? =some u->xs[off+i]? =some u)->Kj xs off (pre ++ cs)=Kj xs (off+pre.length) cs
 |[],cs,xs,off,_=>by simp
 | p :: pre,cs,xs,off,h=>by
  have h0:xs[off]? =some p:=by have:=h 0 p rfl;simpa using this
  have e:xs.set off p=xs:=by
   obtain⟨hlt,he⟩:=Qz h0;rw[<-he];exact List.set_getElem_self hlt
  rw[List.cons_append,Kj,e,mP pre cs xs (off+1) (fun i u hu=>by have:=h (i+1) u (by simpa using hu);rwa [show off+(i+1)=off+1+i by omega]at this),List.length_cons,show off+(pre.length+1)=off+1+pre.length by omega]
theorem Qf.put2 {base g n c k:Nat}{t:TypeId}{l:List E}{e e':E}{pre cs:List Value}(h:Qf R w base t T (.slice (some ⟨g,0,none⟩) n c) l)(hk:l[k]? =some e)(hr:R.rel w (fun b=>T b/\b≠g) (pre ++ cs) e')
  (hpre:∀i u,pre[i]? =some u->w.cell? ⟨g,k * R.size+i,none⟩=some u):Qf R (setRow w g (k * R.size+pre.length) cs) base t T (.slice (some ⟨g,0,none⟩) n c) (l.set k e'):=by
 have hn:=h.len;have hlen:=R.len hr;rw[List.length_append]at hlen;obtain⟨xs,ho,hc⟩:=h;have hlt:=(Qz hk).1;have hm:(k+1) * R.size<=n * R.size:=Nat.mul_le_mul_right _ (by omega);rw[Nat.succ_mul]at hm;rw[<-hn]at ho
 have hs:Kj xs (k * R.size) (pre ++ cs)=Kj xs (k * R.size+pre.length) cs:=mP pre cs xs _ fun i u hu=>by
  have hi:=(Qz hu).1;rw[<-ho.cellAt _ (by omega)];exact hpre i u hu
 refine⟨Kj xs (k * R.size+pre.length) cs, ?_, ?_⟩
 ·rw[List.length_set,<-hn];exact wg cs _ ho (by omega)
 ·rw[<-hs];have h2:=fz hc hk (R.mono (fun b hb _=>⟨hb.1,fun e=>by simp[Value.ownBlock]at e;exact hb.2 e⟩) hr);exact h2.keep fun b hb _=>setRow_heap cs w g _ b fun e=>hb.2 (by rw[e];rfl)
end
def flR {E:Type}(R:Rep E)(base:Nat):Rep (E×Bool) where
 size:=R.size
 pos:=R.pos
 rel w S cs x:=R.rel w (fun b=>S b/\(x.2=true->base<=b)) cs x.1
 keep hk h:=R.keep (fun b hb=>hk b hb.1) h
 mono hk h:=R.mono (fun b hb hi=>⟨hk b hb.1 hi,hb.2⟩) h
 len h:=R.len h
 one h:=R.one h
def Vj {E:Type}(l:List E)(k:Nat):List (E×Bool):=(l.take k).map (fun x=>(x,true)) ++ (l.drop k).map (fun x=>(x,false))
theorem JM {E:Type}{l:List E}{k:Nat}{x:E}(h:l[k]? =some x):(Vj l k)[k]? =some (x,false):=by
 have hk:=(Qz h).1;unfold Vj;rw[List.getElem?_append_right (by simp;omega)];simp[Nat.min_eq_left (by omega:k<=l.length),h]
theorem jQ {E:Type}{l:List E}{k:Nat}{x:E}(h:l[k]? =some x):(Vj l k).set k (x,true)=Vj l (k+1):=by
 have hk:=(Qz h).1;unfold Vj
 have hd:l.drop k=x :: l.drop (k+1):=by
  obtain⟨h1,h2⟩:=Qz h;rw[<-h2];exact List.drop_eq_getElem_cons h1
 have ht:l.take (k+1)=l.take k ++ [x]:=by rw[List.take_add_one,h];rfl
 rw[hd,ht];rw[List.set_append_right _ _ (by simp;omega)];simp[Nat.min_eq_left (by omega:k<=l.length)]
section
variable {E:Type}{R:Rep E}{w:World}{S T:Nat->Prop}{b0 base:Nat}{e:TypeId}{v:Value}
theorem gD {b:Bool}(hT:b=true->∀x,S x->b0<=x):∀{l:List E} {xs:List Value},QD R w S xs l->QD (flR R b0) w S xs (l.map fun x=>(x,b))
 |[],_,h=>h
 |x :: l,_,⟨cs,rest,hx,hr,h⟩=>⟨cs,rest,hx,R.mono (fun y hy _=>⟨hy,fun hb=>hT hb y hy⟩) hr,gD hT h⟩
theorem Qf.monoT {T':Nat->Prop}{l:List E}(h:Qf R w base e T v l)(hT:∀b,T b->Z2 w b->T' b):Qf R w base e T' v l:=by
 obtain⟨xs,ho,hc⟩:=h;exact⟨xs,ho,hc.mono fun b hb hi=>⟨hT b hb.1 hi,hb.2⟩⟩
theorem Qf.flag {l:List E}(h:Qf R w base e T v l):Qf (flR R b0) w base e T v (Vj l 0):=by
 obtain⟨xs,ho,hc⟩:=h;have e1:Vj l 0=l.map fun x=>(x,false):=by simp[Vj]
 rw[e1];exact⟨xs,by rw[List.length_map];exact ho,gD (b:=false) (fun h=>by cases h) hc⟩
theorem gV:∀{l:List E} {xs:List Value},QD (flR R b0) w S xs (l.map fun x=>(x,true))->QD R w (fun b=>S b/\b0<=b) xs l
 |[],_,h=>h
 |x :: l,_,⟨cs,rest,hx,hr,h⟩=>⟨cs,rest,hx,R.mono (fun y hy _=>⟨hy.1,hy.2 rfl⟩) hr,gV h⟩
theorem Qf.unflag {l:List E}{k:Nat}(h:Qf (flR R b0) w base e T v (Vj l k))(hk:l.length<=k):Qf R w base e (fun b=>T b/\b0<=b) v l:=by
 have e1:Vj l k=l.map fun x=>(x,true):=by simp[Vj,Qj hk,List.drop_eq_nil_of_le hk]
 rw[e1]at h;obtain⟨xs,ho,hc⟩:=h;rw[List.length_map]at ho;exact⟨xs,ho,(gV hc).mono fun b hb _=>⟨⟨hb.1.1,hb.2⟩,hb.1.2⟩⟩
end
def TyV (d:Nat)(w:World)(S:Nat->Prop)(v:Value)(t:Ty):Prop:=
 ∃A n c B m e,v= .agg #[.int .i64 t.kind,.int .i64 t.size,.int .i64 t.count,.slice A n c,.slice B m e]/\Sl (tyR d) w S (.slice A n c) t.elem/\Sl (fdR (tyR d)) w S (.slice B m e) t.fields/\
  Qy t.kind/\Qy t.size/\Qy t.count
def FdV (d:Nat)(w:World)(S:Nat->Prop)(v:Value)(f:Int×Ty):Prop:=
 ∃A n c B m e,v= .agg #[.int .i64 f.1,.int .i64 f.2.kind,.int .i64 f.2.size,.int .i64 f.2.count,.slice A n c,.slice B m e]/\Qy f.1/\
  TyV d w S (.agg #[.int .i64 f.2.kind,.int .i64 f.2.size,.int .i64 f.2.count,.slice A n c,.slice B m e]) f.2
section
variable {d d':Nat}{w w':World}{S S':Nat->Prop}{v:Value}{t:Ty}{f:Int×Ty}
theorem TyV.ext (h:TyV d w S v t)(he:Ext w w'):TyV d w' S v t:=by
 obtain⟨A,n,c,B,m,e,h0,h1,h2,h3⟩:=h;exact⟨A,n,c,B,m,e,h0,h1.ext he,h2.ext he,h3⟩
theorem TyV.keep (hk:∀b,S b->Z2 w b->w'.heap[b]? =w.heap[b]?)(h:TyV d w S v t):TyV d w' S v t:=by
 obtain⟨A,n,c,B,m,e,h0,h1,h2,h3⟩:=h;exact⟨A,n,c,B,m,e,h0,h1.keep hk,h2.keep hk,h3⟩
theorem TyV.mono (hk:∀b,S b->Z2 w b->S' b)(h:TyV d w S v t):TyV d w S' v t:=by
 obtain⟨A,n,c,B,m,e,h0,h1,h2,h3⟩:=h;exact⟨A,n,c,B,m,e,h0,h1.mono hk,h2.mono hk,h3⟩
theorem TyV.all (h:TyV d w S v t):TyV d w All v t:=h.mono fun _ _ _=>trivial
theorem FdV.ext (h:FdV d w S v f)(he:Ext w w'):FdV d w' S v f:=by
 obtain⟨A,n,c,B,m,e,h0,h1,h2⟩:=h;exact⟨A,n,c,B,m,e,h0,h1,h2.ext he⟩
theorem FdV.mono (hk:∀b,S b->Z2 w b->S' b)(h:FdV d w S v f):FdV d w S' v f:=by
 obtain⟨A,n,c,B,m,e,h0,h1,h2⟩:=h;exact⟨A,n,c,B,m,e,h0,h1,h2.mono hk⟩
theorem FdV.all (h:FdV d w S v f):FdV d w All v f:=h.mono fun _ _ _=>trivial
theorem gq {d d':Nat}(hd:d<=d'):∀(w:World) (S:Nat->Prop) (cs:List Value) (f:Int×Ty),(fdR (tyR d)).rel w S cs f->(fdR (tyR d')).rel w S cs f:=
 fun w S cs f ⟨r,k1,k2,k3⟩=>⟨r,k1,Km hd _ _ _ _ k2,k3⟩
theorem ZJ (d:Nat):(fdR (tyR d)).size=6:=by show(tyR d).size+1=6;rw[ZY]
theorem Sl.ty_up {l:List Ty}(hd:d<=d')(h:Sl (tyR d) w S v l):Sl (tyR d') w S v l:=Sl.up (by rw[ZY,ZY]) (Km hd) h
theorem Sl.fd_up {l:List (Int×Ty)}(hd:d<=d')(h:Sl (fdR (tyR d)) w S v l):Sl (fdR (tyR d')) w S v l:=Sl.up (by rw[ZJ,ZJ]) (gq hd) h
theorem TyV.up (hd:d<=d')(h:TyV d w S v t):TyV d' w S v t:=by
 obtain⟨A,n,c,B,m,e,h0,h1,h2,h3⟩:=h;exact⟨A,n,c,B,m,e,h0,h1.ty_up hd,h2.fd_up hd,h3⟩
theorem FdV.up (hd:d<=d')(h:FdV d w S v f):FdV d' w S v f:=by
 obtain⟨A,n,c,B,m,e,h0,h1,h2⟩:=h;exact⟨A,n,c,B,m,e,h0,h1,h2.up hd⟩
theorem Xb {cs:List Value}:(tyR (d+1)).rel w S cs t↔∃v,TyV d w S v t/\v= .agg cs.toArray:=by
 constructor
 ·rintro⟨ve,vf,rfl,h1,h2,h3⟩;obtain⟨A,c,rfl,_⟩:=h1.form;obtain⟨B,e,rfl,_⟩:=h2.form;exact⟨_,⟨A,_,c,B,_,e,rfl,h1,h2,h3⟩,rfl⟩
 ·rintro⟨_,⟨A,n,c,B,m,e,rfl,h1,h2,h3⟩,hv⟩;injection hv with hv
  have:cs=[.int .i64 t.kind,.int .i64 t.size,.int .i64 t.count,.slice A n c,.slice B m e]:=by
   have:=congrArg Array.toList hv;simpa using this.symm
  exact⟨_,_,this,h1,h2,h3⟩
theorem VG {cs:List Value}:(fdR (tyR (d+1))).rel w S cs f↔FdV d w S (.agg cs.toArray) f:=by
 constructor
 ·rintro⟨r,rfl,h1,h2⟩;obtain⟨_,⟨A,n,c,B,m,e,rfl,h3⟩,hv⟩:=Xb.1 h1;injection hv with hv
  have:r=[.int .i64 f.2.kind,.int .i64 f.2.size,.int .i64 f.2.count,.slice A n c,.slice B m e]:=by
   have:=congrArg Array.toList hv;simpa using this.symm
  subst this;exact⟨A,n,c,B,m,e,rfl,h2,⟨A,n,c,B,m,e,rfl,h3⟩⟩
 ·rintro⟨A,n,c,B,m,e,hv,h1,h2⟩;injection hv with hv
  have:cs=[.int .i64 f.1,.int .i64 f.2.kind,.int .i64 f.2.size,.int .i64 f.2.count,.slice A n c,.slice B m e]:=by
   have:=congrArg Array.toList hv;simpa using this
  exact⟨_,this,Xb.2 ⟨_,h2,rfl⟩,h1⟩
theorem Sl.ty_at {l:List Ty}{A:Option Addr}{n c k:Nat}(h:Sl (tyR d) w S (.slice A n c) l)(hk:l[k]? =some t):
  ∃d' b off A1 n1 c1 B1 m1 e1,d=d'+1/\A=some ⟨b,off,none⟩/\TyV d' w S (.agg #[.int .i64 t.kind,.int .i64 t.size,.int .i64 t.count,.slice A1 n1 c1,.slice B1 m1 e1]) t/\
   w.cell? ⟨b,off+k * 5,none⟩=some (.int .i64 t.kind)/\w.cell? ⟨b,off+k * 5+1,none⟩=some (.int .i64 t.size)/\w.cell? ⟨b,off+k * 5+2,none⟩=some (.int .i64 t.count)/\
   w.cell? ⟨b,off+k * 5+3,none⟩=some (.slice A1 n1 c1)/\w.cell? ⟨b,off+k * 5+4,none⟩=some (.slice B1 m1 e1):=by
 obtain⟨A',c',hv,h1,h2,h3,h4⟩:=h;simp only[Value.slice.injEq]at hv;obtain⟨rfl,rfl,rfl⟩:=hv;obtain⟨b,off,rfl,_,hc⟩:=h4 (by rintro rfl;simp at hk);obtain⟨cs,hr,hat⟩:=hc k t hk;rw[ZY]at hat
 cases d with
 |zero=>exact hr.elim
 | succ d'=>
  obtain⟨_,⟨A1,n1,c1,B1,m1,e1,rfl,h5⟩,hv⟩:=Xb.1 hr;injection hv with hv
  have:cs=[.int .i64 t.kind,.int .i64 t.size,.int .i64 t.count,.slice A1 n1 c1,.slice B1 m1 e1]:=by
   have:=congrArg Array.toList hv;simpa using this.symm
  subst this;refine⟨d',b,off,A1,n1,c1,B1,m1,e1,rfl,rfl,⟨A1,n1,c1,B1,m1,e1,rfl,h5⟩, ?_, ?_, ?_, ?_, ?_⟩
  ·simpa using hat 0 _ rfl
  ·simpa [Nat.add_assoc] using hat 1 _ rfl
  ·simpa [Nat.add_assoc] using hat 2 _ rfl
  ·simpa [Nat.add_assoc] using hat 3 _ rfl
  ·simpa [Nat.add_assoc] using hat 4 _ rfl
theorem Sl.fd_at {l:List (Int×Ty)}{A:Option Addr}{n c k:Nat}(h:Sl (fdR (tyR d)) w S (.slice A n c) l)(hk:l[k]? =some f):
  ∃d' b off A1 n1 c1 B1 m1 e1,d=d'+1/\A=some ⟨b,off,none⟩/\TyV d' w S (.agg #[.int .i64 f.2.kind,.int .i64 f.2.size,.int .i64 f.2.count,.slice A1 n1 c1,.slice B1 m1 e1]) f.2/\Qy f.1/\
   w.cell? ⟨b,off+k * 6,none⟩=some (.int .i64 f.1)/\
   w.cell? ⟨b,off+k * 6+1,none⟩=some (.int .i64 f.2.kind)/\w.cell? ⟨b,off+k * 6+2,none⟩=some (.int .i64 f.2.size)/\w.cell? ⟨b,off+k * 6+3,none⟩=some (.int .i64 f.2.count)/\
   w.cell? ⟨b,off+k * 6+4,none⟩=some (.slice A1 n1 c1)/\w.cell? ⟨b,off+k * 6+5,none⟩=some (.slice B1 m1 e1):=by
 obtain⟨A',c',hv,h1,h2,h3,h4⟩:=h;simp only[Value.slice.injEq]at hv;obtain⟨rfl,rfl,rfl⟩:=hv;obtain⟨b,off,rfl,_,hc⟩:=h4 (by rintro rfl;simp at hk);obtain⟨cs,hr,hat⟩:=hc k f hk;rw[ZJ]at hat
 cases d with
 |zero=>obtain⟨r,_,hr,_⟩:=hr;exact hr.elim
 | succ d'=>
  obtain⟨A1,n1,c1,B1,m1,e1,hv,h5,h6⟩:=VG.1 hr;injection hv with hv
  have:cs=[.int .i64 f.1,.int .i64 f.2.kind,.int .i64 f.2.size,.int .i64 f.2.count,.slice A1 n1 c1,.slice B1 m1 e1]:=by
   have:=congrArg Array.toList hv;simpa using this
  subst this;refine⟨d',b,off,A1,n1,c1,B1,m1,e1,rfl,rfl,h6,h5, ?_, ?_, ?_, ?_, ?_, ?_⟩
  ·simpa using hat 0 _ rfl
  ·simpa [Nat.add_assoc] using hat 1 _ rfl
  ·simpa [Nat.add_assoc] using hat 2 _ rfl
  ·simpa [Nat.add_assoc] using hat 3 _ rfl
  ·simpa [Nat.add_assoc] using hat 4 _ rfl
  ·simpa [Nat.add_assoc] using hat 5 _ rfl
theorem TyV.form (h:TyV d w S v t):∃A n c B m e,v= .agg #[.int .i64 t.kind,.int .i64 t.size,.int .i64 t.count,.slice A n c,.slice B m e]/\Sl (tyR d) w S (.slice A n c) t.elem/\Sl (fdR (tyR d)) w S (.slice B m e) t.fields/\Qy t.kind/\Qy t.size/\Qy t.count:=h
end
def VP (c:Con):Prop:=Qy c.kind/\Qy c.a/\Qy c.b/\Qy c.off/\Qy c.width
def Zf (R:Rep Ty):Rep Con where
 size:=R.size+5
 pos:=by omega
 rel w S cs c:=∃r,cs= .int .i64 c.kind :: .int .i64 c.a :: .int .i64 c.b :: .int .i64 c.off :: .int .i64 c.width :: r/\R.rel w S r c.type/\VP c
 keep hk:=fun⟨r,h1,h2,h3⟩=>⟨r,h1,R.keep hk h2,h3⟩
 mono hk:=fun⟨r,h1,h2,h3⟩=>⟨r,h1,R.mono hk h2,h3⟩
 len:=fun⟨r,h1,h2,_⟩=>by rw[h1];simp[R.len h2]
 one:=fun⟨r,h1,h2,_⟩ u hu=>by
  rw[h1]at hu;simp only[List.mem_cons]at hu;rcases hu with rfl|rfl|rfl|rfl|rfl|hu
  ·rfl
  ·rfl
  ·rfl
  ·rfl
  ·rfl
  ·exact R.one h2 u hu
theorem zd (d:Nat):(Zf (tyR d)).size=10:=by show(tyR d).size+5=10;rw[ZY]
def Xc (d:Nat)(w:World)(S:Nat->Prop)(v:Value)(c:Con):Prop:=
 ∃A n e B m f,v= .agg #[.int .i64 c.kind,.int .i64 c.a,.int .i64 c.b,.int .i64 c.off,.int .i64 c.width,.int .i64 c.type.kind,.int .i64 c.type.size,.int .i64 c.type.count,.slice A n e,.slice B m f]/\VP c/\
  TyV d w S (.agg #[.int .i64 c.type.kind,.int .i64 c.type.size,.int .i64 c.type.count,.slice A n e,.slice B m f]) c.type
section
variable {d d':Nat}{w w':World}{S S':Nat->Prop}{v:Value}{c:Con}
theorem Xc.ext (h:Xc d w S v c)(he:Ext w w'):Xc d w' S v c:=by
 obtain⟨A,n,e,B,m,f,h0,h1,h2⟩:=h;exact⟨A,n,e,B,m,f,h0,h1,h2.ext he⟩
theorem Xc.mono (hk:∀b,S b->Z2 w b->S' b)(h:Xc d w S v c):Xc d w S' v c:=by
 obtain⟨A,n,e,B,m,f,h0,h1,h2⟩:=h;exact⟨A,n,e,B,m,f,h0,h1,h2.mono hk⟩
theorem Xc.all (h:Xc d w S v c):Xc d w All v c:=h.mono fun _ _ _=>trivial
theorem yc {cs:List Value}:(Zf (tyR (d+1))).rel w S cs c↔Xc d w S (.agg cs.toArray) c:=by
 constructor
 ·rintro⟨r,rfl,h1,h2⟩;obtain⟨_,⟨A,n,e,B,m,f,rfl,h3⟩,hv⟩:=Xb.1 h1;injection hv with hv
  have:r=[.int .i64 c.type.kind,.int .i64 c.type.size,.int .i64 c.type.count,.slice A n e,.slice B m f]:=by
   have:=congrArg Array.toList hv;simpa using this.symm
  subst this;exact⟨A,n,e,B,m,f,rfl,h2,⟨A,n,e,B,m,f,rfl,h3⟩⟩
 ·rintro⟨A,n,e,B,m,f,hv,h1,h2⟩;injection hv with hv
  have:cs=[.int .i64 c.kind,.int .i64 c.a,.int .i64 c.b,.int .i64 c.off,.int .i64 c.width,.int .i64 c.type.kind,.int .i64 c.type.size,.int .i64 c.type.count,.slice A n e,.slice B m f]:=by
   have:=congrArg Array.toList hv;simpa using this
  exact⟨_,this,Xb.2 ⟨_,h2,rfl⟩,h1⟩
def Xj (w:World)(g q:Nat)(c:Con)(A:Option Addr)(n e:Nat)(B:Option Addr)(m f:Nat):Prop:=
 w.cell? ⟨g,q,none⟩=some (.int .i64 c.kind)/\w.cell? ⟨g,q+1,none⟩=some (.int .i64 c.a)/\w.cell? ⟨g,q+2,none⟩=some (.int .i64 c.b)/\w.cell? ⟨g,q+3,none⟩=some (.int .i64 c.off)/\w.cell? ⟨g,q+4,none⟩=some (.int .i64 c.width)/\
  w.cell? ⟨g,q+5,none⟩=some (.int .i64 c.type.kind)/\w.cell? ⟨g,q+6,none⟩=some (.int .i64 c.type.size)/\w.cell? ⟨g,q+7,none⟩=some (.int .i64 c.type.count)/\w.cell? ⟨g,q+8,none⟩=some (.slice A n e)/\w.cell? ⟨g,q+9,none⟩=some (.slice B m f)
theorem Xj.ext {g q:Nat}{A B:Option Addr}{n e m f:Nat}(h:Xj w g q c A n e B m f)(he:Ext w w'):Xj w' g q c A n e B m f:=by
 obtain⟨h0,h1,h2,h3,h4,h5,h6,h7,h8,h9⟩:=h;exact⟨he.cell h0,he.cell h1,he.cell h2,he.cell h3,he.cell h4,he.cell h5,he.cell h6,he.cell h7,he.cell h8,he.cell h9⟩
theorem Sl.con_at {l:List Con}{A:Option Addr}{n e k:Nat}(h:Sl (Zf (tyR d)) w S (.slice A n e) l)(hk:l[k]? =some c):
  ∃d' b off A1 n1 c1 B1 m1 e1,d=d'+1/\A=some ⟨b,off,none⟩/\Xc d' w S (.agg #[.int .i64 c.kind,.int .i64 c.a,.int .i64 c.b,.int .i64 c.off,.int .i64 c.width,.int .i64 c.type.kind,.int .i64 c.type.size,.int .i64 c.type.count,.slice A1 n1 c1,.slice B1 m1 e1]) c/\
   Xj w b (off+k * 10) c A1 n1 c1 B1 m1 e1/\S b:=by
 obtain⟨A',c',hv,h1,h2,h3,h4⟩:=h;simp only[Value.slice.injEq]at hv;obtain⟨rfl,rfl,rfl⟩:=hv;obtain⟨b,off,rfl,hS,hc⟩:=h4 (by rintro rfl;simp at hk);obtain⟨cs,hr,hat⟩:=hc k c hk;rw[zd]at hat
 cases d with
 |zero=>obtain⟨r,_,hr,_⟩:=hr;exact hr.elim
 | succ d'=>
  obtain⟨A1,n1,c1,B1,m1,e1,hv,h5,h6⟩:=yc.1 hr;injection hv with hv
  have:cs=[.int .i64 c.kind,.int .i64 c.a,.int .i64 c.b,.int .i64 c.off,.int .i64 c.width,.int .i64 c.type.kind,.int .i64 c.type.size,.int .i64 c.type.count,.slice A1 n1 c1,.slice B1 m1 e1]:=by
   have:=congrArg Array.toList hv;simpa using this
  subst this;refine⟨d',b,off,A1,n1,c1,B1,m1,e1,rfl,rfl,⟨A1,n1,c1,B1,m1,e1,rfl,h5,h6⟩,⟨?_, ?_, ?_, ?_, ?_, ?_, ?_, ?_, ?_, ?_⟩,hS⟩
  ·simpa using hat 0 _ rfl
  ·simpa [Nat.add_assoc] using hat 1 _ rfl
  ·simpa [Nat.add_assoc] using hat 2 _ rfl
  ·simpa [Nat.add_assoc] using hat 3 _ rfl
  ·simpa [Nat.add_assoc] using hat 4 _ rfl
  ·simpa [Nat.add_assoc] using hat 5 _ rfl
  ·simpa [Nat.add_assoc] using hat 6 _ rfl
  ·simpa [Nat.add_assoc] using hat 7 _ rfl
  ·simpa [Nat.add_assoc] using hat 8 _ rfl
  ·simpa [Nat.add_assoc] using hat 9 _ rfl
theorem Y9 {l:List Con}{A:Option Addr}{n e:Nat}(h:Sl (Zf (tyR d)) w S (.slice A n e) l):∀c∈l,VP c:=by
 intro c hc;obtain⟨k,hk⟩:=List.getElem?_of_mem hc;obtain⟨_,_,_,_,_,_,_,_,_,_,_,⟨_,_,_,_,_,_,_,h,_⟩,_⟩:=h.con_at hk;exact h
end
theorem Xj.new (w:World)(c:Con)(A:Option Addr)(n e:Nat)(B:Option Addr)(m f:Nat)(t:TypeId):
  Xj (w.alloc (.cells #[.int .i64 c.kind,.int .i64 c.a,.int .i64 c.b,.int .i64 c.off,.int .i64 c.width,.int .i64 c.type.kind,.int .i64 c.type.size,.int .i64 c.type.count,.slice A n e,.slice B m f] t)) w.heap.size 0 c A n e B m f:=
 ⟨by simp[go_sem],by simp[go_sem],by simp[go_sem],by simp[go_sem],by simp[go_sem],by simp[go_sem],by simp[go_sem],by simp[go_sem],by simp[go_sem],by simp[go_sem]⟩
def F9:Rep Acc where
 size:=4
 pos:=by omega
 rel _ _ cs a:=cs=[.int .i64 a.base,.int .i64 a.off,.int .i64 a.width,.bool a.sgn]/\Qy a.base/\Qy a.off/\Qy a.width
 keep _ h:=h
 mono _ h:=h
 len h:=by rw[h.1];rfl
 one h u hu:=by
  rw[h.1]at hu;simp at hu;rcases hu with rfl|rfl|rfl|rfl <;> rfl
def Hz (a:Acc):Value:= .agg #[.int .i64 a.base,.int .i64 a.off,.int .i64 a.width,.bool a.sgn]
def Fw (a:Acc):Int:=if a.sgn then 1 else 2
def F5 (a:Acc):Value:= .agg #[.int .i64 a.off,.int .i64 (Fw a),.int .i64 a.width,.int .i64 0,.slice none 0 0,.slice none 0 0]
theorem J1 (d:Nat)(w:World)(S:Nat->Prop)(k n:Int)(hk:Qy k)(hn:Qy n):TyV d w S (.agg #[.int .i64 k,.int .i64 n,.int .i64 0,.slice none 0 0,.slice none 0 0]) (.mk k n 0 [] []):=
 ⟨none,0,0,none,0,0,rfl,Sl.nil,Sl.nil,hk,hn,by show Qy 0;unfold Qy;omega⟩
theorem jj {w:World}{b:Nat}{o0 o1 o2 o3 o4:Value}(h0:w.cell? ⟨b,0,none⟩=some o0)(h1:w.cell? ⟨b,1,none⟩=some o1)(h2:w.cell? ⟨b,2,none⟩=some o2)(h3:w.cell? ⟨b,3,none⟩=some o3)(h4:w.cell? ⟨b,4,none⟩=some o4)(v0 v1 v2 v3 v4:Value):
  (((((w.setCell ⟨b,0,none⟩ v0).setCell ⟨b,1,none⟩ v1).setCell ⟨b,2,none⟩ v2).setCell ⟨b,3,none⟩ v3).setCell ⟨b,4,none⟩ v4).cell? ⟨b,0,none⟩=some v0/\(((((w.setCell ⟨b,0,none⟩ v0).setCell ⟨b,1,none⟩ v1).setCell ⟨b,2,none⟩ v2).setCell ⟨b,3,none⟩ v3).setCell ⟨b,4,none⟩ v4).cell? ⟨b,1,none⟩=some v1/\(((((w.setCell ⟨b,0,none⟩ v0).setCell ⟨b,1,none⟩ v1).setCell ⟨b,2,none⟩ v2).setCell ⟨b,3,none⟩ v3).setCell ⟨b,4,none⟩ v4).cell? ⟨b,2,none⟩=some v2/\(((((w.setCell ⟨b,0,none⟩ v0).setCell ⟨b,1,none⟩ v1).setCell ⟨b,2,none⟩ v2).setCell ⟨b,3,none⟩ v3).setCell ⟨b,4,none⟩ v4).cell? ⟨b,3,none⟩=some v3/\(((((w.setCell ⟨b,0,none⟩ v0).setCell ⟨b,1,none⟩ v1).setCell ⟨b,2,none⟩ v2).setCell ⟨b,3,none⟩ v3).setCell ⟨b,4,none⟩ v4).cell? ⟨b,4,none⟩=some v4:=by
 refine⟨?_, ?_, ?_, ?_, ?_⟩ <;> simp[World.cell?_setCell_same,World.cell?_setCell_other,h0,h1,h2,h3,h4]
theorem jv {w:World}{b:Nat}{o0 o1 o2 o3 o4 o5:Value}(h0:w.cell? ⟨b,0,none⟩=some o0)(h1:w.cell? ⟨b,1,none⟩=some o1)(h2:w.cell? ⟨b,2,none⟩=some o2)(h3:w.cell? ⟨b,3,none⟩=some o3)(h4:w.cell? ⟨b,4,none⟩=some o4)(h5:w.cell? ⟨b,5,none⟩=some o5)(v0 v1 v2 v3 v4 v5:Value):
  ((((((w.setCell ⟨b,0,none⟩ v0).setCell ⟨b,1,none⟩ v1).setCell ⟨b,2,none⟩ v2).setCell ⟨b,3,none⟩ v3).setCell ⟨b,4,none⟩ v4).setCell ⟨b,5,none⟩ v5).cell? ⟨b,0,none⟩=some v0/\((((((w.setCell ⟨b,0,none⟩ v0).setCell ⟨b,1,none⟩ v1).setCell ⟨b,2,none⟩ v2).setCell ⟨b,3,none⟩ v3).setCell ⟨b,4,none⟩ v4).setCell ⟨b,5,none⟩ v5).cell? ⟨b,1,none⟩=some v1/\((((((w.setCell ⟨b,0,none⟩ v0).setCell ⟨b,1,none⟩ v1).setCell ⟨b,2,none⟩ v2).setCell ⟨b,3,none⟩ v3).setCell ⟨b,4,none⟩ v4).setCell ⟨b,5,none⟩ v5).cell? ⟨b,2,none⟩=some v2/\((((((w.setCell ⟨b,0,none⟩ v0).setCell ⟨b,1,none⟩ v1).setCell ⟨b,2,none⟩ v2).setCell ⟨b,3,none⟩ v3).setCell ⟨b,4,none⟩ v4).setCell ⟨b,5,none⟩ v5).cell? ⟨b,3,none⟩=some v3/\((((((w.setCell ⟨b,0,none⟩ v0).setCell ⟨b,1,none⟩ v1).setCell ⟨b,2,none⟩ v2).setCell ⟨b,3,none⟩ v3).setCell ⟨b,4,none⟩ v4).setCell ⟨b,5,none⟩ v5).cell? ⟨b,4,none⟩=some v4/\((((((w.setCell ⟨b,0,none⟩ v0).setCell ⟨b,1,none⟩ v1).setCell ⟨b,2,none⟩ v2).setCell ⟨b,3,none⟩ v3).setCell ⟨b,4,none⟩ v4).setCell ⟨b,5,none⟩ v5).cell? ⟨b,5,none⟩=some v5:=by
 refine⟨?_, ?_, ?_, ?_, ?_, ?_⟩ <;> simp[World.cell?_setCell_same,World.cell?_setCell_other,h0,h1,h2,h3,h4,h5]
theorem ZD {a w:World}{b:Nat}(h:Ext a w)(hb:a.heap.size<=b)(v0 v1 v2 v3 v4:Value):Ext a (((((w.setCell ⟨b,0,none⟩ v0).setCell ⟨b,1,none⟩ v1).setCell ⟨b,2,none⟩ v2).setCell ⟨b,3,none⟩ v3).setCell ⟨b,4,none⟩ v4):=(((((h.setCell (p:=⟨b,0,none⟩) hb v0).setCell (p:=⟨b,1,none⟩) hb v1).setCell (p:=⟨b,2,none⟩) hb v2).setCell (p:=⟨b,3,none⟩) hb v3).setCell (p:=⟨b,4,none⟩) hb v4)
theorem xv {a w:World}{b:Nat}(h:Ext a w)(hb:a.heap.size<=b)(v0 v1 v2 v3 v4 v5:Value):Ext a ((((((w.setCell ⟨b,0,none⟩ v0).setCell ⟨b,1,none⟩ v1).setCell ⟨b,2,none⟩ v2).setCell ⟨b,3,none⟩ v3).setCell ⟨b,4,none⟩ v4).setCell ⟨b,5,none⟩ v5):=((((((h.setCell (p:=⟨b,0,none⟩) hb v0).setCell (p:=⟨b,1,none⟩) hb v1).setCell (p:=⟨b,2,none⟩) hb v2).setCell (p:=⟨b,3,none⟩) hb v3).setCell (p:=⟨b,4,none⟩) hb v4).setCell (p:=⟨b,5,none⟩) hb v5)
theorem Jv (w:World)(b:Nat)(v0 v1 v2 v3 v4:Value){k:Nat}(hk:k≠b):(((((w.setCell ⟨b,0,none⟩ v0).setCell ⟨b,1,none⟩ v1).setCell ⟨b,2,none⟩ v2).setCell ⟨b,3,none⟩ v3).setCell ⟨b,4,none⟩ v4).heap[k]? =w.heap[k]? :=by
 rw[Below.heap_setCell _ _ _ _ (by exact hk)];rw[Below.heap_setCell _ _ _ _ (by exact hk)];rw[Below.heap_setCell _ _ _ _ (by exact hk)];rw[Below.heap_setCell _ _ _ _ (by exact hk)];rw[Below.heap_setCell _ _ _ _ (by exact hk)]
theorem cM {w:World}{b:Nat}(v0 v1 v2 v3 v4:Value){p:Addr}(hp:p.block≠b){u:Value}(h:w.cell? p=some u):(((((w.setCell ⟨b,0,none⟩ v0).setCell ⟨b,1,none⟩ v1).setCell ⟨b,2,none⟩ v2).setCell ⟨b,3,none⟩ v3).setCell ⟨b,4,none⟩ v4).cell? p=some u:=(World.cell?_of_block (Jv w b v0 v1 v2 v3 v4 hp)).trans h
theorem mF (w:World)(b:Nat)(v0 v1 v2 v3 v4 v5:Value){k:Nat}(hk:k≠b):((((((w.setCell ⟨b,0,none⟩ v0).setCell ⟨b,1,none⟩ v1).setCell ⟨b,2,none⟩ v2).setCell ⟨b,3,none⟩ v3).setCell ⟨b,4,none⟩ v4).setCell ⟨b,5,none⟩ v5).heap[k]? =w.heap[k]? :=by
 rw[Below.heap_setCell _ _ _ _ (by exact hk)];rw[Below.heap_setCell _ _ _ _ (by exact hk)];rw[Below.heap_setCell _ _ _ _ (by exact hk)];rw[Below.heap_setCell _ _ _ _ (by exact hk)];rw[Below.heap_setCell _ _ _ _ (by exact hk)];rw[Below.heap_setCell _ _ _ _ (by exact hk)]
end Go.Deco
