/- Lemmas of mine, merged. -/
import Derived.Test.YtlmipgdnlfjpaaaGreatBasm
import Derived.Laws.OwnMore
import Derived.Test.YtlmipgdnlfjpaaaGreatPlam
import Derived.Test.YtlmipgdnlfjpaaaGreatTymm
set_option linter.unusedSimpArgs false
set_option linter.unusedVariables false
namespace Go.Deco
open Go Go.RowKit
structure XZ {E:Type}(R:Rep E) where
 cells:E->List Value
 ok:E->Prop
 iff:∀(w:World) (S:Nat->Prop) (cs:List Value) (e:E),R.rel w S cs e↔cs=cells e/\ok e
 len:∀e,(cells e).length=R.size
section
variable {E:Type}{R:Rep E}(p:XZ R){w w':World}{S T:Nat->Prop}{l:List E}
theorem XZ.chunks:∀{l:List E} {xs:List Value},QD R w S xs l↔xs=l.flatMap p.cells/\∀e∈l,p.ok e
 |[],xs=>by simp[QD]
 | y :: l,xs=>by
  constructor
  ·rintro⟨cs,rest,rfl,hr,h⟩;obtain⟨rfl,hy⟩:=(p.iff _ _ _ _).1 hr;obtain⟨rfl,h2⟩:=(XZ.chunks).1 h;refine⟨by rw[List.flatMap_cons],fun x hx=>?_⟩;rcases List.mem_cons.1 hx with rfl|hx
   ·exact hy
   ·exact h2 x hx
  ·rintro⟨rfl,h⟩;exact⟨_,_,by rw[List.flatMap_cons],(p.iff _ _ _ _).2 ⟨rfl,h y (by simp)⟩,XZ.chunks.2 ⟨rfl,fun x hx=>h x (by simp[hx])⟩⟩
theorem XZ.at:∀{l:List E} {k i:Nat} {x:E} {u:Value},l[k]? =some x->(p.cells x)[i]? =some u->(l.flatMap p.cells)[k * R.size+i]? =some u
 |[],_,_,_,_,h,_=>by simp at h
 |y :: l,0,i,x,u,h,hu=>by
  simp at h;subst h;rw[List.flatMap_cons,Nat.zero_mul,Nat.zero_add,List.getElem?_append_left (Qz hu).1];exact hu
 |y :: l,k+1,i,x,u,h,hu=>by
  have:=XZ.at (l:=l) (k:=k) (by simpa using h) hu;rw[List.flatMap_cons,List.getElem?_append_right (by rw[p.len,Nat.succ_mul];omega),p.len,show(k+1) * R.size+i - R.size=k * R.size+i by rw[Nat.succ_mul];omega];exact this
theorem XZ.put:∀{l:List E} {k i:Nat} {x y:E} {u:Value},l[k]? =some x->i<R.size->(p.cells x).set i u=p.cells y->(l.flatMap p.cells).set (k * R.size+i) u=(l.set k y).flatMap p.cells
 |[],_,_,_,_,_,h,_,_=>by simp at h
 |z :: l,0,i,x,y,u,h,hi,hu=>by
  simp at h;subst h;rw[List.flatMap_cons,Nat.zero_mul,Nat.zero_add,List.set_append_left _ _ (by rw[p.len];exact hi),hu,List.set_cons_zero,List.flatMap_cons]
 |z :: l,k+1,i,x,y,u,h,hi,hu=>by
  have:=XZ.put (l:=l) (k:=k) (by simpa using h) hi hu;rw[List.flatMap_cons,List.set_append_right _ _ (by rw[p.len,Nat.succ_mul];omega),p.len,show(k+1) * R.size+i - R.size=k * R.size+i by rw[Nat.succ_mul];omega,this,List.set_cons_succ,List.flatMap_cons]
variable {base:Nat}{t:TypeId}{g n c k i:Nat}{x y:E}{u v:Value}
theorem XZ.size (p:XZ R)(l:List E):(l.flatMap p.cells).length=l.length * R.size:=by
 induction l with
 |nil=>simp
 |cons y l ih=>rw [List.flatMap_cons,List.length_append,p.len,ih,List.length_cons,Nat.succ_mul,Nat.add_comm]
theorem XZ.anyT (p:XZ R)(h:Qf R w base t T v l)(T':Nat->Prop):Qf R w base t T' v l:=by
 obtain⟨xs,ho,hc⟩:=h;exact⟨xs,ho,p.chunks.2 (p.chunks.1 hc)⟩
theorem XZ.cell (p:XZ R)(h:Qf R w base t T (.slice (some ⟨g,0,none⟩) n c) l)(hk:l[k]? =some x)(hu:(p.cells x)[i]? =some u):
  w.cell? ⟨g,k * R.size+i,none⟩=some u/\w.frozen? ⟨g,k * R.size+i,none⟩=false:=by
 have hn:=h.len;obtain⟨xs,ho,hc⟩:=h;obtain⟨rfl,_⟩:=p.chunks.1 hc;rw[<-hn]at ho;have hlt:=(Qz hk).1;have hi:i<R.size:=by rw[<-p.len x];exact(Qz hu).1
 refine⟨?_,ho.frozenAt _⟩;rw[ho.cellAt (k * R.size+i) ?_,p.at hk hu];rw[hn]
 calc k * R.size+i<k * R.size+R.size:=by omega
  _=(k+1) * R.size:=by rw[Nat.succ_mul]
  _<=l.length * R.size:=Nat.mul_le_mul_right _ hlt
theorem XZ.set (p:XZ R)(h:Qf R w base t T (.slice (some ⟨g,0,none⟩) n c) l)(hk:l[k]? =some x)(hi:i<R.size)(hu:(p.cells x).set i u=p.cells y)(hy:p.ok y):
  Qf R (w.setCell ⟨g,k * R.size+i,none⟩ u) base t T (.slice (some ⟨g,0,none⟩) n c) (l.set k y):=by
 have hn:=h.len;obtain⟨xs,ho,hc⟩:=h;obtain⟨rfl,hb⟩:=p.chunks.1 hc;refine⟨(l.set k y).flatMap p.cells, ?_,p.chunks.2 ⟨rfl,fun e he=>?_⟩⟩
 ·rw[<-hn]at ho;have:=(ho.stored (k * R.size+i) u).1;rw[List.length_set,<-p.put hk hi hu,<-hn];exact this
 ·rcases List.mem_or_eq_of_mem_set he with he|rfl
  ·exact hb e he
  ·exact hy
theorem XZ.sl (p:XZ R)(h:Qf R w base t T v l)(hS:∀k,base<=k->S k):Sl R w S v l:=by
 have hb:=h.block;exact Qf.slT (p.anyT h (fun _=>False)) (fun _ h=>h.elim) (fun k hk=>hS k (hb k hk).1)
end
structure Raw where
 off:Int
 kind:Int
 size:Int
 count:Int
 A:Option Addr
 n:Nat
 c:Nat
 B:Option Addr
 m:Nat
 e:Nat
def Raw.cells (x:Raw):List Value:=[.int .i64 x.off,.int .i64 x.kind,.int .i64 x.size,.int .i64 x.count,.slice x.A x.n x.c,.slice x.B x.m x.e]
def r9:Rep Raw where
 size:=6
 pos:=by omega
 rel _ _ cs x:=cs=x.cells
 keep _ h:=h
 mono _ h:=h
 len h:=by rw[h];rfl
 one h u hu:=by
  rw[h]at hu;simp[Raw.cells]at hu;rcases hu with rfl|rfl|rfl|rfl|rfl|rfl <;> rfl
def Hv:XZ r9 where
 cells:=Raw.cells
 ok _:=True
 iff _ _ _ _:=by simp[r9]
 len _:=rfl
def r6 (x y:Raw):Bool:=decide (x.off<y.off)
section
variable {α:Type}{lt:α->α->Bool}
end
section
variable {α:Type}{lt:α->α->Bool}
def Hj (O:List α)(x:α)(p:Nat):List α:=O.take p ++ (x :: O.drop p)
end
section
variable {α β:Type}{P:α->β->Prop}
def Vv (P:α->β->Prop):List α->List β->Prop
 |[],[]=>True
 |x :: l,y :: m=>P x y/\Vv P l m
 |_,_=>False
theorem Vv.len:∀{l:List α} {m:List β},Vv P l m->l.length=m.length
 |[],[],_=>rfl
 |x :: l,y :: m,h=>by rw[List.length_cons,List.length_cons,Vv.len h.2]
 |[],_ :: _,h=>h.elim
 |_ :: _,[],h=>h.elim
theorem Vv.mono {Q:α->β->Prop}(hPQ:∀x y,P x y->Q x y):∀{l:List α} {m:List β},Vv P l m->Vv Q l m
 |[],[],_=>trivial
 |x :: l,y :: m,h=>⟨hPQ x y h.1,Vv.mono hPQ h.2⟩
 |[],_ :: _,h=>h.elim
 |_ :: _,[],h=>h.elim
theorem Vv.snoc {x:α}{y:β}:∀{l:List α} {m:List β},Vv P l m->P x y->Vv P (l ++ [x]) (m ++ [y])
 |[],[],_,h=>⟨h,trivial⟩
 |a :: l,b :: m,h,k=>⟨h.1,Vv.snoc h.2 k⟩
 |[],_ :: _,h,_=>h.elim
 |_ :: _,[],h,_=>h.elim
end
def Kc (d:Nat)(w:World)(S:Nat->Prop)(x:Raw)(f:Fd):Prop:=(fdR (tyR d)).rel w S x.cells f
section
variable {d:Nat}{w w':World}{S T:Nat->Prop}{x:Raw}{f:Fd}
theorem aD {cs:List Value}(h:(fdR (tyR d)).rel w S cs f):∃x:Raw,cs=x.cells:=by
 cases d with
 |zero=>obtain⟨r,_,hr,_⟩:=h;exact hr.elim
 |succ d=>
  obtain⟨A,n,c,B,m,e,hv,_⟩:=VG.1 h;injection hv with hv
  refine⟨⟨f.1,f.2.kind,f.2.size,f.2.count,A,n,c,B,m,e⟩, ?_⟩;have:=congrArg Array.toList hv;simpa [Raw.cells] using this
theorem Kc.off (h:Kc d w S x f):x.off=f.1:=by
 obtain⟨r,hr,_⟩:=h;unfold Raw.cells at hr;injection hr with h1
 injection h1
theorem Kc.lt {x':Raw}{f':Fd}(h:Kc d w S x f)(h':Kc d w S x' f'):r6 x x'=ltF f f':=by
 unfold r6 ltF;rw[h.off,h'.off]
theorem Kc.ext (h:Kc d w S x f)(he:Ext w w'):Kc d w' S x f:=(fdR (tyR d)).ext he h
theorem Kc.mono (h:Kc d w S x f)(hT:∀b,S b->Z2 w b->T b):Kc d w T x f:=(fdR (tyR d)).mono hT h
end
theorem zp {P:Program}{E:Type}{T:Nat->Prop}{ops:Array Oper}{o:Oper}{a:Act}{K:Act->World->Prop}{Q:Exit->Act->World->Prop}{X:Prop}{W:World}{cs:List Value}{u:TypeId}(hgd:o.guard=none)(s x:Operand)(t:TypeId)
  (ho:o.op= .call {callee:= .builtin .append,args:= #[s,x],argTypes:= #[t,t]})
  (base:Nat) (e:TypeId) (i:TypeInfo) (z:Value) (size bytes:Nat) (ht:P.underlying t=some (.slice e)) (hi:P.info? e=some i) (hz:i.zero=some z)
  (hsize:i.size=size) (hby:i.bytes=bytes) (hzs:z.cells.size=size) (R:Rep E) (hR:R.size=size)
  (v:Value) (l:List E) (hs:a.eval s=v) (hown:Qf R W base e T v l)
  (y:E) (hx:a.eval x= .slice (some ⟨W.heap.size,0,none⟩) 1 1) (hy:R.rel W (fun b=>T b/\some b≠v.ownBlock) cs y)
  (h63:l.length+1<=9223372036854775807) (hbytes:(l.length+1) * bytes<=140737488355328) (hbase:base<=W.heap.size)
  (h:∀A' c' W',Qf R W' base e T (.slice A' (l.length+1) c') (l ++ [y])->(W.alloc (.cells cs.toArray u)).grownBy W' v.ownBlock->
   ((Value.slice A' (l.length+1) c').ownBlock=v.ownBlock\/∀b,(Value.slice A' (l.length+1) c').ownBlock=some b->W.heap.size+1<=b)->K (a.put o.dst (.slice A' (l.length+1) c')) W'):
  if Region.wanted o (yielded ops a.tmps)=true then Oper.wp P o a (W.alloc (.cells cs.toArray u)) K Q else X:=by
 have hw:Region.wanted o (yielded ops a.tmps)=true:=by simp[Region.wanted,hgd]
 rw[if_pos hw]
 obtain⟨A',c',W',hrun,h2,h3,h4⟩:=Y7 (P:=P) (W.alloc (.cells cs.toArray u)) t o.type e i z size bytes ht hi hz hsize hby hzs hR v l (hown.al _) ⟨W.heap.size,0,none⟩ 1 1 [y] cs rfl
  (QD.single (R.ext ((Ext.refl W).alloc _) hy)) (JF W cs u) h63 hbytes (by simp;omega)
 unfold Oper.wp execOp;simp only[ho,resolve,invoke,builtin,Sem.run_bind,Sem.run_pure,Result.andThen_ok,List.map_toArray,List.map_cons,List.map_nil,hs,hx,hrun];refine h A' c' W' h2 h3 ?_;rcases h4 with h4|h4
 ·exact .inl h4
 ·refine .inr fun b hb=>?_;have h5:some b=some (W.alloc (.cells cs.toArray u)).heap.size:=hb.symm.trans h4;injection h5 with h5
  simp at h5;omega
structure SlH where
 A:Option Addr
 n:Nat
 c:Nat
def SlH.val (h:SlH):Value:= .slice h.A h.n h.c
def Jz:Rep SlH where
 size:=1
 pos:=by omega
 rel _ _ cs h:=cs=[h.val]
 keep _ h:=h
 mono _ h:=h
 len h:=by rw[h];rfl
 one h u hu:=by rw[h]at hu;simp at hu;rw[hu];rfl
def gZ:XZ Jz where
 cells h:=[h.val]
 ok _:=True
 iff _ _ _ _:=by simp[Jz]
 len _:=rfl
def qC (ov lv:Value)(b:Nat):Prop:=some b≠ov.ownBlock/\some b≠lv.ownBlock
structure KB (d base:Nat)(T:Nat->Prop)(eO eF:TypeId)(w:World)(ov:Value)(hs:List SlH)(gs:List (List Fd))(h:SlH)(g:List Fd):Prop where
 o:Qf Jz w base eO All ov (hs ++ [h])
 closed:Vv (fun(x:SlH) l=>Sl (fdR (tyR d)) w (fun b=>qC ov h.val b/\(T b\/base<=b)) x.val l) hs gs
 last:Qf (fdR (tyR d)) w base eF T h.val g
 ne:∀b,h.val.ownBlock=some b->ov.ownBlock≠some b
 le:∀b,T b->b<base
 sz:base<=w.heap.size
namespace KB
variable {d base:Nat}{T:Nat->Prop}{eO eF:TypeId}{w w':World}{ov:Value}{hs:List SlH}{gs:List (List Fd)}{h:SlH}{g:List Fd}{f0:Fd}
theorem ext (s:KB d base T eO eF w ov hs gs h g)(he:Ext w w'):KB d base T eO eF w' ov hs gs h g:=
 ⟨s.o.ext he,s.closed.mono fun _ _ hs=>hs.ext he,s.last.ext he,s.ne,s.le,Nat.le_trans s.sz he.size⟩
theorem grow (s:KB d base T eO eF w ov hs gs h g){h':SlH}{g':List Fd}(hg:w.grownBy w' h.val.ownBlock)(ho:Qf (fdR (tyR d)) w' base eF T h'.val g')
  (hgb:h'.val.ownBlock=h.val.ownBlock\/∀b,h'.val.ownBlock=some b->w.heap.size<=b) {og n c:Nat} (hov:ov= .slice (some ⟨og,0,none⟩) n c):
  KB d base T eO eF (w'.setCell ⟨og,hs.length,none⟩ h'.val) ov hs gs h' g':=by
 have hogb:=s.o.block og (by rw[hov];rfl)
 have hne1:ov.ownBlock=none\/ov.ownBlock≠h.val.ownBlock:=by
  right
  intro e;exact s.ne og (by rw[<-e,hov];rfl) (by rw[hov];rfl)
 have hsz:w.heap.size<=w'.heap.size:=hg.size;have hblk:∀b,b<w.heap.size->some b≠h.val.ownBlock->w'.heap[b]? =w.heap[b]? :=fun b h1 h2=>hg.block b h1 h2
 have hne':∀b,h'.val.ownBlock=some b->ov.ownBlock≠some b:=by
  intro b hb1 hb2;rcases hgb with e|e
  ·exact s.ne b (by rw[<-e];exact hb1) hb2
  ·have h1:=e b hb1;have h2:=(s.o.block b hb2).2;omega
 have hout:Qf Jz w' base eO All ov (hs ++ [h]):=by
  obtain⟨xs,ho1,hc⟩:=s.o;exact⟨xs,ho1.kept hg hne1,gZ.chunks.2 (gZ.chunks.1 hc)⟩
 have hat:(hs ++ [h])[hs.length]? =some h:=by simp
 have hset:=gZ.set (y:=h') (by rw[hov]at hout;exact hout) hat (i:=0) (u:=h'.val) (by simp[Jz]) rfl trivial;refine⟨?_, ?_, ?_,hne',s.le,by have:=s.sz;simp;omega⟩
 ·rw[hov];have e:(hs ++ [h]).set hs.length h'=hs ++ [h']:=by simp
  rw[e]at hset;simpa [Jz] using hset
 ·refine s.closed.mono fun x l hx=>?_
  have h4:Sl (fdR (tyR d)) w (fun b=>qC ov h'.val b/\qC ov h.val b/\(T b\/base<=b)) x.val l:=hx.mono fun b hb hi=>⟨⟨hb.1.1,by
   intro e;rcases hgb with e1|e1
   ·exact hb.1.2 (by rw[<-e1];exact e)
   ·have:=e1 b e.symm;have:=hi.lt;omega⟩,hb⟩
  have h2:Sl (fdR (tyR d)) w' (fun b=>qC ov h'.val b/\(T b\/base<=b)) x.val l:=(h4.keep fun b hb hi=>hblk b hi.lt hb.2.1.2).mono fun b hb _=>⟨hb.1,hb.2.2⟩;refine h2.keep fun b hb _=>Below.heap_setCell _ _ _ _ ?_;show b≠og;intro e;exact hb.1.1 (by rw[hov,e];rfl)
 ·refine ho.set_far (fun e=>hne' og e (by rw[hov];rfl)) fun b hb=>?_;have hb':=s.le b hb;show b≠og;omega
theorem new (s:KB d base T eO eF w ov hs gs h g){W1 W2:World}{h':SlH}{g':List Fd}(he:Ext w W1)(ho:Qf (fdR (tyR d)) W1 base eF T h'.val g')(hfr:∀b,h'.val.ownBlock=some b->w.heap.size<=b)
  {ov':Value} (hg:W1.grownBy W2 ov.ownBlock) (hout:Qf Jz W2 base eO All ov' (hs ++ [h] ++ [h'])) (hov:ov'.ownBlock=ov.ownBlock\/∀b,ov'.ownBlock=some b->W1.heap.size<=b):
  KB d base T eO eF W2 ov' (hs ++ [h]) (gs ++ [g]) h' g':=by
 have hsz:=he.size;have hsz2:W1.heap.size<=W2.heap.size:=hg.size;have hblk:∀b,b<W1.heap.size->some b≠ov.ownBlock->W2.heap[b]? =W1.heap[b]? :=fun b h1 h2=>hg.block b h1 h2
 have hoff:∀b,b<w.heap.size->some b≠ov.ownBlock->qC ov' h'.val b:=by
  intro b h1 h2;constructor
  ·intro e;rcases hov with e1|e1
   ·exact h2 (by rw[<-e1];exact e)
   ·have:=e1 b e.symm;omega
  ·intro e;have:=hfr b e.symm;omega
 have hlast:Sl (fdR (tyR d)) w (fun b=>some b≠ov.ownBlock/\(T b\/base<=b)) h.val g:=s.last.slT (fun b hb=>⟨fun e=>by
  have hb':=s.le b hb;have:=(s.o.block b e.symm).1;omega,.inl hb⟩) (fun b hb=>⟨fun e=>s.ne b hb e.symm,.inr (s.last.block b hb).1⟩)
 have hmove:∀{v:Value} {l:List Fd},Sl (fdR (tyR d)) w (fun b=>some b≠ov.ownBlock/\(T b\/base<=b)) v l->Sl (fdR (tyR d)) W2 (fun b=>qC ov' h'.val b/\(T b\/base<=b)) v l:=by
  intro v l hv;have h1:Sl (fdR (tyR d)) w (fun b=>((some b≠ov.ownBlock/\(T b\/base<=b))/\b<w.heap.size)) v l:=hv.mono fun b hb hi=>⟨hb,hi.lt⟩;have h2:=(h1.ext he).keep (w':=W2) fun b hb _=>hblk b (by omega) hb.1.1;exact h2.mono fun b hb _=>⟨hoff b hb.2 hb.1.1,hb.1.2⟩
 refine⟨hout, ?_, ?_, ?_,s.le,by have:=s.sz;omega⟩
 ·exact(s.closed.mono fun x l hx=>hmove (hx.mono fun b hb _=>⟨hb.1.1,hb.2⟩)).snoc (hmove hlast)
 ·obtain⟨xs,ho1,hc⟩:=ho
  have hne:h'.val.ownBlock=none\/h'.val.ownBlock≠ov.ownBlock:=by
   right
   intro e
   cases hb:h'.val.ownBlock with
   | none=>
    rw[hb]at e;obtain⟨A,c,hA,_⟩:=s.o.form;rw[hA]at e
    cases A with
    |some a=>simp [Value.ownBlock]at e
    |none=>
     have hn:=(show Qf Jz w base eO All (.slice none (hs ++ [h]).length c) (hs ++ [h]) by rw[<-hA];exact s.o).at0 (by simp);obtain⟨q,hq,_⟩:=hn;cases hq
   |some b=>
    rw[hb]at e;have h1:=hfr b hb;have h2:=(s.o.block b e.symm).2;omega
  refine⟨xs,ho1.kept hg hne,hc.keep fun b hb hi=>hblk b hi.lt fun e=>?_⟩;have hb':=s.le b hb.1;have h1:=(s.o.block b e.symm).1;omega
 ·intro b hb e;rcases hov with e1|e1
  ·rw[e1]at e;have h1:=hfr b hb;have h2:=(s.o.block b e).2;omega
  ·have h1:=e1 b e;have h2:=(ho.block b hb).2;omega
theorem first {W1 W2:World}{h':SlH}{g':List Fd}(hl:∀b,T b->b<base)(hb:base<=W1.heap.size)(ho:Qf (fdR (tyR d)) W1 base eF T h'.val g')
  {ov':Value} (hg:W1.grownBy W2 none) (hout:Qf Jz W2 base eO All ov' [h']) (hov:∀b,ov'.ownBlock=some b->W1.heap.size<=b):
  KB d base T eO eF W2 ov' [] [] h' g':=by
 have hsz2:W1.heap.size<=W2.heap.size:=hg.size;refine⟨hout,trivial,ho.kept hg (by cases h'.val.ownBlock <;> simp) (fun b _ _ hi=>hg.block b hi.lt (by simp)), ?_,hl,by omega⟩;intro b hb1 e;have h1:=hov b e;have h2:=(ho.block b hb1).2;omega
theorem sl (s:KB d base T eO eF w ov hs gs h g):Sl (slR (fdR (tyR d))) w (fun b=>T b\/base<=b) ov (gs ++ [g]):=by
 obtain⟨xs,ho,hc⟩:=s.o;have hall:Vv (fun(x:SlH) l=>Sl (fdR (tyR d)) w (fun b=>T b\/base<=b) x.val l) (hs ++ [h]) (gs ++ [g]):=(s.closed.mono fun x l hx=>hx.mono fun b hb _=>hb.2).snoc (s.last.slT (fun b hb=> .inl hb) fun b hb=> .inr (s.last.block b hb).1)
 have hch:∀{hs:List SlH} {gs:List (List Fd)} {xs:List Value},QD Jz w (fun b=>All b/\some b≠ov.ownBlock) xs hs->Vv (fun(x:SlH) l=>Sl (fdR (tyR d)) w (fun b=>T b\/base<=b) x.val l) hs gs->QD (slR (fdR (tyR d))) w (fun b=>T b\/base<=b) xs gs:=by
  intro hs
  induction hs with
  |nil=>
   intro gs xs hc ha
   cases gs with
   |nil=>exact hc
   |cons _ _=>exact ha.elim
  | cons x hs ih=>
   intro gs xs hc ha
   cases gs with
   |nil=>exact ha.elim
   |cons l gs=>
    obtain⟨cs,rest,hx,hr,hc'⟩:=hc;exact⟨cs,rest,hx,⟨x.val,hr,ha.1⟩,ih hc' ha.2⟩
 have hc2:=hch hc hall;have hlen:=hall.len;obtain⟨A,c,hA,h1,h2⟩:=s.o.form;rcases ho.2 with⟨hv,hn⟩|⟨q,cap,cur,hv,hq⟩
 ·simp at hn
 ·subst hv;rw[show(hs ++ [h]).length=(gs ++ [g]).length from hlen];refine JG (.inr (s.o.block q rfl).1) hc2 (fun j u hu=>?_) ?_ ?_
  ·have:=ho.cells (g:=q) rfl j u hu;have e:(⟨q,0,none⟩:Addr).add j=⟨q,0+j,none⟩:=by unfold Addr.add;split <;> simp_all
   rwa [e]at this
  ·rw[<-hlen];exact hq.2.2.1
  ·exact hq.2.2.2.1
end KB
end Go.Deco
