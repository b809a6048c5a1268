/- Lemmas of mine, merged. -/
import Derived.Test.YtlmipgdnlfjpaaaGreatFloAm
import Derived.WalkSmall
set_option linter.unusedSimpArgs false
set_option linter.unusedVariables false
namespace Go.Proofs.YtlmipgdnlfjpaaaGreat
open Go.RowKit Go.Deco Go.Maps
section
variable {d:Nat}{w:World}{base g n c k:Nat}{T:Nat->Prop}{ts:List Ty}{x:Ty}
theorem JD (h:Qf (tyR d) w base 42 T (.slice (some ⟨g,0,none⟩) n c) ts)(hk:ts[k]? =some x):
  ∃d' A n1 c1 B m1 e1,d=d'+1/\TyV d' w (fun b=>T b/\b≠g) (.agg #[.int .i64 x.kind,.int .i64 x.size,.int .i64 x.count,.slice A n1 c1,.slice B m1 e1]) x/\
   w.cell? ⟨g,k * 5,none⟩=some (.int .i64 x.kind)/\w.cell? ⟨g,k * 5+1,none⟩=some (.int .i64 x.size)/\w.cell? ⟨g,k * 5+2,none⟩=some (.int .i64 x.count)/\w.cell? ⟨g,k * 5+3,none⟩=some (.slice A n1 c1)/\w.cell? ⟨g,k * 5+4,none⟩=some (.slice B m1 e1)/\
   (∀i,i<5->w.frozen? ⟨g,k * 5+i,none⟩=false):=by
 obtain⟨cs,hr,hcs⟩:=h.cells hk;rw[ZY d]at hcs
 obtain⟨d',hd⟩:∃d',d=d'+1:=by
  cases d with
  |zero=>exact hr.elim
  |succ d'=>exact⟨d',rfl⟩
 subst hd;obtain⟨_,hv0,hveq⟩:=Xb.1 hr;obtain⟨A3,n3,c3,B3,m3,e3,rfl,hv0'⟩:=hv0;injection hveq with hveq
 have hcs':cs=[.int .i64 x.kind,.int .i64 x.size,.int .i64 x.count,.slice A3 n3 c3,.slice B3 m3 e3]:=by
  have:=congrArg Array.toList hveq;simpa using this.symm
 subst hcs';refine⟨d',A3,n3,c3,B3,m3,e3,rfl,⟨A3,n3,c3,B3,m3,e3,rfl,hv0'⟩,(hcs 0 _ rfl).1,(hcs 1 _ rfl).1,(hcs 2 _ rfl).1,(hcs 3 _ rfl).1,(hcs 4 _ rfl).1,fun i hi=>?_⟩
 match i,hi with
 |0,_=>exact(hcs 0 _ rfl).2
 |1,_=>exact(hcs 1 _ rfl).2
 |2,_=>exact(hcs 2 _ rfl).2
 |3,_=>exact(hcs 3 _ rfl).2
 |4,_=>exact(hcs 4 _ rfl).2
theorem pp {d':Nat}{x':Ty}{A:Option Addr}{n1 c1:Nat}{B:Option Addr}{m1 e1:Nat}(h:Qf (tyR (d'+1)) w base 42 T (.slice (some ⟨g,0,none⟩) n c) ts)(hk:ts[k]? =some x)
  (hv:TyV d' w (fun b=>T b/\b≠g) (.agg #[.int .i64 x'.kind,.int .i64 x'.size,.int .i64 x'.count,.slice A n1 c1,.slice B m1 e1]) x'):
  Qf (tyR (d'+1)) (setRow w g (k * 5) [.int .i64 x'.kind,.int .i64 x'.size,.int .i64 x'.count,.slice A n1 c1,.slice B m1 e1]) base 42 T (.slice (some ⟨g,0,none⟩) n c) (ts.set k x'):=by
 have:=h.put hk (cs:=[.int .i64 x'.kind,.int .i64 x'.size,.int .i64 x'.count,.slice A n1 c1,.slice B m1 e1]) (e':=x') (Xb.2 ⟨_,hv,rfl⟩)
 rwa [ZY]at this
end
theorem Chg.row {M:Nat->Prop}{g:Nat}(hM:M g):∀(cs:List Value) (w:World) (off:Nat),Chg M w (setRow w g off cs)
 |[],w,_=>Chg.refl M w
 |c :: cs,w,off=>(Chg.of_set (p:=⟨g,off,none⟩) c w hM).trans (Chg.row hM cs _ _)
theorem ny {w:World}{base:Nat}{e:TypeId}{T:Nat->Prop}{g m cap:Nat}{L:List Nat}{x:Nat}(h:Qf QF w base e T (.slice (some ⟨g,0,none⟩) m cap) (L ++ [x])):Qf QF w base e T (.slice (some ⟨g,0,none⟩) L.length cap) L:=by
 have hm:m=L.length+1:=by have:=h.len;simpa using this
 subst hm;obtain⟨xs,h1,h2⟩:=h;obtain⟨rfl,h3⟩:=XV.1 h2;rw[List.map_append,List.length_append]at h1;refine⟨_,ownsRow_pop (last:=[x].map fun x:Nat=>Value.int .i64 x) (by simp[XG]) h1,XV.2 ⟨rfl,fun y hy=>h3 y (List.mem_append_left _ hy)⟩⟩
def qF (base fb N:Nat)(g:Nat->Value)(wv:Value)(b:Nat):Prop:=base<=b/\b≠fb/\(∀i q,i<N->(g i).ownBlock=some q->b≠q)/\wv.ownBlock≠some b
structure ZQ (d:Nat)(D:Zj)(W0 W:World)(vl:Value)(l:List Con)(n:Nat)(P0 P:List Nat)(fb scb N:Nat)(g:Nat->Value)(F:Nat->List Nat)(SC:List Ty)(wv:Value)(WK:List Nat):Prop where
 now:Q6 D W0 W vl l n P0 P (.slice (some ⟨fb,0,none⟩) N N) (.slice (some ⟨scb,0,none⟩) N N)
 rows:VZ W fb N g F
 scal:Qf (tyR d) W W0.heap.size 42 (qF W0.heap.size fb N g wv) (.slice (some ⟨scb,0,none⟩) N N) SC
 work:Qf QF W (fb+1) 3 No wv WK
 wapart:∀i q,i<N->(g i).ownBlock=some q->wv.ownBlock≠some q
 hN:N=n+l.length
 lt:scb<fb
section
variable {d:Nat}{D:Zj}{w0 W0 W W' w5 w7:World}{vl:Value}{l:List Con}{n:Nat}{P0 P P':List Nat}{fb scb N:Nat}{g:Nat->Value}{F F':Nat->List Nat}{SC:List Ty}{wv:Value}{WK:List Nat}
theorem ZQ.big (h:ZQ d D W0 W vl l n P0 P fb scb N g F SC wv WK):W0.heap.size<=scb/\scb<fb/\(∀i q,i<N->(g i).ownBlock=some q->fb<q)/\∀q,wv.ownBlock=some q->fb<q:=
 ⟨(h.scal.block scb rfl).1,h.lt,fun i q hi hq=>((h.rows.row i hi).block q hq).1,fun q hq=>(h.work.block q hq).1⟩
theorem ZQ.pb (S:Zw d D w0 W0 vl l n P0)(h:ZQ d D W0 W vl l n P0 P fb scb N g F SC wv WK)(hN:0<N):D.pb<W0.heap.size:=by
 have h1:=S.base.hpb.2 (by rw[<-h.hN];exact hN);have h2:=S.base.hlo;have h3:=S.base.hsz;omega
theorem ZQ.ext (h:ZQ d D W0 W vl l n P0 P fb scb N g F SC wv WK)(he:Ext W W'):ZQ d D W0 W' vl l n P0 P fb scb N g F SC wv WK:=⟨h.now.ext he,h.rows.ext he,h.scal.ext he,h.work.ext he,h.wapart,h.hN,h.lt⟩
theorem ZQ.same (h:ZQ d D W0 W vl l n P0 P fb scb N g F SC wv WK)(he:∀i,F' i=F i):ZQ d D W0 W vl l n P0 P fb scb N g F' SC wv WK:=⟨h.now,h.rows.same he,h.scal,h.work,h.wapart,h.hN,h.lt⟩
theorem ZQ.find (S:Zw d D w0 W0 vl l n P0)(h:ZQ d D W0 W vl l n P0 P fb scb N g F SC wv WK)(hN:0<N)(h':Q6 D W0 W' vl l n P0 P' (.slice (some ⟨fb,0,none⟩) N N) (.slice (some ⟨scb,0,none⟩) N N))(hc:Chg (fun b=>b=D.pb) W W'):ZQ d D W0 W' vl l n P0 P' fb scb N g F SC wv WK:=by
 have h1:=h.pb S hN;obtain⟨h2,h3,h4,h5⟩:=h.big;exact⟨h',h.rows.chg hc (fun e=>by omega) (fun i b hi hb e=>by have:=h4 i b hi hb;omega),hc.own h.scal (fun b hb e=>by have hb':some scb=some b:=hb;injection hb' with hb';omega) (fun b hb e=>by have h6:=hb.1;omega),Vd h.work hc (fun b hb e=>by have:=h5 b hb;omega),h.wapart,h.hN,h.lt⟩
theorem ZQ.app (S:Zw d D w0 W0 vl l n P0)(h:ZQ d D W0 W vl l n P0 P fb scb N g F SC wv WK){a y:Nat}(ha:a<N){v':Value}(hc:Chg (fun b=>(g a).ownBlock=some b) W w7)(ho:Qf QF w7 (fb+1) 3 No v' (F a ++ [y]))(hl:∀q,v'.ownBlock=some q->(g a).ownBlock=some q\/W.heap.size<=q):
  ZQ d D W0 (w7.setCell ⟨fb,a,none⟩ v') vl l n P0 P fb scb N (fun i=>if i=a then v' else g i) (fun i=>if i=a then F a ++ [y] else F i) SC wv WK:=by
 obtain⟨h2,h3,h4,h6⟩:=h.big;have hcs:Chg (fun b=>b=fb\/(g a).ownBlock=some b) W (w7.setCell ⟨fb,a,none⟩ v'):=(hc.mono fun b hb=> .inr hb).set _ (.inl rfl);refine⟨h.now.far S hcs (fun b hb=> .inl ?_),h.rows.step ha hc ho hl, ?_,Vd h.work hcs (fun b hb e=>?_),fun i q hi hq e=>?_,h.hN,h.lt⟩
 ·rcases hb with hb|hb
  ·omega
  ·have:=h4 a b ha hb;omega
 ·have h5:Qf (tyR d) W W0.heap.size 42 (fun b=>qF W0.heap.size fb N g wv b/\b<W.heap.size) (.slice (some ⟨scb,0,none⟩) N N) SC:=h.scal.monoT (fun b hb hi=>⟨hb,hi.lt⟩);refine(hcs.own h5 (fun b hb e=>?_) (fun b hb e=>?_)).monoT (fun b hb _=>⟨hb.1.1,hb.1.2.1,fun i q hi hq=>?_,hb.1.2.2.2⟩)
  ·have hb':some scb=some b:=hb;injection hb' with hb'
   rcases e with e|e
   ·omega
   ·have:=h4 a b ha e;omega
  ·rcases e with e|e
   ·exact hb.1.2.1 e
   ·exact hb.1.2.2.1 a b ha e rfl
  ·by_cases hia:i=a
   ·subst hia;simp only[if_true]at hq;rcases hl q hq with e|e
    ·exact hb.1.2.2.1 i q hi e
    ·have:=hb.2;omega
   ·simp only[if_neg hia]at hq;exact hb.1.2.2.1 i q hi hq
 ·rcases e with e|e
  ·have:=h6 b hb;omega
  ·exact h.wapart a b ha e hb
 ·by_cases hia:i=a
  ·subst hia;simp only[if_true]at hq;rcases hl q hq with e2|e2
   ·exact h.wapart i q hi e2 e
   ·have:=(h.work.block q e).2;omega
  ·simp only[if_neg hia]at hq;exact h.wapart i q hi hq e
theorem ZQ.put (S:Zw (d+1) D w0 W0 vl l n P0)(h:ZQ (d+1) D W0 W vl l n P0 P fb scb N g F SC wv WK)(he:Ext W w5){k:Nat}{x x':Ty}{A:Option Addr}{n1 c1:Nat}{B:Option Addr}{m1 e1:Nat}(hk:SC[k]? =some x)
  (hv:TyV d w5 (fun b=>W.heap.size<=b) (.agg #[.int .i64 x'.kind,.int .i64 x'.size,.int .i64 x'.count,.slice A n1 c1,.slice B m1 e1]) x'):
  ZQ (d+1) D W0 (setRow w5 scb (k * 5) [.int .i64 x'.kind,.int .i64 x'.size,.int .i64 x'.count,.slice A n1 c1,.slice B m1 e1]) vl l n P0 P fb scb N g F (SC.set k x') wv WK:=by
 obtain⟨h2,h3,h4,h6⟩:=h.big;have hcr:Chg (fun b=>b=scb) w5 (setRow w5 scb (k * 5) [.int .i64 x'.kind,.int .i64 x'.size,.int .i64 x'.count,.slice A n1 c1,.slice B m1 e1]):=Chg.row (M:=fun b=>b=scb) rfl _ _ _;have h5:=h.ext he;have hkN:=(Qz hk).1;have hlen:=h.scal.len;have hpb:=h.pb S (by omega);refine⟨h5.now.far S hcr (fun b hb=> .inl (by omega)),h5.rows.chg hcr (fun e=>by omega) (fun i b hi hb e=>by have:=h4 i b hi hb;omega),pp h5.scal hk (hv.mono (fun b hb _=>?_)),Vd h5.work hcr (fun b hb e=>by have:=h6 b hb;omega),h.wapart,h.hN,h.lt⟩;have hb':W.heap.size<=b:=hb;have hsz:=(h.scal.block scb rfl).2;have hfb:=h.rows.lt;refine⟨⟨by have:=h.now.chg.size;omega,by omega,fun i q hi hq=>?_,fun e=>?_⟩,by omega⟩
 ·have:=((h.rows.row i hi).block q hq).2;omega
 ·have:=(h.work.block b e).2;omega
theorem ZQ.wrk (S:Zw d D w0 W0 vl l n P0)(h:ZQ d D W0 W vl l n P0 P fb scb N g F SC wv WK){wv':Value}{WK':List Nat}(hc:Chg (fun b=>wv.ownBlock=some b) W W')(ho:Qf QF W' (fb+1) 3 No wv' WK')(hl:∀q,wv'.ownBlock=some q->wv.ownBlock=some q\/W.heap.size<=q):
  ZQ d D W0 W' vl l n P0 P fb scb N g F SC wv' WK':=by
 obtain⟨h2,h3,h4,h6⟩:=h.big;refine⟨h.now.far S hc (fun b hb=> .inl (by have:=h6 b hb;omega)),h.rows.chg hc (fun e=>by have:=h6 _ e;omega) (fun i b hi hb e=>h.wapart i b hi hb e), ?_,ho,fun i q hi hq e=>?_,h.hN,h.lt⟩
 ·have h5:Qf (tyR d) W W0.heap.size 42 (fun b=>qF W0.heap.size fb N g wv b/\b<W.heap.size) (.slice (some ⟨scb,0,none⟩) N N) SC:=h.scal.monoT (fun b hb hi=>⟨hb,hi.lt⟩);refine(hc.own h5 (fun b hb e=>?_) (fun b hb e=>hb.1.2.2.2 e)).monoT (fun b hb _=>⟨hb.1.1,hb.1.2.1,hb.1.2.2.1,fun e=>?_⟩)
  ·have hb':some scb=some b:=hb;injection hb' with hb'
   have:=h6 b e;omega
  ·rcases hl b e with e2|e2
   ·exact hb.1.2.2.2 e2
   ·have:=hb.2;omega
 ·rcases hl q e with e2|e2
  ·exact h.wapart i q hi hq e2
  ·have:=((h.rows.row i hi).block q hq).2;omega
end
theorem mq:(Tryz.prog.info? 42).map (fun i=>(i.zero,i.size,i.bytes))=some (some (.agg #[.int .i64 0,.int .i64 0,.int .i64 0,.slice none 0 0,.slice none 0 0]),5,72):=by kernel_rfl
theorem tp:(Tryz.prog.info? 26).map (fun i=>(i.zero,i.size,i.bytes))=some (some (.slice none 0 0),1,24):=by kernel_rfl
theorem uq (d:Nat)(W:World)(n base:Nat){T:Nat->Prop}(hn:n<=1000000)(hbase:base<=W.heap.size):
  ∃W',(Instr.makeSlice 25 (.int .i64 n) (.int .i64 n)).run Tryz.prog W= .ok (.slice (some ⟨W.heap.size,0,none⟩) n n) W'/\Qf (tyR (d+1)) W' base 42 T (.slice (some ⟨W.heap.size,0,none⟩) n n) (List.replicate n Ty.unk)/\Ext W W':=by
 obtain⟨i,hi,h1,h2,h3⟩:=info_parts mq;refine cV W 25 42 n base i _ Tryz.underlying25 hi h1 (by rw[h2,ZY]) (by omega) hn hbase (by rw[ZY];rfl) (fun w S=>?_);exact Xb.2 ⟨_,ZF,rfl⟩
section
variable {ops:Array Oper}{rest:List Oper}{o:Oper}{a:Act}{Q:Exit->Act->World->Prop}{W:World}
theorem tG (hgd:o.guard=none)(s x:Operand)(ho:o.op= .call {callee:= .builtin .append,args:= #[s,x],argTypes:= #[26,26]})
  (base:Nat) (v:Value) (l:List Nat) (hs:a.eval s=v) (hown:Qf QF W base 3 No v l) (q k:Nat) (hx:a.eval x= .slice (some ⟨q,0,none⟩) 1 1) (hk:W.cell? ⟨q,0,none⟩=some (.int .i64 k)) (hkb:k<1048576) (hl:l.length<=1000000000000) (hbase:base<=W.heap.size)
  (h:∀A' c' W',Qf QF W' base 3 No (.slice A' (l.length+1) c') (l ++ [k])->W.grownBy W' v.ownBlock->(∀g,(Value.slice A' (l.length+1) c').ownBlock=some g->v.ownBlock=some g\/W.heap.size<=g)->wpList Tryz.prog ops Q rest (a.put o.dst (.slice A' (l.length+1) c')) W'):
  wpList Tryz.prog ops Q (o :: rest) a W:=
 wpList_plain hgd fun _ hK=>by
  obtain⟨j0,hj,hj0,hj1,hj2⟩:=info_parts qy
  obtain⟨A',c',W',hrun,h2,h3,h4⟩:=Y7 (P:=Tryz.prog) W 26 o.type 3 j0 _ 1 8 Tryz.underlying26 hj hj0 hj1 hj2 rfl (R:=QF) rfl v l hown ⟨q,0,none⟩ 1 1 [k] [.int .i64 k] rfl
   (QD.single ⟨rfl,hkb⟩) (fun j u hu=>by
    cases j with
    |zero=>simp at hu;subst hu;exact hk
    |succ j=>simp at hu) (by omega) (by omega) hbase
  unfold Oper.wp execOp;simp only[ho,resolve,invoke,builtin,Sem.run_bind,Sem.run_pure,Result.andThen_ok,List.map_toArray,List.map_cons,List.map_nil,hs,hx,hrun];refine hK _ _ (h A' c' W' h2 h3 fun g hg=>?_);rcases h4 with h4|h4
  ·exact .inl (by rw[<-h4];exact hg)
  ·have h5:some g=some W.heap.size:=hg.symm.trans h4;injection h5 with h5
   exact .inr (by omega)
end
def r7:Rep Unit where
 size:=1
 pos:=by omega
 rel _ _ cs _:=cs=[.slice none 0 0]
 keep _ h:=h
 mono _ h:=h
 len h:=by rw[h];rfl
 one h u hu:=by rw[h]at hu;simp at hu;rw[hu];rfl
theorem aK (W:World)(n:Nat)(hn:n<=1000000):
  ∃W',(Instr.makeSlice 70 (.int .i64 n) (.int .i64 n)).run Tryz.prog W= .ok (.slice (some ⟨W.heap.size,0,none⟩) n n) W'/\VZ W' W.heap.size n (fun _=> .slice none 0 0) (fun _=>[])/\Ext W W':=by
 obtain⟨i,hi,h1,h2,h3⟩:=info_parts tp;obtain⟨W',hrun,ho,hx⟩:=cV (R:=r7) (e0:=()) (T:=No) W 70 26 n 0 i _ Tryz.underlying70 hi h1 (by rw[h2];rfl) (by omega) hn (Nat.zero_le _) rfl (fun w S=>rfl);refine⟨W',hrun,⟨fun j hj=>?_,fun j=>?_,(ho.block _ rfl).2,fun j hj=>Qf.nil,fun i j q _ _ _ h=>by simp[Value.ownBlock]at h⟩,hx⟩
 ·obtain⟨cs,hr,hat⟩:=ho.cells (k:=j) (e:=()) (by simp[hj]);have hcs:cs=[.slice none 0 0]:=hr;subst hcs;have:=(hat 0 _ rfl).1;simpa [r7] using this
 ·obtain⟨xs,h, -⟩:=ho;rw[List.length_replicate]at h;exact h.frozenAt j
section
variable {l:List Con}{n:Nat}{r:Nat->Nat}{k:Nat}{c:Con}
theorem zc (hc:l[k]? =some c){a b:Nat}(he:Xf l n r c=some (a,b))(i:Nat):ZV l n r (k+1) i=if i=a then ZV l n r k a ++ [b] else ZV l n r k i:=by
 rw[ZV,hc];simp only[he,YC];by_cases h:i=a
 ·subst h;simp
 ·rw[if_neg (fun e=>h e.symm),if_neg h]
theorem bX (hc:l[k]? =some c)(he:Xf l n r c=none)(i:Nat):ZV l n r (k+1) i=ZV l n r k i:=by
 rw[ZV,hc];simp only[he,YC]
theorem zQ (i:Nat):∀m,(ZV l n r m i).length<=m
 |0=>by simp[ZV]
 | m+1=>by
  have:=zQ i m;rw[ZV]
  split
  ·unfold YC
   split
   ·split
    ·simp;omega
    ·omega
   ·omega
  ·omega
theorem qK (hc:l[k]? =some c)(hk:c.kind≠1)(i:Nat):ZP l (k+1) i=ZP l k i:=by
 rw[ZP,hc];simp only;rw[if_neg (fun e=>hk e.1)]
theorem G0 (hc:l[k]? =some c)(hk:c.kind=1){a:Nat}(ha:c.a.toNat=a)(i:Nat):ZP l (k+1) i=if i=a then QX (ZP l k a) c.type else ZP l k i:=by
 rw[ZP,hc];simp only;by_cases h:i=a
 ·subst h;rw[if_pos ⟨hk,ha⟩,if_pos rfl]
 ·rw[if_neg (fun e=>h (by rw[<-e.2,ha])),if_neg h]
end
end Go.Proofs.YtlmipgdnlfjpaaaGreat
