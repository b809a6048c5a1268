/- Lemmas of mine, merged. -/
import Derived.Test.YtlmipgdnlfjpaaaGreatSoOm
import Derived.Test.YtlmipgdnlfjpaaaGreatSrtVm
import Derived.Test.YtlmipgdnlfjpaaaGreatTyfm
import Derived.WalkMore
set_option linter.unusedSimpArgs false
set_option linter.unusedVariables false
namespace Go.Proofs.YtlmipgdnlfjpaaaGreat
open Go.RowKit Go.Deco Go.Maps
section
variable {ops:Array Oper}{rest:List Oper}{o:Oper}{a:Act}{Q:Exit->Act->World->Prop}{W:World}
theorem tY (hgd:o.guard=none)(s x:Operand)(ho:o.op= .call {callee:= .builtin .append,args:= #[s,x],argTypes:= #[26,26]})
  (base:Nat) (v:Value) (l:List Int) (hs:a.eval s=v) (hown:Qf VM W base 3 No v l) (q:Nat) (k:Int) (hx:a.eval x= .slice (some ⟨q,0,none⟩) 1 1) (hk:W.cell? ⟨q,0,none⟩=some (.int .i64 k)) (hkb:Qy k) (hl:l.length<=1048576) (hbase:base<=W.heap.size)
  (h:∀A' c' W',Qf VM W' base 3 No (.slice A' (l.length+1) c') (l ++ [k])->W.grownBy W' v.ownBlock->(∀g,(Value.slice A' (l.length+1) c').ownBlock=some g->v.ownBlock=some g\/W.heap.size<=g)->wpList Tryz.prog ops Q rest (a.put o.dst (.slice A' (l.length+1) c')) W'):
  wpList Tryz.prog ops Q (o :: rest) a W:=
 wpList_plain hgd fun _ hK=>by
  obtain⟨j0,hj,hj0,hj1,hj2⟩:=info_parts qy
  obtain⟨A',c',W',hrun,h2,h3,h4⟩:=Y7 (P:=Tryz.prog) W 26 o.type 3 j0 _ 1 8 Tryz.underlying26 hj hj0 hj1 hj2 rfl (R:=VM) rfl v l hown ⟨q,0,none⟩ 1 1 [k] [.int .i64 k] rfl
   (QD.single ⟨rfl,hkb⟩) (fun j u hu=>by
    cases j with
    |zero=>simp at hu;subst hu;exact hk
    |succ j=>simp at hu) (by omega) (by omega) hbase
  unfold Oper.wp execOp;simp only[ho,resolve,invoke,builtin,Sem.run_bind,Sem.run_pure,Result.andThen_ok,List.map_toArray,List.map_cons,List.map_nil,hs,hx,hrun];refine hK _ _ (h A' c' W' h2 h3 fun g hg=>?_);rcases h4 with h4|h4
  ·exact .inl (by rw[<-h4];exact hg)
  ·have h5:some g=some W.heap.size:=hg.symm.trans h4;injection h5 with h5
   exact .inr (by omega)
end
theorem yz {M:Nat->Prop}{w w':World}{base:Nat}{v:Value}{l:List Int}(h:Qf VM w base 3 No v l)(hc:Chg M w w')(hv:∀b,v.ownBlock=some b->¬M b):Qf VM w' base 3 No v l:=hc.own h hv (fun _ h=>h.elim)
def uG (d:Nat)(D:Zj)(W0 W:World)(vl:Value)(l:List Con)(n:Nat)(P0:List Nat)(v6:Value)(scb N:Nat)(SC:List Ty)(T:Nat->Prop)(ft:Int->Option Value)(q:Nat)(e:Ending)(w':World):Prop:=
 ∃(v:Value) (t:Ty) (d' k:Nat) (P':List Nat) (T':Nat->Prop) (ft' fc' fr':Int->Option Value),e= .returned (.tuple #[v,.int .i64 k])/\TyV d' w' T' v t/\YX l (q:Int) t k/\
  Q4 d D W0 W vl l n P0 v6 scb N SC T ft (fun y=>mu l n (y:Int)<mu l n (q:Int)) w' P' T' ft' fc' fr'
structure OfR (D:Zj)(q nb:Nat)(W1 wr:World)(o:Value)(O:List Int)(left:Int->Bool)(cnt:Nat):Prop where
 ext:Ext W1 wr
 rng:Z6 (QG Tryz.underlying3) wr (D.ib q) nb D.no (D.fi q) left cnt
 len:O.length+cnt<=D.no
 own:Qf VM wr (nb+1) 3 No o O
 nd:O.Nodup
 mem:∀x,x∈O↔Qy x/\(D.fi q x).isSome=true/\left x=false
theorem Qf.fd_up {d d':Nat}(hd:d<=d'){w:World}{base:Nat}{e:TypeId}{T:Nat->Prop}{v:Value}{l:List (Int×Ty)}(h:Qf (fdR (tyR d)) w base e T v l):Qf (fdR (tyR d')) w base e T v l:=by
 obtain⟨xs,h1,h2⟩:=h;refine⟨xs, ?_, ?_⟩
 ·rw[ZJ]at h1 ⊢;exact h1
 ·clear h1
  induction l generalizing xs with
  |nil=>exact h2
  |cons x l ih=>
   obtain⟨cs,rest,rfl,h3,h4⟩:=h2;exact⟨cs,rest,rfl,gq hd _ _ _ _ h3,ih rest h4⟩
theorem Q4.grow {d:Nat}{D:Zj}{W0 W w1:World}{vl:Value}{l:List Con}{n:Nat}{P0 P1:List Nat}{v6:Value}{scb N:Nat}{SC:List Ty}{T T1 T2:Nat->Prop}{ft ft1 fc1 fr1:Int->Option Value}{B:Nat->Prop}
  (h:Q4 d D W0 W vl l n P0 v6 scb N SC T ft B w1 P1 T1 ft1 fc1 fr1) (hT:∀b,T1 b->T2 b) (hp:∀b,T2 b->T1 b\/(W0.heap.size<=b/\W.heap.size<=b/\b<w1.heap.size)):Q4 d D W0 W vl l n P0 v6 scb N SC T ft B w1 P1 T2 ft1 fc1 fr1:=by
 have k:=h.pts;refine⟨⟨k.now,k.scal.monoT (fun b hb _=>hT b hb),k.typ,k.cnt,k.rch,fun q v hq=>?_,k.typn,fun q v hq=>?_,fun b hb=>?_,hT _ k.tscb,k.mx⟩,h.chg,fun b hb=>?_,h.new,fun b hb=>hT b (h.sub b hb)⟩
 ·obtain⟨a,d',m,t,h1,h2,h3,h4,h5⟩:=k.typs q v hq;exact⟨a,d',m,t,h1,h2,h3,h4.mono (fun b hb _=>hT b hb),h5⟩
 ·obtain⟨a,b,m,L,h1,h2,h3,h4,h5,h6⟩:=k.rchs q v hq;exact⟨a,b,m,L,h1,h2,h3,h4,hT b h5,h6⟩
 ·rcases hp b hb with e|e
  ·exact k.place b e
  ·exact⟨e.1,e.2.2⟩
 ·rcases hp b hb with e|e
  ·exact h.plc b e
  ·exact .inr e.2.1
structure StR (d:Nat)(D:Zj)(W0 W:World)(vl:Value)(l:List Con)(n:Nat)(P0:List Nat)(v6:Value)(scb N:Nat)(SC:List Ty)(T:Nat->Prop)(ft:Int->Option Value)(q nb tb:Nat)(ov:Value)(OS:List Int)(j tot:Nat)(fv:Value)(wr:World)(F:List (Int×Ty))(dd:Nat)(P':List Nat)(T':Nat->Prop)(ft' fc' fr':Int->Option Value):Prop where
 st:Q4 d D W0 W vl l n P0 v6 scb N SC T ft (fun y=>mu l n (y:Int)<mu l n (q:Int)) wr P' T' ft' fc' fr'
 offs:Qf VM wr nb 3 No ov OS
 oblk:∀b,ov.ownBlock=some b->b<tb
 fld:Qf (fdR (tyR dd)) wr (tb+1) 59 T' fv F
 fds:Jb l (q:Int) (OS.take j) F
 rb:Qm wr W.heap.size (.int .i64 0) (.int .i64 0) (.int .i64 0) (.slice none 0 0) (.slice none 0 0)
 box:Qm wr tb (.int .i64 5) (.int .i64 0) (.int .i64 0) (.slice none 0 0) fv
 far:∀b,T' b->¬(W.heap.size<=b/\b<=tb)
 ffar:∀b,fv.ownBlock=some b->¬T' b
 tot1:2+cntF F=tot
 tot2:tot<=256
section
variable {d:Nat}{D:Zj}{w0 W0 W:World}{l:List Con}{n:Nat}{P0 P:List Nat}{v6:Value}{scb:Nat}{SC:List Ty}{T:Nat->Prop}{ft fc fr:Int->Option Value}
set_option maxRecDepth 100000 in
set_option maxHeartbeats 16000000 in
theorem lF {A:Option Addr} {m me:Nat} (S:Zw d D w0 W0 (.slice A m me) l n P0) {TF:Nat->Ty} (hF:xd l n P0 SC TF) (h:PtS d D W0 W (.slice A m me) l n P0 P v6 scb (n+l.length) SC T ft fc fr) {q:Nat} (hq:q<n) (hqq:Qb P0 q=q) (hp:Q9 l (q:Int))
  (hP:YB d D W0 (.slice A m me) l n P0 v6 scb (n+l.length) SC (mu l n (q:Int))):
  Calls Tryz.prog 54 #[.pointer (some ⟨D.b0+5,0,none⟩),.int .i64 q] W (uG d D W0 W (.slice A m me) l n P0 v6 scb (n+l.length) SC T ft q):=by
 have hr:=h.now.roots;have hhn:=S.hn;have hhm:=S.hm;have hbd:=S.bounds (by omega);have hiq:Qy (q:Int):=by unfold Qy;omega
 obtain⟨vo,hvo⟩:=Option.isSome_iff_exists.1 ((S.isptr hr hq hqq).2 hp);obtain⟨W1,hW1⟩:=Qg (W.alloc (.cells #[.int .i64 0,.int .i64 0,.int .i64 0,.slice none 0 0,.slice none 0 0] 42));have hRB:Qm W1 W.heap.size (.int .i64 0) (.int .i64 0) (.int .i64 0) (.slice none 0 0) (.slice none 0 0):=by rw[<-hW1];exact Qm.new W _ _ _ _ _ _
 have hE1:Ext W W1:=by rw[<-hW1];exact(Ext.refl W).alloc _
 have h1:=h.ext hE1;obtain⟨z,hz⟩:=Qg (Yk l (Qb P0) l.length q)
 have hdl:(Instr.lookup 69 (.map (some (D.b0+3))) (.int .i64 q) false).run Tryz.prog W1= .ok (.bool z) W1:=by
  have:=jD (h1.now.dir S) hiq;unfold VB at this;rw[Int.toNat_natCast,hz]at this
  cases z with
  |true=>simpa using this
  |false=>simpa using this
 have HDL:=hid hdl;have c5:=h1.now.box.1 5 _ rfl;have c4:=h1.now.box.1 4 _ rfl;obtain⟨hvo1,hvo2,hvo3⟩:=(h1.now.offs S).yes _ _ hvo;subst hvo1;have HLK:=hid (YZ (h1.now.offs S).map hiq);rw[hvo,Option.getD_some]at HLK;obtain⟨mb,hmb⟩:=Qg (D.ib q);have hmp:=hvo3.map;rw[hmb]at HLK hmp hvo2;have HMB:=hid hmb;have HM:=hid hmp;have hnd:=S.base.hn;have HIB:Hid (D.lo<=mb/\mb<W1.heap.size):=hid ⟨hvo2,hmp.lt⟩;have HNO:Hid (D.no<=131072):=hid (by omega);have HH:=hid h1;have HS:=hid S;have HR:=hid hr;have HQ:Hid (q<n/\Qb P0 q=q/\Q9 l (q:Int)):=hid ⟨hq,hqq,hp⟩;have HFL:=hid hF;have HPO:=hid hP;have HBD:=hid hbd;have HVO:=hid hvo;have HIQ:=hid hiq;have HRB:=hid hRB;have HE1:=hid hE1;have HW:Hid (W0.heap.size<=W.heap.size/\∀b,T b->b<W.heap.size):=hid ⟨h.now.chg.size,fun b hb=>(h.place b hb).2⟩;have HS1:Hid (W1.heap.size=W.heap.size+1):=hid (by rw[<-hW1];simp);obtain⟨sb,hsb⟩:=Qg (D.b0+5);rw[hsb]at c4 c5 ⊢;have HSB:=hid hsb;obtain⟨N,hN⟩:=Qg (n+l.length);have HNN:=hid hN;rw[hN]at HH HPO ⊢;clear h h1 S hr hq hqq hp hF hP hbd hvo hvo2 hvo3 hmp hiq hdl hE1 hRB hsb hN hmb hnd
 cases z with
 | true=>
  have HZ:=hid hz;clear hz;go_enter Tryz.func54,Tryz.ntmps54;go_upto_region 1 with fail
  clear hW1;refine wp_scope_straight ?_
  go_upto_region 2 with(first
   |((with_reducible refine Vy 69 (.tmp 19) (.tmp 20) rfl rfl ?_);refine Vf rfl (.tmp 19) (.tmp 20) 69 rfl HDL.o ?_)
   |fail)
  obtain⟨r0,r1,r2,r3,r4,rf⟩:=HRB.o;have u0:=rf 0;have u1:=rf 1;have u2:=rf 2;have u3:=rf 3;have u4:=rf 4;obtain⟨W9,hW9,hB9,hH9,hS9,hX9⟩:=QK (HRB.o) (.int .i64 0) (.int .i64 0) (.int .i64 0) (.slice none 0 0) (.slice none 0 0);obtain⟨t0,t1,t2,t3,t4, -⟩:=hB9;have hC9:=XJ W1 W.heap.size (.int .i64 0) (.int .i64 0) (.int .i64 0) (.slice none 0 0) (.slice none 0 0);rw[hW9]at hC9;have HC9:=hid hC9;have HW9:=hid hW9;clear hW9 hH9 hS9 hX9 rf hC9
  go_wp2
  try rw[HW9.o]
  clear r0 r1 r2 r3 r4;refine bodyPost_ret (v:= .tuple #[.agg #[(.int .i64 0),(.int .i64 0),(.int .i64 0),(.slice none 0 0),(.slice none 0 0)],.int .i64 0]) (by simp[results,Tryz.results54,go_sem,t0,t1,t2,t3,t4]) rfl ?_;obtain⟨c,hc,k1,k2,k3⟩:=bZ.1 HZ.o;exact⟨_,Ty.unk,0,0,P,T,ft,fc,fr,rfl,ZF,sM ⟨c,hc,(HS.o.ve HR.o hc HQ.o.1 HQ.o.2.1).1 k3,k1,k2⟩,Q4.far HS.o (Q4.start HH.o (Chg.of_ext _ HE1.o)) HC9.o (fun b hb=>⟨by have:=HW.o.1;omega,by omega,fun k=>by have:=HW.o.2 b k;omega⟩)⟩
 | false =>
  have HND:Hid (¬kK l (q:Int)):=hid (by
   rintro⟨c,hc,hv,k1,k2⟩;have:=bZ.2 ⟨c,hc,k1,k2,(HS.o.ve HR.o hc HQ.o.1 HQ.o.2.1).2 hv⟩;rw[hz]at this;cases this)
  clear hz;go_enter Tryz.func54,Tryz.ntmps54;go_upto_region 1 with fail
  clear hW1;refine wp_scope_straight ?_
  go_wp2_with (first
   |((with_reducible refine Vy 69 (.tmp 19) (.tmp 20) rfl rfl ?_);refine Vf rfl (.tmp 19) (.tmp 20) 69 rfl HDL.o ?_)
   |((with_reducible refine Vy 68 (.tmp 26) (.tmp 27) rfl rfl ?_);refine Vf rfl (.tmp 26) (.tmp 27) 68 rfl HLK.o ?_)
   |(at_range;refine gY _ rfl (.tmp 28) 93 rfl 26 Tryz.underlying93 (QG Tryz.underlying3) mb D.no _ rfl HM.o ?_;intro w1 cnt0 hcnt0 hrg0 hg0 hs0;have HR0:=hid hrg0;have HG0:=hid hg0;have HS0:=hid hs0;clear hrg0 hg0 hs0)
   |fail)
  go_frame
  clear c4 c5;have hX0:Ext W1 w1:=Ext.grown (Ext.refl W1) HG0.o (fun j hj=>by cases hj);have HX0:=hid hX0;clear hX0
  go_loopw [6] (fun o wr=>∃(O:List Int) (left:Int->Bool) (cnt:Nat) (B:Option Addr) (cb qb:Nat),o= .slice B qb cb/\Hid (O.length=qb)/\Hid (OfR D q W1.heap.size W1 wr (.slice B qb cb) O left cnt)) (fun _ wr=>wr.rangeLeft mb W1.heap.size)
  case atStart=>exact⟨[],_,cnt0,none,0,0,rfl,hid rfl,hid ⟨HX0.o,by rw[HMB.o];exact HR0.o,by simpa using hcnt0,Qf.nil,List.nodup_nil,fun x=>⟨fun h=>by(cases h),fun h=>by
   have h2:(D.fi q x).isSome=false:=h.2.2;rw[h.2.1]at h2;cases h2⟩⟩⟩
  case round=>
   obtain⟨O,left,cnt,B,cb,qb,rfl,HQB,HX⟩:=hrel;clear HR0 HG0 HX0 HS0 hcnt0;have hrg1:=HX.o.rng;rw[HMB.o]at hrg1
   go_wp2_with (first
    |(at_next;refine gM _ rfl (.tmp 29) rfl mb W1.heap.size D.no _ left cnt rfl hrg1 ?_ ?_)
    |fail)
   ·intro hc0 hl0
    have HOM:Hid (∀x,x∈O↔∃c∈l,QY c=true/\VE l c.a (q:Int)/\c.off=x):=hid (fun x=>by
     rw[HX.o.mem];have hyes:=(HS.o.base.offs.yes _ _ HVO.o).2.2;constructor
     ·rintro⟨k1,k2, -⟩;obtain⟨k,hk⟩:=List.exists_mem_of_ne_nil _ (HS.o.base.full (q:Int) x (Option.isSome_iff_ne_none.1 k2));obtain⟨c,hc,h2,h3,h4⟩:=(HS.o.acc HR.o HQ.o.1 HQ.o.2.1).1 hk;exact⟨c,Qx hc,h2,h3,h4⟩
     ·rintro⟨c,hc,h2,h3,rfl⟩;obtain⟨k,hk⟩:=List.getElem?_of_mem hc;have hm:=(HS.o.acc HR.o HQ.o.1 HQ.o.2.1 (o:=c.off) (k:=k)).2 ⟨c,hk,h2,h3,rfl⟩;have hb:=(Y9 HS.o.sl c hc).2.2.2.1;exact⟨hb,Option.isSome_iff_ne_none.2 (hyes.there (fun e=>by rw[e]at hm;cases hm)),hl0 _ hb⟩)
    have hol:O.length<=131072:=by have:=HX.o.len;have:=HNO.o;omega
    have hown:=HX.o.own;have hqb:=HQB.o;subst hqb;have HSO:=hid (eg hown (by omega));clear hl0 hrg1 hown
    go_wp2_with fail
    refine HSO.o.mono ?_;rintro e w2 ⟨rfl,ho2,hg2⟩;have hwz:W1.heap.size+1<=wr.heap.size:=HX.o.rng.iter.1;have hob:∀b,(Value.slice B O.length cb).ownBlock=some b->W1.heap.size+1<=b:=fun b hb=>(HX.o.own.block b hb).1;have hX2:Ext W1 w2:=Chg.old HX.o.ext (Chg.of_grown' (M:=fun b=>(Value.slice B O.length cb).ownBlock=some b) hg2 (fun b hb=>hb)) (fun b hb=>by have:=hob b hb;omega);have hw2:wr.heap.size<=w2.heap.size:=hg2.size;obtain⟨OS,hOS⟩:=Qg (KF O);rw[hOS]at ho2;have HOS:Hid (OS.Pairwise (· <·)/\OS.length=O.length/\∀x,x∈OS↔∃c∈l,QY c=true/\VE l c.a (q:Int)/\c.off=x):=hid (by rw[<-hOS];exact⟨lG HX.o.nd,vJ O,fun x=>fQ.trans (HOM.o x)⟩);have HOWN:=hid ho2;have HX2:=hid hX2;obtain⟨W3,hW3⟩:=Qg (w2.alloc (.cells #[.int .i64 0,.int .i64 0,.int .i64 0,.slice none 0 0,.slice none 0 0] 42));have hB3:Qm W3 w2.heap.size (.int .i64 0) (.int .i64 0) (.int .i64 0) (.slice none 0 0) (.slice none 0 0):=by rw[<-hW3];exact Qm.new w2 _ _ _ _ _ _
    have hE3:Ext w2 W3:=by rw[<-hW3];exact(Ext.refl _).alloc _
    obtain⟨W4,hW4,hB4,hH4,hS4,hX4⟩:=QK hB3 (.int .i64 5) (.int .i64 0) (.int .i64 0) (.slice none 0 0) (.slice none 0 0);have HE4:=hid (hX4 w2 hE3 (Nat.le_refl _));have HW4:=hid hW4;have HB4:=hid hB4;obtain⟨z0,z1,z2,z3,z4,zf⟩:=hB3;have f0:=zf 0;have f1:=zf 1;have f2:=zf 2;have f3:=zf 3;have f4:=zf 4;clear ho2 hg2 hX2 hOS hH4 hS4 hX4 hW4 hB4 hE3 zf hob HSO;go_upto_region 12 with fail
    rw[HW4.o];clear z0 z1 z2 z3 z4 f0 f1 f2 f3 f4 hW3;refine wp_label ?_;obtain⟨nO,hnO⟩:=Qg (O.length);have HNOO:=hid hnO;rw[hnO]at HOS HOWN hol ⊢;have hszs:W1.heap.size=W.heap.size+1/\W1.heap.size+1<=w2.heap.size:=⟨HS1.o,by omega⟩;have HSZS:=hid hszs;have HST:Hid (StR d D W0 W (.slice A m me) l n P0 v6 scb N SC T ft q (W1.heap.size+1) w2.heap.size (.slice B nO cb) OS 0 2 (.slice none 0 0) W4 [] 0 P T ft fc fr):=hid ⟨(Q4.start HH.o (Chg.of_ext _ HE1.o)).ext (HX2.o.trans HE4.o),HOWN.o.ext HE4.o,fun b hb=>(HOWN.o.block b hb).2,Qf.nil,by simpa using Jb.nil,HRB.o.ext (HX2.o.trans HE4.o),HB4.o,fun b hb=>by have:=HW.o.2 b hb;omega,fun b hb=>by simp[Value.ownBlock]at hb,by simp[cntF],by omega⟩;clear hszs hnO
    go_wp2_with fail
    go_loopw [8,9,43] (fun s8 s9 i wr=>∃(j tot:Nat) (F:List (Int×Ty)) (dd:Nat) (P':List Nat) (T':Nat->Prop) (ft' fc' fr':Int->Option Value) (B5:Option Addr) (n5 c5:Nat),j<=nO/\i= .int .i64 j/\s8= .int .i64 tot/\s9= .bool false/\Hid (F.length=n5)/\Hid (StR d D W0 W (.slice A m me) l n P0 v6 scb N SC T ft q (W1.heap.size+1) w2.heap.size (.slice B nO cb) OS j tot (.slice B5 n5 c5) wr F dd P' T' ft' fc' fr')) (fun _ _ i _=>nO - (intOf i).toNat)
    case atStart=>exact⟨0,2,[],0,P,T,ft,fc,fr,none,0,0,by omega,rfl,rfl,rfl,hid rfl,HST⟩
    case round=>
     obtain⟨j,tot,F,dd,P5,T5,ft5,fc5,fr5,B5,n5,c5,hj,rfl,rfl,rfl,HN5,HR5⟩:=hrel;clear HST HB4 HE4 HW4 HOWN HX2;by_cases h1:j<nO
     ·obtain⟨x,hx⟩:∃x,OS[j]? =some x:=⟨_,Qq (by have:=HOS.o.2.1;have:=HNOO.o;omega)⟩;have HXX:=hid hx;have hxm:=(HOS.o.2.2 x).1 (Qx hx);have HXM:=hid hxm
      have hxb:Qy x:=by
       obtain⟨c,hc, -, -,rfl⟩:=hxm;exact(Y9 HS.o.sl c hc).2.2.2.1
      obtain⟨gO,rfl, -, -⟩:=HR5.o.offs.at0 (by omega)
      have hcell:wr.cell? ⟨gO,j,none⟩=some (.int .i64 x):=by
       obtain⟨cs,hrel,hat⟩:=HR5.o.offs.cells hx;obtain⟨rfl, -⟩:cs=[.int .i64 x]/\_:=hrel;have:=(hat 0 _ rfl).1;simpa [VM] using this
      have hnow:=HR5.o.st.pts.now;have HNOW:=hid hnow;have hyes:=(hnow.offs HS.o).yes _ _ HVO.o;have HLK5:=hid (YZ (hnow.offs HS.o).map HIQ.o);rw[HVO.o,Option.getD_some,HMB.o]at HLK5;have hlr:=yj hyes.2.2.map hxb;rw[HMB.o]at hlr;have c4:=hnow.box.1 4 _ rfl;rw[HSB.o]at c4
      have hne:Zx l (Qb P0) l.length q x≠[]:=by
       obtain⟨c,hc,k1,k2,k3⟩:=hxm;obtain⟨k,hk⟩:=List.getElem?_of_mem hc;have hm:=(HS.o.acc HR.o HQ.o.1 HQ.o.2.1 (o:=x) (k:=k)).2 ⟨c,hk,k1,k2,k3⟩;intro e;rw[e]at hm;cases hm
      have HFD:=hid (show Calls Tryz.prog 80 #[.pointer (some ⟨sb,0,none⟩),.int .i64 q,.int .i64 x,QM (D.fi q) x] wr (uJ d D W0 wr (.slice A m me) l n P0 v6 scb N SC T5 ft5 q x) from by
       have h9:=oC HS.o HFL.o (by rw[HNN.o];exact HR5.o.st.pts) HQ.o.1 HQ.o.2.1 HQ.o.2.2 (by rw[HNN.o];exact HPO.o) hxb hne;rw[HSB.o,HNN.o]at h9;exact h9)
      obtain⟨vr,hvr⟩:=Qg (QM (D.fi q) x);rw[hvr]at HFD hlr;have HLR:=hid hlr;have i1:(j:Int)<(nO:Int):=by omega
      clear hvr hlr hne hyes hnow hxm hx
      go_wp2_with (first
       |((with_reducible refine Vy 68 (.tmp 54) (.tmp 55) rfl rfl ?_);refine Vf rfl (.tmp 54) (.tmp 55) 68 rfl HLK5.o ?_)
       |((with_reducible refine Vy 93 (.tmp 56) (.tmp 57) rfl rfl ?_);refine Vf rfl (.tmp 56) (.tmp 57) 93 rfl HLR.o ?_)
       |fail)
      refine HFD.o.mono ?_;rintro e w5 ⟨v7,t,d7,k7,ok,P7,T7,ft7,fc7,fr7,rfl,hv7,hfi,hk7,hto⟩;have HFI:=hid hfi;have HV7:=hid hv7;have HTO:=hid hto;have hn4:∀y,W0.heap.size<=y->¬Kx D y:=fun y hy e=>by have:=HBD.o;unfold Kx at e;omega
      have hW0:=HW.o.1;have hszs:=HSZS.o;have hrbw:W.heap.size<wr.heap.size:=HR5.o.rb.lt;have htbw:w2.heap.size<wr.heap.size:=HR5.o.box.lt;have hrb5:=HR5.o.rb.chg hto.chg (hn4 _ hW0);have hbx5:=HR5.o.box.chg hto.chg (hn4 _ (by omega));have hof5:=yz HR5.o.offs hto.chg (fun b hb=>hn4 b (by have:=(HR5.o.offs.block b hb).1;omega));have hfl5:Qf (fdR (tyR dd)) w5 (w2.heap.size+1) 59 T7 (.slice B5 n5 c5) F:=(hto.chg.own HR5.o.fld (fun b hb=>hn4 b (by have:=(HR5.o.fld.block b hb).1;omega)) (fun b hb=>hn4 b (HR5.o.st.pts.place b hb).1)).monoT (fun b hb _=>hto.sub b hb)
      have hfar7:∀b,T7 b->¬(W.heap.size<=b/\b<=w2.heap.size):=fun b hb e=>by
       rcases hto.plc b hb with k|k
       ·exact HR5.o.far b k e
       ·omega
      have hffar7:∀b,(Value.slice B5 n5 c5).ownBlock=some b->¬T7 b:=fun b hb e=>by
       have h2:=(HR5.o.fld.block b hb).2;rcases hto.plc b e with k|k
       ·exact HR5.o.ffar b hb k
       ·omega
      have HFAR7:=hid hfar7;have HFF7:=hid hffar7;obtain⟨A7,n7,c7,B7,m7,e7,rfl, -⟩:=hv7;obtain⟨W7,hW7⟩:=Qg (w5.alloc (.cells #[.int .i64 0,.int .i64 0,.int .i64 0,.slice none 0 0,.slice none 0 0] 42));have hB7:Qm W7 w5.heap.size (.int .i64 0) (.int .i64 0) (.int .i64 0) (.slice none 0 0) (.slice none 0 0):=by rw[<-hW7];exact Qm.new w5 _ _ _ _ _ _
      have hE7:Ext w5 W7:=by rw[<-hW7];exact(Ext.refl _).alloc _
      obtain⟨W8,hW8,hB8,hH8,hS8,hX8⟩:=QK hB7 (.int .i64 t.kind) (.int .i64 t.size) (.int .i64 t.count) (.slice A7 n7 c7) (.slice B7 m7 e7);have HE8:=hid (hX8 w5 hE7 (Nat.le_refl _));have HW8:=hid hW8;have HTO8:=hid ((HR5.o.st.trans hto).ext HE8.o);have HRB8:=hid (hrb5.ext HE8.o);have HBX8:=hid (hbx5.ext HE8.o);have HOF8:=hid (hof5.ext HE8.o);have HFL8:=hid (hfl5.ext HE8.o);have HV8:=hid (HV7.o.ext HE8.o);obtain⟨z0,z1,z2,z3,z4,zf⟩:=hB7;have f0:=zf 0;have f1:=zf 1;have f2:=zf 2;have f3:=zf 3;have f4:=zf 4;have ht2:=HR5.o.tot2;have e1:IntKind.i64.wrap ((tot:Int)+(k7:Int))=((tot+k7:Nat):Int):=by rw[IntWalk.i64_in _ (by omega)];omega
      clear hfi hto hn4 hrb5 hbx5 hof5 hfl5 hfar7 hffar7 hW8 hH8 hS8 hX8 hE7 zf c4 hcell hszs;go_upto_region 16 with fail
      rw[HW8.o];clear z0 z1 z2 z3 z4 f0 f1 f2 f3 f4 hW7
      cases ok with
      |false=>
       have hsp:Ky l (q:Int) x:=by rcases HFI.o with k|k;exact k.2;exact absurd k.1 (by simp)
       have HSP:=hid hsp;clear hsp;obtain⟨r0,r1,r2,r3,r4,rf⟩:=HRB8.o;have u0:=rf 0;have u1:=rf 1;have u2:=rf 2;have u3:=rf 3;have u4:=rf 4;obtain⟨W9,hW9,hB9,hH9,hS9,hX9⟩:=QK (HRB8.o) (.int .i64 0) (.int .i64 0) (.int .i64 0) (.slice none 0 0) (.slice none 0 0);obtain⟨t0,t1,t2,t3,t4, -⟩:=hB9;have hC9:=XJ W8 W.heap.size (.int .i64 0) (.int .i64 0) (.int .i64 0) (.slice none 0 0) (.slice none 0 0);rw[hW9]at hC9;have HC9:=hid hC9;have HW9:=hid hW9;clear hW9 hH9 hS9 hX9 rf hC9
       go_wp2
       try rw[HW9.o]
       clear r0 r1 r2 r3 r4;refine bodyPost_ret (v:= .tuple #[.agg #[(.int .i64 0),(.int .i64 0),(.int .i64 0),(.slice none 0 0),(.slice none 0 0)],.int .i64 0]) (by simp[results,Tryz.results54,go_sem,t0,t1,t2,t3,t4]) rfl ?_;exact⟨_,Ty.unk,0,0,P7,T7,ft7,fc7,fr7,rfl,ZF,(tW HSP.o),Q4.far HS.o HTO8.o HC9.o (fun b hb=>⟨by have:=HW.o.1;omega,by omega,by rw[hb];intro k;exact HFAR7.o _ k ⟨Nat.le_refl _,by have:=HSZS.o;omega⟩⟩)⟩
      | true=>
       have hfi2:¬Ky l (q:Int) x/\k7=QV t/\∃m,∀c∈l,QY c=true->VE l c.a (q:Int)->c.off=x->Zv l (Q8 l m) c t:=by rcases HFI.o with k|k;exact absurd k.1 (by simp);exact k.2
       have hsn:=HR5.o.fds.snoc hfi2.1 hfi2.2.2;have HFI2:=hid hfi2;have htk:OS.take (j+1)=OS.take j ++ [x]:=by rw[List.take_add_one,HXX.o];rfl
       rw[<-htk]at hsn;have HSN:=hid hsn;clear hfi2 htk hsn;by_cases hbig:256<tot+k7
       ·have g1:((tot+k7:Nat):Int) > 256:=by omega
        have HBIG:=hid hbig;clear hbig;obtain⟨r0,r1,r2,r3,r4,rf⟩:=HRB8.o;have u0:=rf 0;have u1:=rf 1;have u2:=rf 2;have u3:=rf 3;have u4:=rf 4;obtain⟨W9,hW9,hB9,hH9,hS9,hX9⟩:=QK (HRB8.o) (.int .i64 0) (.int .i64 0) (.int .i64 0) (.slice none 0 0) (.slice none 0 0);obtain⟨t0,t1,t2,t3,t4, -⟩:=hB9;have hC9:=XJ W8 W.heap.size (.int .i64 0) (.int .i64 0) (.int .i64 0) (.slice none 0 0) (.slice none 0 0);rw[hW9]at hC9;have HC9:=hid hC9;have HW9:=hid hW9;clear hW9 hH9 hS9 hX9 rf hC9
        go_wp2
        try rw[HW9.o]
        clear r0 r1 r2 r3 r4;refine bodyPost_ret (v:= .tuple #[.agg #[(.int .i64 0),(.int .i64 0),(.int .i64 0),(.slice none 0 0),(.slice none 0 0)],.int .i64 0]) (by simp[results,Tryz.results54,go_sem,t0,t1,t2,t3,t4]) rfl ?_;exact⟨_,Ty.unk,0,0,P7,T7,ft7,fc7,fr7,rfl,ZF,(lY HS.o.ok HSN.o (by have:=HOS.o.1;exact this.sublist (List.take_sublist _ _)) (fun o ho=>(HOS.o.2.2 o).1 (List.mem_of_mem_take ho)) (by have h1:=HR5.o.tot1;have h2:=HBIG.o;have h3:=HFI2.o.2.1;rw[jd];omega)),Q4.far HS.o HTO8.o HC9.o (fun b hb=>⟨by have:=HW.o.1;omega,by omega,by rw[hb];intro k;exact HFAR7.o _ k ⟨Nat.le_refl _,by have:=HSZS.o;omega⟩⟩)⟩
       ·have g1:¬((tot+k7:Nat):Int) > 256:=by omega
        obtain⟨i0,hi0,hi1,hi2,hi3⟩:=info_parts qX;have HI:=hid hi0;have HI0:=hid hi1;have HI1:=hid hi2;have HI2:=hid hi3;obtain⟨dm,hdm⟩:=Qg (max dd (d7+1));have hfm:=Qf.fd_up (show dd<=dm by omega) HFL8.o;have HFM:=hid hfm
        have hrel:(fdR (tyR dm)).rel W8 (fun b=>T7 b/\some b≠(Value.slice B5 n5 c5).ownBlock) [.int .i64 x,.int .i64 t.kind,.int .i64 t.size,.int .i64 t.count,.slice A7 n7 c7,.slice B7 m7 e7] (x,t):=
         gq (show d7+1<=dm by omega) _ _ _ _ (VG.2 ⟨A7,n7,c7,B7,m7,e7,rfl,hxb,HV8.o.mono (fun b hb _=>⟨hb,fun e=>HFF7.o b e.symm hb⟩)⟩)
        have HREL:=hid hrel;have b4:=HBX8.o.2.2.2.2.1;have f4:=HBX8.o.2.2.2.2.2 4;obtain⟨s0,s1,s2,s3,s4, -⟩:=hB8;have hn5:=HN5.o;have hFl:F.length<=256:=by have h1:=HR5.o.tot1;have h2:=pM F;omega
        have h8s:w2.heap.size+1<=W8.heap.size:=HBX8.o.lt;have htot:Hid (tot+k7<=256):=hid (by omega);have HOB:Hid (¬(Value.slice B5 n5 c5).ownBlock=some w2.heap.size):=hid (fun e=>by have:=(HFM.o.block _ e).1;omega);clear hi0 hi1 hi2 hi3 hfm hrel hdm hbig
        go_wp2_with (first
         |(at_builtin;refine zq rfl (.tmp 73) (.tmp 77) 40 rfl (w2.heap.size+1) 59 i0 _ 6 80 Tryz.underlying40 HI.o HI0.o HI1.o HI2.o rfl (fdR (tyR dm)) (ZJ _) (.slice B5 n5 c5) F rfl HFM.o W8.heap.size rfl (x,t) rfl HREL.o (by omega) (by omega) h8s ?_;intro A9 c9 w9 ho9 hg9 hl9;have HO9:=hid ho9;have HG9:=hid hg9;have HL9:=hid hl9;have HCG:=hid (Chg.of_grown' (M:=fun b=>(Value.slice B5 n5 c5).ownBlock=some b) HG9.o (fun b hb=>hb));have b4:=HCG.o.cell (((Ext.refl W8).alloc _).cell b4) HOB.o;have f4:=(HCG.o.frozen (p:=⟨w2.heap.size,4,none⟩) (by simp;omega) HOB.o).trans ((((Ext.refl W8).alloc _).frozen (p:=⟨w2.heap.size,4,none⟩) (by show w2.heap.size<W8.heap.size;omega)).trans f4);clear ho9 hg9 hl9)
         |fail)
        first
         |go_roundw
         |refine⟨?rel, ?measure⟩
        case rel=>
         have hszs:=HSZS.o;have hW0:=HW.o.1;have hCa:Chg (fun b=>(Value.slice B5 n5 c5).ownBlock=some b) W8 w9:=(Chg.of_ext _ ((Ext.refl W8).alloc _)).trans HCG.o;have hob:∀b,(Value.slice B5 n5 c5).ownBlock=some b->w2.heap.size+1<=b:=fun b hb=>(HFM.o.block b hb).1;have hst:=Q4.far HS.o (Q4.far HS.o HTO8.o hCa (fun b hb=>⟨by have:=hob b hb;omega,by have:=hob b hb;omega,HFF7.o b hb⟩)) (Chg.of_set (M:=fun b=>b=w2.heap.size) (p:=⟨w2.heap.size,4,none⟩) (.slice A9 (n5+1) c9) w9 rfl) (fun b hb=>⟨by omega,by omega,fun k=>HFAR7.o b k ⟨by omega,by omega⟩⟩);have ho9:=HO9.o;have hl9:=HL9.o;rw[HN5.o]at ho9 hl9;refine⟨j+1,tot+k7,F ++ [(x,t)],dm,P7,T7,ft7,fc7,fr7,A9,n5+1,c9,by omega,by go_num,by go_num,rfl,hid (by simp[HN5.o]),hid ⟨hst, ?_,HR5.o.oblk, ?_,HSN.o, ?_, ?_,HFAR7.o,fun b hb hk=>?_, ?_,htot.o⟩⟩
         ·exact(yz HOF8.o hCa (fun b hb e=>by have h1:=HR5.o.oblk b hb;have h2:=hob b e;omega)).set_far (p:=⟨w2.heap.size,4,none⟩) (fun e=>by have h1:=HR5.o.oblk _ e;exact absurd h1 (Nat.lt_irrefl _)) (fun _ h=>h.elim)
         ·exact ho9.set_far (p:=⟨w2.heap.size,4,none⟩) (fun e=>by have h1:w2.heap.size+1<=w2.heap.size:=(ho9.block _ e).1;omega) (fun b hb e=>HFAR7.o b hb ⟨by have e':b=w2.heap.size:=e;omega,by have e':b=w2.heap.size:=e;omega⟩)
         ·exact(HRB8.o.chg hCa (fun e=>by have:=hob _ e;omega)).far (p:=⟨w2.heap.size,4,none⟩) (by show w2.heap.size≠W.heap.size;omega)
         ·exact(HBX8.o.chg hCa (fun e=>by have:=hob _ e;omega)).put4 _
         ·rcases hl9 b hb with e|e
          ·exact HFF7.o b e hk
          ·have:=(HTO8.o.pts.place b hk).2;omega
         ·have h1:=HR5.o.tot1;have h2:=HFI2.o.2.1;rw[jd];omega
        case measure=>simp [intOf];omega
     ·obtain rfl:j=nO:=by omega
      have i1:¬(j:Int)<(j:Int):=by omega
      obtain⟨p0,p1,p2,p3,p4,pf⟩:=HR5.o.box;have hstr:TyV dd wr All (.agg #[.int .i64 5,.int .i64 0,.int .i64 0,.slice none 0 0,.slice B5 n5 c5]) (Ty.str F):=⟨none,0,0,B5,n5,c5,rfl,Sl.nil,HR5.o.fld.sl,by show Qy 5;unfold Qy;omega,by show Qy 0;unfold Qy;omega,by show Qy 0;unfold Qy;omega⟩;have HPP:=hid (nQ dd wr (Ty.str F) _ hstr (kW _ (by have h1:=HR5.o.tot1;have h2:=HR5.o.tot2;rw[jM];omega)));clear hstr pf
      go_wp2_with fail
      refine HPP.o.mono ?_;rintro e w5 ⟨v7,rfl,hv7,hx7⟩;have HX7:=hid hx7;have HV7:=hid (xJ hv7);obtain⟨A7,n7,c7,B7,m7,e7,rfl, -⟩:=hv7;clear hx7 p0 p1 p2 p3 p4 HPP;obtain⟨r0,r1,r2,r3,r4,rf⟩:=(HR5.o.rb.ext HX7.o);have u0:=rf 0;have u1:=rf 1;have u2:=rf 2;have u3:=rf 3;have u4:=rf 4;obtain⟨W9,hW9,hB9,hH9,hS9,hX9⟩:=QK ((HR5.o.rb.ext HX7.o)) (.int .i64 (Ty.ptr (Ty.str F)).kind) (.int .i64 (Ty.ptr (Ty.str F)).size) (.int .i64 (Ty.ptr (Ty.str F)).count) (.slice A7 n7 c7) (.slice B7 m7 e7);obtain⟨t0,t1,t2,t3,t4, -⟩:=hB9;have hC9:=XJ w5 W.heap.size (.int .i64 (Ty.ptr (Ty.str F)).kind) (.int .i64 (Ty.ptr (Ty.str F)).size) (.int .i64 (Ty.ptr (Ty.str F)).count) (.slice A7 n7 c7) (.slice B7 m7 e7);rw[hW9]at hC9;have HC9:=hid hC9;have HW9:=hid hW9;clear hW9 hH9 hS9 hX9 rf hC9
      go_wp2
      try rw[HW9.o]
      clear r0 r1 r2 r3 r4;refine bodyPost_ret (v:= .tuple #[.agg #[(.int .i64 (Ty.ptr (Ty.str F)).kind),(.int .i64 (Ty.ptr (Ty.str F)).size),(.int .i64 (Ty.ptr (Ty.str F)).count),(.slice A7 n7 c7),(.slice B7 m7 e7)],.int .i64 tot]) (by simp[results,Tryz.results54,go_sem,t0,t1,t2,t3,t4]) rfl ?_;have hrbw:W.heap.size<wr.heap.size:=HR5.o.rb.lt;have htbw:w2.heap.size<wr.heap.size:=HR5.o.box.lt;have hst:=HR5.o.st;have hwx:=HX7.o.size
      have hgr:=(hst.ext HX7.o).grow (T2:=fun b=>T5 b\/(wr.heap.size<=b/\b<w5.heap.size)) (fun b hb=> .inl hb) (fun b hb=>by
       rcases hb with hb|hb
       ·exact .inl hb
       ·have:=HW.o.1;exact .inr ⟨by omega,by omega,hb.2⟩)
      have hall:=ef HR5.o.fds (by have:=HOS.o.1;exact this.sublist (List.take_sublist _ _)) (fun o=>by
       rw[Qj (by have:=HOS.o.2.1;omega)];exact HOS.o.2.2 o) HND.o (by have h1:=HR5.o.tot1;have h2:=HR5.o.tot2;omega)
      rw[HR5.o.tot1]at hall
      have hnt:¬(T5 W.heap.size\/(wr.heap.size<=W.heap.size/\W.heap.size<w5.heap.size)):=by
       rintro(k|k)
       ·exact HR5.o.far _ k ⟨Nat.le_refl _,by have:=HSZS.o;omega⟩
       ·omega
      exact⟨_,Ty.ptr (Ty.str F),dd+1,tot,P5,_,ft5,fc5,fr5,rfl,HC9.o.ty (HV7.o.mono (fun b hb _=> .inr hb)) (fun b hb e=>hnt (by rw[<-e];exact hb)),hall,Q4.far HS.o hgr HC9.o (fun b hb=>⟨by have:=HW.o.1;omega,by omega,by rw[hb];exact hnt⟩)⟩
   ·intro x v w2 cnt2 hxb hlx hfx hrg2 hlt hg2 hs2 hen;have hrl:w2.rangeLeft mb W1.heap.size<wr.rangeLeft mb W1.heap.size:=by rw[hrg2.left_eq,hrg1.left_eq];exact hlt
    have hC2:Chg (fun b=>b=W1.heap.size) wr w2:=Chg.of_grown hg2 rfl;have hwz:=hrg1.iter.1;have HE2:=hid (Chg.old HX.o.ext hC2 (fun b hb=>by omega));have HO2:=hid (yz HX.o.own hC2 (fun b hb=>by have:=(HX.o.own.block b hb).1;omega));have HRL:=hid hrl;have HRG:=hid hrg2;have HLT:=hid hlt;have HXB:=hid hxb;have HLX:=hid hlx;have HFX:=hid hfx;have hol:O.length<=131072:=by have:=HX.o.len;have:=HNO.o;omega
    have hw2s:W1.heap.size+1<=w2.heap.size:=by omega
    have hqb:=HQB.o;clear hrg1 hrg2 hlt hg2 hs2 hrl hlx hfx hC2
    go_wp2_with (first
     |(at_builtin;refine tY rfl (.tmp 34) (.tmp 36) rfl (W1.heap.size+1) (.slice B qb cb) O rfl (HO2.o.ext ((Ext.refl _).alloc _)) w2.heap.size x rfl (by simp[go_sem]) hxb (by omega) (by simp;omega) ?_;intro A9 c9 w9 ho9 hg9 hl9;have HO9:=hid ho9;have HG9:=hid hg9;have HL9:=hid hl9;clear ho9 hg9 hl9)
     |fail)
    first
     |go_roundw
     |refine⟨?rel, ?measure⟩
    case rel=>
     have hCa:Chg (fun b=>(Value.slice B qb cb).ownBlock=some b) w2 w9:=(Chg.of_ext _ ((Ext.refl _).alloc _)).trans (Chg.of_grown' HG9.o (fun b hb=>hb));have hob:∀b,(Value.slice B qb cb).ownBlock=some b->W1.heap.size+1<=b:=fun b hb=>(HO2.o.block b hb).1;refine⟨O ++ [x],_,cnt2,A9,c9,qb+1,rfl,hid (by simp[HQB.o]),hid ⟨Chg.old HE2.o hCa (fun b hb=>by have:=hob b hb;omega),by rw[HMB.o];exact(HRG.o.ext ((Ext.refl _).alloc _)).kept HG9.o (fun e=>by have:=hob _ e.symm;have:=HIB.o;omega) (fun e=>by have:=hob _ e.symm;omega),by have:=HX.o.len;have:=HLT.o;simp;omega,by have:=HO9.o;rw[HQB.o]at this;exact this, ?_,fun y=>?_⟩⟩
     ·refine List.nodup_append.2 ⟨HX.o.nd,by simp,fun a ha b hb e=>?_⟩;obtain rfl:b=x:=by simpa using hb
      have:=((HX.o.mem a).1 ha).2.2;rw[e,HLX.o]at this;cases this
     ·rw[List.mem_append,HX.o.mem];constructor
      ·rintro(⟨k1,k2,k3⟩|k)
       ·exact⟨k1,k2,by simp[k3]⟩
       ·obtain rfl:y=x:=by simpa using k
        exact⟨HXB.o,by rw[HFX.o];rfl,by simp⟩
      ·rintro⟨k1,k2,k3⟩;by_cases hy:y=x
       ·exact .inr (by simp[hy])
       ·exact .inl ⟨k1,k2,by simpa [hy] using k3⟩
    case measure=>
     have hob:∀b,(Value.slice B qb cb).ownBlock=some b->W1.heap.size+1<=b:=fun b hb=>(HO2.o.block b hb).1;have h5:=((HRG.o.ext ((Ext.refl _).alloc _)).kept HG9.o (fun e=>by have:=hob _ e.symm;have:=HIB.o;omega) (fun e=>by have:=hob _ e.symm;omega)).left_eq;rw[h5,<-HRG.o.left_eq];exact HRL.o
end
end Go.Proofs.YtlmipgdnlfjpaaaGreat
