/- Lemmas of mine, merged. -/
import Derived.Test.YtlmipgdnlfjpaaaGreatCelm
import Derived.Test.YtlmipgdnlfjpaaaGreatPlam
set_option linter.unusedSimpArgs false
set_option linter.unusedVariables false
namespace Go.Proofs.YtlmipgdnlfjpaaaGreat
open Go.RowKit Go.Deco Go.Maps
section
variable {ops:Array Oper}{rest:List Oper}{o:Oper}{a:Act}{Q:Exit->Act->World->Prop}(w:World)
theorem gM (hg:o.guard=none)(it:Operand)(hop:o.op=Op.next it false)(b r n:Nat)(f:Int->Option Value)(left:Int->Bool)(cnt:Nat)(hit:a.eval it= .pointer (some ⟨r,0,none⟩))(h:Z6 (QG Tryz.underlying3) w b r n f left cnt)
  (hDone:cnt=0->(∀x,Qy x->left x=false)->wpList Tryz.prog ops Q rest (a.put o.dst (.tuple #[.bool false])) w)
  (hMore:∀(x:Int) v w' cnt',Qy x->left x=true->f x=some v->Z6 (QG Tryz.underlying3) w' b r n f (fun j=>left j && !decide (j=x)) cnt'->cnt'<cnt->w.grownBy w' (some r)->w'.heap.size=w.heap.size->
   (Instr.entry (.pointer (some ⟨r,0,none⟩))).run Tryz.prog w'= .ok (.tuple #[.int .i64 x,v]) w'->wpList Tryz.prog ops Q rest (a.put o.dst (.tuple #[.bool true,.int .i64 x,v])) w'):wpList Tryz.prog ops Q (o :: rest) a w:=
 sC w hg it hop (QG Tryz.underlying3) b r n f left cnt hit h hDone hMore
end
section
variable {d:Nat}{D:Zj}{w0 W0 W W':World}{vl:Value}{l:List Con}{n:Nat}{P0 P P':List Nat}{v6 v7:Value}
theorem Q6.roots (h:Q6 D W0 W vl l n P0 P v6 v7):Jg n (Qb P0):=by
 refine⟨fun x hx=>?_,fun x hx=>?_⟩
 ·rw[<-h.root];exact Nat.lt_of_le_of_lt (cG h.par.2.1 x) hx
 ·rw[<-h.root,<-h.root];exact uw h.par.2.1 (by rw[h.par.1];omega)
theorem Zw.ve (S:Zw d D w0 W0 vl l n P0)(hr:Jg n (Qb P0)){c:Con}(hc:c∈l){q:Nat}(hq:q<n)(hqq:Qb P0 q=q):Qb P0 c.a.toNat=q↔VE l c.a (q:Int):=by
 have h0:=(S.ok c hc).a0;have h1:=(S.ok c hc).a1;have:=zm S.base.cls h0 h1 (show(0:Int)<=(q:Int) by omega) (by omega);rw[Int.toNat_natCast,hqq]at this;exact this
theorem Zw.acc (S:Zw d D w0 W0 vl l n P0)(hr:Jg n (Qb P0)){q:Nat}(hq:q<n)(hqq:Qb P0 q=q){o:Int}{k:Nat}:k∈Zx l (Qb P0) l.length q o↔∃c,l[k]? =some c/\QY c=true/\VE l c.a (q:Int)/\c.off=o:=by
 unfold Zx;rw[if_pos (by omega),zJ,Int.toNat_natCast];constructor
 ·rintro⟨h1,c,h2,h3,h4,h5⟩;exact⟨c,h2,h3,(S.ve hr (Qx h2) hq hqq).1 h4,h5⟩
 ·rintro⟨c,h2,h3,h4,h5⟩;exact⟨(Qz h2).1,c,h2,h3,(S.ve hr (Qx h2) hq hqq).2 h4,h5⟩
theorem Zw.isptr (S:Zw d D w0 W0 vl l n P0)(hr:Jg n (Qb P0)){q:Nat}(hq:q<n)(hqq:Qb P0 q=q):(D.fo q).isSome=true↔Q9 l (q:Int):=by
 constructor
 ·intro h;obtain⟨v,hv⟩:=Option.isSome_iff_exists.1 h;obtain⟨o,ho⟩:=S.base.some' _ _ hv;obtain⟨k,hk⟩:=List.exists_mem_of_ne_nil _ ho;obtain⟨c,h2,h3,h4,h5⟩:=(S.acc hr hq hqq).1 hk;exact⟨c,Qx h2,h3,h4⟩
 ·rintro⟨c,hc,ha,hv⟩;obtain⟨k,hk⟩:=List.getElem?_of_mem hc;have hm:=(S.acc hr hq hqq (o:=c.off) (k:=k)).2 ⟨c,hk,ha,hv,rfl⟩
  cases hf:D.fo q with
  |some v=>rfl
  |none=>rw [S.base.offs.no _ hf]at hm;cases hm
theorem Zw.cell (S:Zw d D w0 W0 vl l n P0){q:Nat}{o:Int}{k i:Nat}{c e:Con}(hc:l[k]? =some c)(he:l[i]? =some e)(wc:QQ c=true)(we:QQ e=true)(ha:Qb P0 c.a.toNat=q)(hea:Qb P0 e.a.toNat=q)(ho:c.off=o)(heo:e.off=o):Qb P0 (n+i)=Qb P0 c.b.toNat:=by
 have hcm:=Qx hc;have hem:=Qx he;rw[wX S.base.cls (S.ok e hem) he we];have hs:=(wZ S.base.cls (S.ok c hcm) (S.ok e hem) wc we).2 ⟨ho.trans heo.symm,ha.trans hea.symm⟩;have hb:=hs.rel hcm hem;have k1:=(S.ok c hcm).b0 (Zp wc).1;have k2:=(S.ok c hcm).b1 (Zp wc).1;have k3:=(S.ok e hem).b0 (Zp we).1;have k4:=(S.ok e hem).b1 (Zp we).1;exact(zm S.base.cls k3 k4 k1 k2).2 hb.symm
end
def FZ (l:List Con)(r:Nat->Nat)(q v:Nat):Prop:=∃c∈l,QQ c=true/\r c.a.toNat=q/\Q9 l c.b/\v=r c.b.toNat
def vv (l:List Con)(r:Nat->Nat)(q:Nat)(o:Int)(v:Nat):Prop:=∃c∈l,QQ c=true/\r c.a.toNat=q/\c.off=o/\Q9 l c.b/\v=r c.b.toNat
def nP (D:Zj)(W0 W:World)(vl:Value)(l:List Con)(n:Nat)(P0:List Nat)(v6 v7:Value)(q:Nat)(e:Ending)(w':World):Prop:=
 ∃(A:Option Addr) (c:Nat) (R:List Nat) (P':List Nat),e= .returned (.slice A R.length c)/\Sl QF w' (fun b=>W.heap.size<=b) (.slice A R.length c) R/\(∀v,v∈R↔FZ l (Qb P0) q v)/\R.length<=1048576/\Q6 D W0 w' vl l n P0 P' v6 v7/\Chg (fun b=>b=D.pb) W w'
structure NxR (D:Zj)(W0 W wr:World)(vl:Value)(l:List Con)(n:Nat)(P0:List Nat)(v6 v7:Value)(q nb:Nat)(o:Value)(P R:List Nat)(left:Int->Bool)(cnt:Nat):Prop where
 now:Q6 D W0 wr vl l n P0 P v6 v7
 rng:Z6 (QG Tryz.underlying3) wr (D.ib q) nb D.no (D.fi q) left cnt
 len:R.length+cnt<=D.no
 own:Qf QF wr (nb+1) 3 No o R
 chg:Chg (fun b=>b=D.pb) W wr
 mem:∀v,v∈R↔∃x,Qy x/\(D.fi q x).isSome=true/\left x=false/\vv l (Qb P0) q x v
section
variable {D:Zj}{W0 W wr w3:World}{vl:Value}{l:List Con}{n:Nat}{P0 P P3 R:List Nat}{v6 v7:Value}{q nb cnt cnt2 v:Nat}{o o':Value}{left:Int->Bool}{x:Int}
theorem NxR.no (h:NxR D W0 W wr vl l n P0 v6 v7 q nb o P R left cnt)(hlt:cnt2<cnt)(h1:Q6 D W0 w3 vl l n P0 P3 v6 v7)(h2:Z6 (QG Tryz.underlying3) w3 (D.ib q) nb D.no (D.fi q) (fun j=>left j && !decide (j=x)) cnt2)(h3:Qf QF w3 (nb+1) 3 No o R)(h4:Chg (fun b=>b=D.pb) W w3)
  (hno:∀u,¬vv l (Qb P0) q x u):NxR D W0 W w3 vl l n P0 v6 v7 q nb o P3 R (fun j=>left j && !decide (j=x)) cnt2:=by
 refine⟨h1,h2,by have:=h.len;omega,h3,h4,fun u=>?_⟩;rw[h.mem];constructor
 ·rintro⟨y,k1,k2,k3,k4⟩;exact⟨y,k1,k2,by simp[k3],k4⟩
 ·rintro⟨y,k1,k2,k3,k4⟩;by_cases hy:y=x
  ·rw[hy]at k4;exact absurd k4 (hno u)
  ·exact⟨y,k1,k2,by simpa [hy] using k3,k4⟩
theorem NxR.yes (h:NxR D W0 W wr vl l n P0 v6 v7 q nb o P R left cnt)(hlt:cnt2<cnt)(h1:Q6 D W0 w3 vl l n P0 P3 v6 v7)(h2:Z6 (QG Tryz.underlying3) w3 (D.ib q) nb D.no (D.fi q) (fun j=>left j && !decide (j=x)) cnt2)(h3:Qf QF w3 (nb+1) 3 No o' (R ++ [v]))(h4:Chg (fun b=>b=D.pb) W w3)
  (hx:Qy x) (hf:(D.fi q x).isSome=true) (hyes:∀u,vv l (Qb P0) q x u↔u=v):NxR D W0 W w3 vl l n P0 v6 v7 q nb o' P3 (R ++ [v]) (fun j=>left j && !decide (j=x)) cnt2:=by
 refine⟨h1,h2,by have:=h.len;simp;omega,h3,h4,fun u=>?_⟩;rw[List.mem_append,h.mem];constructor
 ·rintro(⟨y,k1,k2,k3,k4⟩|k)
  ·exact⟨y,k1,k2,by simp[k3],k4⟩
  ·obtain rfl:u=v:=by simpa using k
   exact⟨x,hx,hf,by simp,(hyes u).2 rfl⟩
 ·rintro⟨y,k1,k2,k3,k4⟩;by_cases hy:y=x
  ·rw[hy]at k4;exact .inr (by simp[(hyes u).1 k4])
  ·exact .inl ⟨y,k1,k2,by simpa [hy] using k3,k4⟩
end
section
variable {d:Nat}{D:Zj}{w0 W0 W:World}{vl:Value}{l:List Con}{n:Nat}{P0 P:List Nat}{v6 v7:Value}
set_option maxRecDepth 100000 in
set_option maxHeartbeats 8000000 in
theorem iF {A:Option Addr} {m me:Nat} (S:Zw d D w0 W0 (.slice A m me) l n P0) (h:Q6 D W0 W (.slice A m me) l n P0 P v6 v7) {q:Nat} (hq:q<n) (hqq:Qb P0 q=q) (hp:(D.fo q).isSome=true):
  Calls Tryz.prog 127 #[.pointer (some ⟨D.b0+5,0,none⟩),.int .i64 q] W (nP D W0 W (.slice A m me) l n P0 v6 v7 q):=by
 have hr:=h.roots;have hhn:=S.hn;have hhm:=S.hm;obtain⟨hc1,hc2⟩:=S.sl.cap;have hlen:=S.sl.len;obtain⟨vo,hvo⟩:=Option.isSome_iff_exists.1 hp;obtain⟨hvo1,hvo2,hvo3⟩:=(h.offs S).yes _ _ hvo;subst hvo1;have HLK:=hid (YZ (h.offs S).map (show Qy (q:Int) by unfold Qy;omega));rw[hvo,Option.getD_some]at HLK;have c4:=h.box.1 4 _ rfl;have HM:=hid hvo3.map;have hibW:D.ib q<W.heap.size:=hvo3.map.lt;have hlo:=S.base.hlo;have hcm:=S.base.hcm;have hnd:=S.base.hn;have hpb:=S.base.hpb;have HPB:Hid (D.pb<D.cm/\D.b0+6<=D.pb):=hid ⟨hpb.2 (by omega),hpb.1⟩;have HIB:Hid (D.lo<=D.ib q/\D.ib q<W.heap.size/\D.cm<D.lo):=hid ⟨hvo2,hibW,hlo⟩;have HNO:Hid (D.no<=131072):=hid (by omega);have HN:=hid h;have HS:=hid S;have HR:=hid hr;have HVO:=hid hvo;have HQ:Hid (q<n/\Qb P0 q=q):=hid ⟨hq,hqq⟩;have HLE:=hid hlen;obtain⟨mb,hmb⟩:=Qg (D.ib q);rw[hmb]at HLK HM;have HMB:=hid hmb;obtain⟨sb,hsb⟩:=Qg (D.b0+5);rw[hsb]at c4 ⊢;have HSB:=hid hsb;have i0:(n:Int)<=65536:=by omega
 clear hvo hvo2 hvo3 hp S h hr hq hqq hibW hlo hcm hnd hpb hlen hmb hsb;go_enter Tryz.func127,Tryz.ntmps127
 go_wp2_with (first
  |((with_reducible refine Vy 68 (.tmp 14) (.tmp 15) rfl rfl ?_);refine Vf rfl (.tmp 14) (.tmp 15) 68 rfl HLK.o ?_)
  |(at_range;refine gY _ rfl (.tmp 16) 93 rfl 26 Tryz.underlying93 (QG Tryz.underlying3) mb D.no _ rfl HM.o ?_;intro w1 cnt0 hcnt0 hrg0 hg0 hs0;have HR0:=hid hrg0;have HG0:=hid hg0;have HS0:=hid hs0;clear hrg0 hg0 hs0)
  |fail)
 go_frame
 have hX0:Ext W w1:=Ext.grown (Ext.refl W) HG0.o (fun j hj=>by cases hj);have HX0:=hid hX0;clear hX0 c4
 go_loopw [5] (fun o wr=>∃(P R:List Nat) (left:Int->Bool) (cnt:Nat) (B:Option Addr) (cb qb:Nat),o= .slice B qb cb/\Hid (R.length=qb)/\Hid (NxR D W0 W wr (.slice A m me) l n P0 v6 v7 q W.heap.size (.slice B qb cb) P R left cnt)) (fun _ wr=>wr.rangeLeft mb W.heap.size)
 case atStart=>
  refine⟨P,[],_,cnt0,none,0,0,rfl,hid rfl,hid ⟨HN.o.ext HX0.o,by rw[HMB.o];exact HR0.o,by simpa using hcnt0,Qf.nil,Chg.of_ext _ HX0.o,fun v=>?_⟩⟩;simp only[List.not_mem_nil,false_iff];rintro⟨x,h1,h2,h3,h4⟩;rw[h2]at h3;cases h3
 case round=>
  obtain⟨P1,R,left,cnt,B,cb,qb,rfl,HQB,HX⟩:=hrel;clear HR0 HG0 HX0 HS0 hcnt0;have hrg1:=HX.o.rng;rw[HMB.o]at hrg1
  go_wp2_with (first
   |(at_next;refine gM _ rfl (.tmp 17) rfl mb W.heap.size D.no _ left cnt rfl hrg1 ?_ ?_)
   |fail)
  ·intro hc0 hl0;have HL0:=hid hl0;clear hl0 hrg1
   go_wp2
   go_ret;refine⟨B,cb,R,P1,by simp[HQB.o], ?_,fun v=>?_, ?_,HX.o.now,HX.o.chg⟩
   ·rw[HQB.o];exact HX.o.own.slT (fun _ h=>h.elim) (fun k hk=>by have:=(HX.o.own.block k hk).1;omega)
   ·rw[HX.o.mem];constructor
    ·rintro⟨x, -, -, -,c,h1,h2,h3,h4,h5,h6⟩;exact⟨c,h1,h2,h3,h5,h6⟩
    ·rintro⟨c,h1,h2,h3,h5,h6⟩;obtain⟨k,hk⟩:=List.getElem?_of_mem h1;have hcb:=(Y9 HS.o.sl c h1).2.2.2.1;refine⟨c.off,hcb, ?_,HL0.o _ hcb,c,h1,h2,h3,rfl,h5,h6⟩
     have hm:k∈Zx l (Qb P0) l.length q c.off:=by
      unfold Zx;rw[if_pos (by omega)];exact zJ.2 ⟨(Qz hk).1,c,hk,qQ h2,by simpa using h3,rfl⟩
     have:=((HS.o.base.offs.yes _ _ HVO.o).2.2.there (x:=c.off) (fun e=>by rw[e]at hm;cases hm));exact Option.isSome_iff_ne_none.2 this
   ·have:=HX.o.len;have:=HNO.o;omega
  ·intro x v w2 cnt2 hxb hlx hfx hrg2 hlt hg2 hs2 hen;have hrl:w2.rangeLeft mb W.heap.size<wr.rangeLeft mb W.heap.size:=by rw[hrg2.left_eq,hrg1.left_eq];exact hlt
   have hsz:=HX.o.chg.size;have hC2:Chg (fun b=>b=W.heap.size) wr w2:=Chg.of_grown hg2 rfl;have hW0:W0.heap.size<=W.heap.size:=by have:=HN.o.chg.size;exact this
   have HN2:=hid (HX.o.now.far HS.o hC2 (fun b hb=> .inl (by omega)));have HC2:=hid (HX.o.chg.trans' hC2 (fun b hb=> .inr (by omega)));have HO2:=hid (Vd HX.o.own hC2 (fun b hb=>by have:=(HX.o.own.block b hb).1;omega));have hrow:=(((HN2.o.offs HS.o).yes _ _ HVO.o).2.2.row x);have hrv:QM (D.fi q) x=v:=by unfold QM;rw[hfx];rfl
   rw[hrv]at hrow;obtain⟨L,hL⟩:=Qg (Zx l (Qb P0) l.length q x);rw[hL]at hrow;obtain⟨A2,c2,rfl,hlc,hlc2⟩:=hrow.form;have HL:=hid hL;have HROW:=hid hrow;have HFX:=hid hfx;have HXB:=hid hxb;have HLX:=hid hlx;have HRL:=hid hrl;have HRG:=hid hrg2;have HLT:=hid hlt;have hLl:L.length<=l.length:=by rw[<-hL];exact jF _ _
   obtain⟨LQ,hLQ⟩:=Qg (L.length);rw[hLQ]at hlc hLl hen ⊢;have HLQ:=hid hLQ;clear hrow hrv hL hfx hxb hlx hrl hrg2 hlt hrg1 hg2 hs2 hLQ hC2
   go_wp2_with fail
   clear hen
   go_loopw [5,25] (fun s5 i wr=>∃k,k<=LQ/\i= .int .i64 k/\s5= .slice B qb cb/\Hid (Ext w2 wr)/\Hid (∀y∈L.take k,∀c,l[y]? =some c->QQ c=false)) (fun _ i _=>LQ - (intOf i).toNat)
   case atStart=>exact⟨0,by omega,rfl,rfl,hid (Ext.refl _),hid (fun y hy=>by simp at hy)⟩
   case round=>
    obtain⟨k,hk,rfl,rfl,HX2,HNW2⟩:=hrel;by_cases h1:k<LQ
    ·obtain⟨y,hy⟩:∃y,L[k]? =some y:=⟨_,Qq (by have:=HLQ.o;omega)⟩
     obtain⟨c,hc⟩:∃c,l[y]? =some c:=by
      have hm:=Qx hy;rw[<-HL.o]at hm;unfold Zx at hm;rw[if_pos (by omega)]at hm;obtain⟨_,c,hc,_⟩:=zJ.1 hm;exact⟨c,hc⟩
     have hat:QY c=true/\Qb P0 c.a.toNat=q/\c.off=x:=by
      have hm:=Qx hy;rw[<-HL.o]at hm;unfold Zx at hm;rw[if_pos (by omega)]at hm;obtain⟨_,c',hc',h1,h2,h3⟩:=zJ.1 hm;rw[hc]at hc';cases hc';exact⟨h1,by simpa using h2,h3⟩
     have HAT:=hid hat;have HCC:=hid hc;have HYY:=hid hy;have hyl:=(Qz hc).1;have HN3:=hid (HN2.o.ext HX2.o)
     obtain⟨g2,hg2,hcell⟩:∃g2,A2=some ⟨g2,0,none⟩/\wr.cell? ⟨g2,k,none⟩=some (.int .i64 y):=by
      have hro:=HROW.o.ext HX2.o;rw[HLQ.o]at hro;obtain⟨g2,rfl, -, -⟩:=hro.at0 (by omega);exact⟨g2,rfl,(hro.num_cell hy).1⟩
     subst hg2;obtain⟨d',bx,ox,P2,np2,cp2,P3,np3,cp3,hd,hA,hv1,hbx, -⟩:=(HS.o.sl.ext (HN3.o.old HS.o)).con_at hc;subst hA;have HV1:=hid hv1;obtain⟨x0,x1,x2,x3,x4,x5,x6,x7,x8,x9⟩:=hbx;have b0:=HN3.o.box.1 0 _ rfl;rw[HSB.o]at b0;have i1:(0:Int)<=(y:Int):=by omega
     have i2:(y:Int)<(m:Int):=by have:=HLE.o;omega
     have i3:(k:Int)<(LQ:Int):=by omega
     have HWD:=hid (fun w' (hw:Ext wr w')=>ky d' w' _ _ (HV1.o.ext hw));obtain⟨wv,hwv⟩:=Qg (QQ c);rw[hwv]at HWD;have HWV:=hid hwv;clear hwv hv1 hd hat hc hy
     go_wp2_with fail
     refine(HWD.o _ (Ext.refl _)).mono ?_;rintro e w4 ⟨rfl,hx4⟩;have HX4:=hid hx4;clear hx4 hcell x0 x1 x2 x3 x4 x5 x6 x7 x8 x9 b0
     cases wv with
     | false=>
      go_wp2_with fail
      first
       |go_roundw
       |refine⟨?rel, ?measure⟩
      case rel=>exact⟨k+1,by omega,by go_num,rfl,hid (HX2.o.trans HX4.o),hid (fun y' hy' c' hc'=>by
       rw[List.take_add_one,HYY.o]at hy';rcases List.mem_append.1 hy' with h5|h5
       ·exact HNW2.o y' h5 c' hc'
       ·obtain rfl:y'=y:=by simpa using h5
        rw[HCC.o]at hc';cases hc';exact HWV.o)⟩
      case measure=>simp [intOf];omega
     | true=>
      have HN4:=hid (HN3.o.ext HX4.o);have HRG4:=hid ((HRG.o.ext HX2.o).ext HX4.o);have HO4:=hid ((HO2.o.ext HX2.o).ext HX4.o);have HC4:=hid ((HC2.o.ext HX2.o).ext HX4.o);have hmem:=Qx HCC.o;obtain⟨i,ce,hce,hle,hwe,hae,hoe,hi⟩:=zj (l:=l) (n:=n) (r:=Qb P0) hmem HWV.o;have hpl:placeOf (Qb P0) c=(q,x):=by unfold placeOf;rw[HAT.o.2.1,HAT.o.2.2]
      rw[hpl]at hi;have hil:=(Qz hle).1;have hroot:Qb P0 (n+i)=Qb P0 c.b.toNat:=HS.o.cell HCC.o hle HWV.o hwe HAT.o.2.1 (hae.trans HAT.o.2.1) HAT.o.2.2 (hoe.trans HAT.o.2.2);obtain⟨b,hb,hbn⟩:=Yj (HS.o.ok c hmem) HWV.o;obtain⟨v0,hv0⟩:=Qg (Qb P0 c.b.toNat);have hv0n:v0<n/\Qb P0 v0=v0:=by rw[<-hv0,hb];exact⟨HR.o.lt _ hbn,HR.o.idem _ hbn⟩
      have hvp:(D.fo v0).isSome=true↔Q9 l c.b:=by
       rw[HS.o.isptr HR.o hv0n.1 hv0n.2];have h5:VE l c.b (v0:Int):=by rw[<-hv0,hb];exact YJ HS.o.base.cls HR.o hbn
       exact⟨X0 h5.symm,X0 h5⟩
      have hnx:∀u,vv l (Qb P0) q x u↔Q9 l c.b/\u=v0:=fun u=>by
       constructor
       ·rintro⟨c',k1,k2,k3,k4,k5,k6⟩;obtain⟨y',hy'⟩:=List.getElem?_of_mem k1;have e1:=HS.o.cell hy' hle k2 hwe k3 (hae.trans HAT.o.2.1) k4 (hoe.trans HAT.o.2.2);obtain⟨b',hb',hbn'⟩:=Yj (HS.o.ok c' k1) k2;have e2:u=v0:=by rw[k6,<-e1,hroot,hv0]
        refine⟨?_,e2⟩;rw[<-hvp,HS.o.isptr HR.o hv0n.1 hv0n.2,<-e2,k6,hb'];refine X0 ?_ k5;rw[hb'];exact YJ HS.o.base.cls HR.o hbn'
       ·rintro⟨k1,k2⟩;exact⟨c,hmem,HWV.o,HAT.o.2.1,HAT.o.2.2,k1,k2.trans hv0.symm⟩
      have HVN:=hid hv0n;have HVP:=hid hvp;have HNX:=hid hnx;obtain⟨xp,g,mm,cg,hxp,hrowc,hmm,hm0,hg1,hg2',hcell⟩:=HN4.o.row HS.o (q:=q) (off:=x) (by have:=HQ.o.1;unfold Qy;omega) HXB.o hi
      have HF:=hid (fun w' (he:Ext w4 w')=>(show Calls Tryz.prog 28 #[.pointer (some ⟨sb,0,none⟩),.int .i64 ((n+i:Nat):Int)] w' (fun e w''=>e= .returned (.int .i64 (v0:Nat))/\∃P',Q6 D W0 w'' (.slice (some ⟨bx,ox,none⟩) m me) l n P0 P' v6 v7/\Chg (fun b=>b=D.pb) w' w'') from by
       rw[<-hv0,<-hroot,<-HSB.o];exact jg HS.o (HN4.o.ext he) (by omega)))
      have HK:=hid (fun(w':World) (P':List Nat) (h':Q6 D W0 w' (.slice (some ⟨bx,ox,none⟩) m me) l n P0 P' v6 v7)=>(show w'.cell? ⟨sb,1,none⟩=some (.int .i64 n)/\w'.cell? ⟨sb,3,none⟩=some (.map (some D.cm))/\w'.cell? ⟨g,0,none⟩=some (.int .i64 i)/\(Instr.lookup 67 (.map (some D.cm)) (.agg #[.int .i64 q,.int .i64 x]) false).run Tryz.prog w'= .ok (.slice (some ⟨g,0,none⟩) mm cg) w' from
       ⟨by rw[<-HSB.o];exact h'.box.1 1 _ rfl,by rw[<-HSB.o];exact h'.box.1 3 _ rfl,(hcell w' (h'.cells HS.o)).1,(hcell w' (h'.cells HS.o)).2⟩))
      have HS0:=hid (HK.o _ _ (HN4.o.ext (Ext.refl w4).drew))
      have HIP:=hid (fun(w':World) (P':List Nat) (h':Q6 D W0 w' (.slice (some ⟨bx,ox,none⟩) m me) l n P0 P' v6 v7)=>(show Calls Tryz.prog 29 #[.pointer (some ⟨sb,0,none⟩),.int .i64 (v0:Int)] w' (fun e w''=>e= .returned (.bool (D.fo v0).isSome)/\Ext w' w'') from by
       rw[<-HSB.o];exact pj HS.o h' (by have:=HVN.o.1;unfold Qy;omega)))
      have e1:IntKind.i64.wrap ((n:Int)+(i:Int))=((n+i:Nat):Int):=by rw[IntWalk.i64_in _ (by omega)];omega
      have i4:(0:Int)<(mm:Int):=by omega
      clear hmem hce hle hwe hae hoe hi hpl hroot hb hbn hv0 hv0n hvp hnx hxp hrowc hmm hg1 hg2' hcell hil hyl;go_upto_region 9 with fail
      refine wp_region_held_drew (S:=(fun w'=>w'.cell? ⟨sb,1,none⟩=some (.int .i64 n)/\w'.cell? ⟨sb,3,none⟩=some (.map (some D.cm))/\w'.cell? ⟨g,0,none⟩=some (.int .i64 i)/\(Instr.lookup 67 (.map (some D.cm)) (.agg #[.int .i64 q,.int .i64 x]) false).run Tryz.prog w'= .ok (.slice (some ⟨g,0,none⟩) mm cg) w')) (by kernel_rfl) HS0.o (fun hSg1q0=>?_);refine Qp 0 1 2 3 4 5 ?_;refine Qp 6 7 8 9 10 11 ?_;refine QB 12 13 14 15 ?_;refine rgC 16 (fun K hK=>?_);go_simp;go_at_call 28;refine(HF.o _ ((Ext.refl w4).drew)).mono ?_;rintro e w5 ⟨rfl,P5,hn5,hc5⟩;have HC5:=hid ((Chg.of_ext (fun b=>b=D.pb) ((Ext.refl w4).drew)).trans hc5);have HN5:=hid hn5;clear hn5 hc5;refine rgK hK (HK.o _ _ HN5.o) (fun hSg1q1=>?_);clear hK K;refine rgT 17 ?_;refine wpAnyH_done (by kernel_rfl) ?_ _;clear e1 i4 HS0;have HRG5:=hid (HRG4.o.kept HC5.o.grown (by have:=HIB.o;have:=HPB.o;have:=HMB.o;simp;omega) (by have:=HIB.o;have:=HPB.o;simp;omega));have HO5:=hid (Vd HO4.o HC5.o (fun b hb=>by have:=(HO4.o.block b hb).1;have:=HIB.o;have:=HPB.o;omega))
      go_wp2_with fail
      refine(HIP.o _ _ HN5.o).mono ?_;rintro e w6 ⟨rfl,hx6⟩;have HN6:=hid (HN5.o.ext hx6);have HRG6:=hid (HRG5.o.ext hx6);have HO6:=hid (HO5.o.ext hx6);have HC6:=hid ((HC4.o.trans HC5.o).ext hx6);obtain⟨z,hz⟩:=Qg ((D.fo v0).isSome);rw[hz];have HZ:=hid hz;clear hx6 hz
      cases z with
      | false=>
       go_wp2
       first
        |go_roundw
        |refine⟨?rel, ?measure⟩
       case rel=>exact⟨P5,R,_,cnt2,B,cb,qb,rfl,HQB,hid (HX.o.no HLT.o HN6.o (by rw[HMB.o];exact HRG6.o) HO6.o HC6.o (fun u hu=>by
        have:=HVP.o.2 ((HNX.o u).1 hu).1;rw[HZ.o]at this;cases this))⟩
       case measure=>
        rw[HRG6.o.left_eq,<-HRG.o.left_eq];exact HRL.o
      | true=>
       have hRl:R.length<=131072:=by have:=HX.o.len;have:=HNO.o;omega
       have hv5:v0<1048576:=by have:=HVN.o.1;omega
       have HRL6:Hid (W.heap.size<w6.heap.size):=hid HRG6.o.iter.1;have hqb:=HQB.o
       go_wp2_with (first
        |(at_builtin;refine Yg rfl (.tmp 57) (.tmp 59) rfl (W.heap.size+1) (.slice B qb cb) R rfl (HO6.o.ext ((Ext.refl _).alloc _)) w6.heap.size v0 rfl (by simp[go_sem]) hv5 (by omega) (by have:=HRL6.o;simp;omega) ?_;intro A9 c9 w9 ho9 hg9 hl9;have HO9:=hid ho9;have HG9:=hid hg9;have HL9:=hid hl9;clear ho9 hg9 hl9)
        |fail)
       first
        |go_roundw
        |refine⟨?rel, ?measure⟩
       case rel=>
        have hCa:Chg (fun b=>(Value.slice B qb cb).ownBlock=some b) w6 w9:=(Chg.of_ext _ ((Ext.refl _).alloc _)).trans (Chg.of_grown' HG9.o (fun b hb=>hb))
        refine⟨P5,R ++ [v0],_,cnt2,A9,c9,qb+1,rfl,hid (by simp[HQB.o]),hid (HX.o.yes HLT.o (HN6.o.far HS.o hCa (fun b hb=> .inl (by have:=(HO6.o.block b hb).1;omega)))
         (by rw[HMB.o];exact(HRG6.o.ext ((Ext.refl _).alloc _)).kept HG9.o (fun e=>by have:=(HO6.o.block _ e.symm).1;have:=HIB.o;have:=HMB.o;omega) (fun e=>by have:=(HO6.o.block _ e.symm).1;omega))
         (by have:=HO9.o;rw[HQB.o]at this;exact this) (HC6.o.trans' hCa (fun b hb=> .inr (by have:=(HO6.o.block b hb).1;omega))) HXB.o (by rw[HFX.o];rfl) (fun u=>?_))⟩
        rw[HNX.o];exact⟨fun h=>h.2,fun h=>⟨HVP.o.1 HZ.o,h⟩⟩
       case measure=>
        have h5:=((HRG6.o.ext ((Ext.refl _).alloc _)).kept HG9.o (fun e=>by have:=(HO6.o.block _ e.symm).1;have:=HIB.o;have:=HMB.o;omega) (fun e=>by have:=(HO6.o.block _ e.symm).1;omega)).left_eq;rw[h5,<-HRG.o.left_eq];exact HRL.o
    ·obtain rfl:k=LQ:=by omega
     have i1:¬(k:Int)<(k:Int):=by omega
     go_wp2_with fail
     first
      |go_roundw
      |refine⟨?rel, ?measure⟩
     case rel=>exact⟨P1,R,_,cnt2,B,cb,qb,rfl,HQB,hid (HX.o.no HLT.o (HN2.o.ext HX2.o) (by rw[HMB.o];exact HRG.o.ext HX2.o) (HO2.o.ext HX2.o) (HC2.o.ext HX2.o) (fun u hu=>by
      obtain⟨c,g1,g2,g3,g4,g5,g6⟩:=hu;obtain⟨y,hy⟩:=List.getElem?_of_mem g1
      have hm:y∈L:=by
       rw[<-HL.o];unfold Zx;rw[if_pos (by omega)];exact zJ.2 ⟨(Qz hy).1,c,hy,qQ g2,by simpa using g3,g4⟩
      have:=HNW2.o y (by rw[Qj (by rw[HLQ.o];exact Nat.le_refl _)];exact hm) c hy;rw[g2]at this;cases this))⟩
     case measure=>
      have h5:=(HRG.o.ext HX2.o).left_eq;rw[h5,<-HRG.o.left_eq];exact HRL.o
end
end Go.Proofs.YtlmipgdnlfjpaaaGreat
