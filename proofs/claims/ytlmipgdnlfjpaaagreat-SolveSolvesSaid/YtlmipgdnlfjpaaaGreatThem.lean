/- Lemmas of mine, merged. -/
import Derived.Test.YtlmipgdnlfjpaaaGreatTham
import Derived.Test.YtlmipgdnlfjpaaaGreatThDm
set_option maxRecDepth 100000
set_option maxHeartbeats 8000000
set_option linter.unusedSimpArgs false
set_option linter.unusedVariables false
namespace Go.Proofs.YtlmipgdnlfjpaaaGreat
open Go.RowKit Go.Deco Go.Maps
theorem GM {l:List Con}{n:Int}(h:l.length<=16/\∀c∈l,Q0 c.type 64=true->QV c.type<=40)(h0:Xy l n=0):K5 l<=1000000000:=by
 have hok:=(vP.1 h0).2.2.2;have:=dF (l:=l) (B:=40) fun c hc hk=>h.2 c hc (VJ.1 ((hok c hc).t hk)).1;have:=h.1;omega
theorem rF {d d':Nat}(hd:d<=d'){w:World}{S:Nat->Prop}{v:Value}{l:List Ty}(h:Sl (tyR d) w S v l):Sl (tyR d') w S v l:=
 Sl.up (by rw[ZY,ZY]) (Km hd) h
theorem eX (w:World)(A B:Option Addr)(n c m e:Nat):
  Calls Tryz.prog 12 #[.agg #[.slice A n c,.slice B m e]] w (fun x w'=>x= .returned (.agg #[.slice A n c,.slice B m e])/\Ext w w'):=by
 obtain⟨W0,hW0⟩:=Qg ((w.alloc (.cells #[.slice A n c,.slice B m e] 28)).alloc (.cells #[.slice none 0 0,.slice none 0 0] 34));have hE0:Ext w W0:=by rw[<-hW0];exact((Ext.refl w).alloc _).alloc _
 have hP:Q5 W0 w.heap.size (.slice A n c) (.slice B m e):=by rw[<-hW0];exact(Q5.new w _ _ _).ext ((Ext.refl _).alloc _)
 have hR:Q5 W0 (w.heap.size+1) (.slice none 0 0) (.slice none 0 0):=by
  rw[<-hW0];have:=Q5.new (w.alloc (.cells #[.slice A n c,.slice B m e] 28)) (.slice none 0 0) (.slice none 0 0) 34
  rwa [show(w.alloc (.cells #[.slice A n c,.slice B m e] 28)).heap.size=w.heap.size+1 by simp]at this
 obtain⟨W1,hW1,hB1,hH1,hS1,hX1⟩:=Vq hR (.slice A n c) (.slice B m e);have HX1:=hid (hX1 w hE0 (by omega));have HW1:=hid hW1;obtain⟨t0,t1, -⟩:=hB1;obtain⟨p0,p1, -⟩:=hP;obtain⟨r0,r1,rf⟩:=hR;have f0:=rf 0;have f1:=rf 1;clear hE0 hW1 hH1 hS1 hX1 rf;go_enter Tryz.func12,Tryz.ntmps12
 go_wp2
 rw[HW1.o];clear r0 r1 p0 p1 hW0;refine bodyPost_ret (v:= .agg #[.slice A n c,.slice B m e]) (by simp[results,Tryz.results12,go_sem,t0,t1]) rfl ?_;exact⟨rfl,HX1.o⟩
theorem lJ (d:Nat)(w:World)(A1 B1 A2 B2:Option Addr)(n1 c1 m1 e1 n2 c2 m2 e2:Nat)(a b:List Ty)(x y:List Nat)
  (ha:Sl (tyR d) w All (.slice A1 n1 c1) a) (hb:Sl (tyR d) w All (.slice A2 n2 c2) b) (hx:Sl QF w All (.slice B1 m1 e1) x) (hy:Sl QF w All (.slice B2 m2 e2) y):
  Calls Tryz.prog 11 #[.agg #[.slice A1 n1 c1,.slice B1 m1 e1],.agg #[.slice A2 n2 c2,.slice B2 m2 e2]] w (ZX w (decide (a=b) && decide (x=y))):=by
 obtain⟨W0,hW0⟩:=Qg ((w.alloc (.cells #[.slice A1 n1 c1,.slice B1 m1 e1] 34)).alloc (.cells #[.slice A2 n2 c2,.slice B2 m2 e2] 34));have hE0:Ext w W0:=by rw[<-hW0];exact((Ext.refl w).alloc _).alloc _
 have hP:Q5 W0 w.heap.size (.slice A1 n1 c1) (.slice B1 m1 e1):=by rw[<-hW0];exact(Q5.new w _ _ _).ext ((Ext.refl _).alloc _)
 have hQ:Q5 W0 (w.heap.size+1) (.slice A2 n2 c2) (.slice B2 m2 e2):=by
  rw[<-hW0];have:=Q5.new (w.alloc (.cells #[.slice A1 n1 c1,.slice B1 m1 e1] 34)) (.slice A2 n2 c2) (.slice B2 m2 e2) 34
  rwa [show(w.alloc (.cells #[.slice A1 n1 c1,.slice B1 m1 e1] 34)).heap.size=w.heap.size+1 by simp]at this
 obtain⟨z,hz⟩:=Qg ((decide (a=b) && decide (x=y)));rw[hz];obtain⟨q,hq⟩:=Qg (decide (x=y));rw[hq]at hz;have HZ:=hid hz;have HQQ:=hid hq;have hla:=ha.len;have hlb:=hb.len;have hcp:=ha.cap;have HA:=hid (ha.ext hE0);have HB:=hid (hb.ext hE0);have HLA:=hid hla;have HLB:=hid hlb;have HIN:=hid (cq W0 B1 B2 m1 e1 m2 e2 x y (hx.ext hE0) (hy.ext hE0));rw[hq]at HIN;have HE0:=hid hE0;have hnm:n1<=9223372036854775807:=by have:=hcp.1;have:=hcp.2;omega
 obtain⟨p0,p1, -⟩:=hP;obtain⟨r0,r1, -⟩:=hQ;have HP0:=hid p0;have HR0:=hid r0;clear ha hb hx hy hz hq hla hlb hcp hE0;go_enter Tryz.func11,Tryz.ntmps11;by_cases h1:n1=n2
 case neg=>
  have g1:((n1:Int) != (n2:Int))=true:=by simp;omega
  obtain rfl:z=false:=by rw[<-HZ.o,Qw (show ¬a=b by intro h;exact h1 (by rw[HLA.o,HLB.o,h]))];rfl
  clear h1
  go_wp2
  go_ret;exact⟨rfl,HE0.o⟩
 subst h1;have g1:((n1:Int) != (n1:Int))=false:=by simp
 go_wp2_with fail
 refine HIN.o.mono ?_;rintro e w1 ⟨rfl,hx1⟩;have HX1:=hid hx1;clear hx1 p0 p1 r0 r1;cases q
 case false=>
  obtain rfl:z=false:=by rw[<-HZ.o,Bool.and_false]
  go_wp2
  go_ret;exact⟨rfl,HE0.o.trans HX1.o⟩
 have HZ2:Hid (decide (a=b)=z):=hid (by rw[<-HZ.o,Bool.and_true]);clear g1 hW0
 go_wp2
 go_loopw [5] (fun i wr=>∃j:Nat,j<=n1/\i= .int .i64 j/\Hid (Ext W0 wr)/\Hid (a.take j=b.take j)) (fun i _=>n1 - (intOf i).toNat)
 case atStart=>exact⟨0,by omega,rfl,HX1,hid rfl⟩
 case round=>
  obtain⟨j,hj,rfl,HX,HT⟩:=hrel;obtain⟨V,hV⟩:∃V,V=wr:=⟨_,rfl⟩;obtain rfl:=hV;have p0:=HX.o.cell HP0.o;have r0:=HX.o.cell HR0.o;by_cases h1:j<n1
  ·obtain⟨s,hs⟩:∃s,a[j]? =some s:=⟨_,Qq (by have:=HLA.o;omega)⟩;obtain⟨t,ht⟩:∃t,b[j]? =some t:=⟨_,Qq (by have:=HLB.o;omega)⟩;obtain⟨d1,bx,ox,P1,np1,cp1,P2,np2,cp2,hd1,rfl,hv1,x0,x1,x2,x3,x4⟩:=(HA.o.ext HX.o).ty_at hs;obtain⟨d2,by',oy,Q1,nq1,cq1,Q2,nq2,cq2,hd2,rfl,hv2,y0,y1,y2,y3,y4⟩:=(HB.o.ext HX.o).ty_at ht;obtain rfl:d1=d2:=by omega
   have HSS:=hid hs;have HTT:=hid ht;have HSM:=hid (fun(w':World) (hx:Ext V w')=>jx d1 w' s t _ _ (hv1.ext hx) (hv2.ext hx));obtain⟨g,hg⟩:=Qg (ZC s t);rw[hg]at HSM;have HG:=hid hg;have HSK:=hid (Ext.hc12 p0 r0 x0 x1 x2 x3 x4 y0 y1 y2 y3 y4);have i1:(j:Int)<(n1:Int):=by omega
   clear hs ht hd1 hd2 hv1 hv2 x0 x1 x2 x3 x4 y0 y1 y2 y3 y4 hg r0;go_upto_region 6 with fail
   clear p0;have HXg1q_0:=hid ((Ext.refl V).drew);refine rgH HSK.o (Ext.refl _).drew (fun hSg1q0=>?_);refine Qp 0 1 2 3 4 5 ?_;refine QB 6 7 8 9 ?_;refine wpAnyH_ready (rs:=[10]) (by kernel_rfl) (by simp) ?_;refine(AllReadyH.consL rfl (fun K hK=>?g1qb10x11) AllReadyH.nil)
   case' g1qb10x11=>
    go_simp;go_at_call 17;refine(HSM.o _ HXg1q_0.o).mono ?_;rintro e w5 ⟨rfl,hEg1q1⟩;have HXg1q_1:=hid (HXg1q_0.o.trans hEg1q1);clear hEg1q1;refine rgK hK (HSK.o _ HXg1q_1.o) (fun hSg1q1=>?_);clear hK K;refine rgT 11 ?_;refine wpAnyH_done (by kernel_rfl) ?_ _;cases g
    ·obtain rfl:z=false:=by
      rw[<-HZ2.o];refine Qw (fun e=>?_);have h5:=HSS.o;rw[e,HTT.o]at h5;cases h5;have h6:=HG.o;rw[ug]at h6;cases h6
     go_wp2
     go_ret;exact⟨rfl,HE0.o.trans (HX.o.trans HXg1q_1.o)⟩
    ·have hst:s=t:=(Vp s t).1 HG.o;have HST:=hid hst;clear hst
     go_wp2
     first
      |go_roundw
      |refine⟨?rel, ?measure⟩
     case rel=>exact⟨j+1,by omega,by go_num,hid (HX.o.trans HXg1q_1.o),hid (by rw[List.take_add_one,List.take_add_one,HSS.o,HTT.o,HT.o,HST.o])⟩
     case measure=>simp [intOf];omega
  ·obtain rfl:j=n1:=by omega
   have i1:¬(j:Int)<(j:Int):=by omega
   obtain rfl:z=true:=by
    rw[<-HZ2.o];have h5:=HT.o;rw[Qj (by have:=HLA.o;omega),Qj (by have:=HLB.o;omega)]at h5;exact Qv h5
   clear h1
   go_wp2
   go_ret;exact⟨rfl,HE0.o.trans HX.o⟩
end Go.Proofs.YtlmipgdnlfjpaaaGreat
