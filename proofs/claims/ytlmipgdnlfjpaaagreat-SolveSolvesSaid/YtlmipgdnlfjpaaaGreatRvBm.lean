/- Lemmas of mine, merged. -/
import Derived.Test.YtlmipgdnlfjpaaaGreatRwam
set_option linter.unusedSimpArgs false
set_option linter.unusedVariables false
namespace Go.Proofs.YtlmipgdnlfjpaaaGreat
open Go.RowKit Go.Deco Go.Maps
set_option maxRecDepth 100000 in
set_option maxHeartbeats 4000000 in
theorem sB (d:Nat)(w:World)(A:Option Addr)(n c:Nat)(ts:List Ty)(hs:Sl (tyR d) w All (.slice A n c) ts)(hn:n<=1048576):
  Calls Tryz.prog 38 #[.slice A n c] w (nM w (.slice A n c) ts):=by
 have hlen:=hs.len;obtain⟨hc1,hc2⟩:=hs.cap;obtain⟨j0,hj,hj0,hj1,hj2⟩:=info_parts qy;obtain⟨W0,hW0⟩:=Qg ((w.alloc (.cells #[.slice none 0 0,.slice none 0 0] 34)).alloc (.cells #[.slice none 0 0,.slice none 0 0] 34));have hE0:Ext w W0:=by rw[<-hW0];exact((Ext.refl w).alloc _).alloc _
 have hR:Q5 W0 w.heap.size (.slice none 0 0) (.slice none 0 0):=by rw[<-hW0];exact(Q5.new w _ _ _).ext ((Ext.refl _).alloc _)
 have hP:Q5 W0 (w.heap.size+1) (.slice none 0 0) (.slice none 0 0):=by
  rw[<-hW0];have:=Q5.new (w.alloc (.cells #[.slice none 0 0,.slice none 0 0] 34)) (.slice none 0 0) (.slice none 0 0) 34
  rwa [show(w.alloc (.cells #[.slice none 0 0,.slice none 0 0] 34)).heap.size=w.heap.size+1 by simp]at this
 obtain⟨W1,hW1,hP1,hH1,hS1,hX1⟩:=Vq hP (.slice A n c) (.slice none 0 0);have HX1:=hid (hX1 w hE0 (by omega));have HW1:=hid hW1;have HP1:=hid hP1;have HR1:=hid (hR.block (hH1 w.heap.size (by omega)));have HS:=hid hs;have HL:=hid hlen;have HJ:=hid hj;have HJ0:=hid hj0;have HJ1:=hid hj1;have HJ2:=hid hj2;obtain⟨z0,z1,zf⟩:=hP;have y0:=zf 0;have y1:=zf 1;clear hE0 hR hW1 hP1 hH1 hS1 hX1 hs hlen hj hj0 hj1 hj2 zf;go_enter Tryz.func38,Tryz.ntmps38;go_upto_region 2 with fail
 rw[HW1.o];clear z0 z1 y0 y1 hW0
 go_wp2
 go_loopw [4] (fun i wr=>∃(k q:Nat) (B:Option Addr) (cb:Nat),k<=n/\i= .int .i64 k/\q<=k/\Hid ((ZZ (ts.take k)).length=q)/\Hid (Qf QF wr (w.heap.size+2) 3 All (.slice B q cb) (ZZ (ts.take k)))/\Hid (Ext w wr)/\Hid (Q5 wr w.heap.size (.slice none 0 0) (.slice none 0 0))/\Hid (Q5 wr (w.heap.size+1) (.slice A n c) (.slice B q cb))) (fun i _=>n - (intOf i).toNat)
 case atStart=>exact⟨0,0,none,0,by omega,rfl,by omega,hid rfl,hid Qf.nil,HX1,HR1,HP1⟩
 case round=>
  obtain⟨k,q,B,cb,hk,rfl,hq,HQ,HO,HX,HR,HP⟩:=hrel;have HG:Hid (∀g,(Value.slice B q cb).ownBlock=some g->w.heap.size+2<=g):=hid (fun g hg=>(HO.o.block g hg).1);by_cases h1:k<n
  ·obtain⟨x,hx⟩:∃x,ts[k]? =some x:=⟨_,Qq (by have:=HL.o;omega)⟩;obtain⟨d1,bx,ox,P1,np1,cp1,P2,np2,cp2,hd,rfl,hv1,x0,x1,x2,x3,x4⟩:=(HS.o.ext HX.o).ty_at hx;have HBT:=hid (uF hx);have i1:(k:Int)<(n:Int):=by omega
   clear hd hv1 hx x1 x2 x3 x4;by_cases h2:x.kind=6
   ·have g2:(x.kind == 6)=true:=by simp[h2]
    rw[if_pos h2]at HBT;clear h2;obtain⟨p0,p1,pf⟩:=HP.o;have pf1:=pf 1
    go_wp2_with (first
     |(at_builtin;refine zq rfl (.tmp 20) (.tmp 22) 26 rfl (w.heap.size+2) 3 j0 _ 1 8 Tryz.underlying26 HJ.o HJ0.o HJ1.o HJ2.o rfl QF rfl (.slice B q cb) (ZZ (ts.take k)) rfl HO.o wr.heap.size rfl k rfl ⟨rfl,by omega⟩ (by have:=HQ.o;omega) (by have:=HQ.o;omega) (by have:=HP.o.lt;omega) ?_;intro A5 c5 w5 hown5 hg5 hl5;have HO5:=hid hown5;have HG5:=hid hg5;have HL5:=hid hl5;have HR5:=hid (kj HR.o hg5 HG.o (by omega));have HP5:=hid (kj HP.o hg5 HG.o (by omega));clear hown5 hg5 hl5 p0 p1 pf pf1 x0;obtain⟨p0,p1,pf⟩:=HP5.o;have pf1:=pf 1)
     |fail)
    have HX5:=hid ((HX.o.alloc (.cells #[.int .i64 (k:Int)] 3)).grown HG5.o (fun g hg=>by have:=HG.o g hg;omega))
    first
     |go_roundw
     |refine⟨?rel, ?measure⟩
    case rel=>
     have hl:(ZZ (ts.take k)).length=q:=HQ.o;have ho:=HO5.o;have hL5:=HL5.o;rw[hl]at ho hL5 ⊢;refine⟨k+1,q+1,A5,c5,by omega,by go_num,by omega,hid (by rw[HBT.o];simp[hl]),hid ?_,hid (HX5.o.setCell (p:=⟨w.heap.size+1,1,none⟩) (Nat.le_succ _) _),hid (HR5.o.far (by simp)),hid (HP5.o.put1 _)⟩;rw[HBT.o]
     exact ff ho (fun e=>by
      rcases hL5 _ e with h|h
      ·have h1:w.heap.size+2<=w.heap.size+1:=HG.o _ h;omega
      ·have h1:wr.heap.size<w.heap.size+1:=h;have:=HP.o.lt;omega)
    case measure=>simp [intOf];omega
   ·have g2:(x.kind == 6)=false:=by simp[h2]
    rw[if_neg h2,List.append_nil]at HBT;clear h2
    go_wp2
    first
     |go_roundw
     |refine⟨?rel, ?measure⟩
    case rel=>exact⟨k+1,q,B,cb,by omega,by go_num,by omega,hid (by rw[HBT.o];exact HQ.o),hid (by rw[HBT.o];exact HO.o),HX,HR,HP⟩
    case measure=>simp [intOf];omega
  ·obtain rfl:k=n:=by omega
   have i1:¬(k:Int)<(k:Int):=by omega
   have hl:(ZZ (ts.take k)).length=q:=HQ.o;have ht:ts.take k=ts:=Qj (by have:=HL.o;omega);rw[ht]at hl HO;subst hl;have HSL:=hid (HO.o.num_sl (S:=fun b=>w.heap.size+2<=b) (fun _ h=>h));obtain⟨r0,r1,rf⟩:=HR.o;have u0:=rf 0;have u1:=rf 1;obtain⟨p0,p1, -⟩:=HP.o;obtain⟨W3,hW3,hB3,hH3,hS3,hX3⟩:=Vq HR.o (.slice A k c) (.slice B (ZZ ts).length cb);obtain⟨t0,t1, -⟩:=hB3;have HW3:=hid hW3;have HX3:=hid (hX3 w HX.o (Nat.le_refl _));have HH3:=hid hH3;clear hW3 hH3 hX3 hS3 rf
   go_wp2
   rw[HW3.o];clear r0 r1;refine bodyPost_ret (v:= .agg #[.slice A k c,.slice B (ZZ ts).length cb]) (by simp[results,Tryz.results38,go_sem,t0,t1]) rfl ?_;exact⟨_,_,rfl,(HSL.o.keep fun b hb _=>HH3.o b (by have hb':w.heap.size+2<=b:=hb;omega)).mono fun b hb _=>by have hb':w.heap.size+2<=b:=hb;show w.heap.size<=b;omega,HX3.o⟩
end Go.Proofs.YtlmipgdnlfjpaaaGreat
