/- Lemmas of mine, merged. -/
import Derived.Test.YtlmipgdnlfjpaaaGreatSoem
import Derived.Test.YtlmipgdnlfjpaaaGreatSobm
set_option linter.unusedSimpArgs false
set_option linter.unusedVariables false
namespace Go.Proofs.YtlmipgdnlfjpaaaGreat
open Go.RowKit Go.Deco Go.Maps
def Zg (w:World)(b:Nat)(L:List Value):Prop:=(∀i v,L[i]? =some v->w.cell? ⟨b,i,none⟩=some v)/\(∀i,w.frozen? ⟨b,i,none⟩=false)/\b<w.heap.size
section
variable {w w':World}{b:Nat}{L:List Value}
theorem Zg.keep (h:Zg w b L)(hk:w'.heap[b]? =w.heap[b]?)(hs:w.heap.size<=w'.heap.size):Zg w' b L:=⟨fun i v hv=>(World.cell?_of_block hk).trans (h.1 i v hv),fun i=>(World.frozen?_of_block (a:=⟨b,i,none⟩) hk).trans (h.2.1 i),Nat.lt_of_lt_of_le h.2.2 hs⟩
theorem Zg.ext (h:Zg w b L)(he:Ext w w'):Zg w' b L:=h.keep (he.block h.2.2) he.size
theorem Zg.chg {M:Nat->Prop}(h:Zg w b L)(he:Chg M w w')(hb:¬M b):Zg w' b L:=h.keep (he.block b h.2.2 hb) he.size
theorem Zg.put (h:Zg w b L){i:Nat}(hi:i<L.length)(u:Value):Zg (w.setCell ⟨b,i,none⟩ u) b (L.set i u):=by
 refine⟨fun j v hv=>?_,fun j=>by rw[World.frozen?_setCell];exact h.2.1 j,by simpa using h.2.2⟩;by_cases e:i=j
 ·subst e;rw[List.getElem?_set_self hi]at hv;cases hv;obtain⟨o,ho⟩:∃o,L[i]? =some o:=⟨_,Qq hi⟩;have:=h.1 i o ho;simp[World.cell?_setCell_same,this]
 ·rw[List.getElem?_set_ne e]at hv;have h1:=h.1 j v hv;have e2:j≠i:=fun k=>e k.symm;simp[World.cell?_setCell_other,h1,e,e2]
theorem Zg.new (w:World)(L:List Value)(t:TypeId):Zg (w.alloc (.cells L.toArray t)) w.heap.size L:=
 ⟨fun i v hv=>by
  have h:=JF w L t i v hv;have e:(⟨w.heap.size,0,none⟩:Addr).add i=⟨w.heap.size,i,none⟩:=by unfold Addr.add;split <;> simp_all
  rwa [e]at h,fun i=>by simp[go_sem],by simp⟩
end
theorem J3 {d:Nat}{w:World}{S:Nat->Prop}{c:Con}{A B:Option Addr}{n e m f:Nat}(h:Xc d w S (.agg #[.int .i64 c.kind,.int .i64 c.a,.int .i64 c.b,.int .i64 c.off,.int .i64 c.width,.int .i64 c.type.kind,.int .i64 c.type.size,.int .i64 c.type.count,.slice A n e,.slice B m f]) c):
  VP c/\TyV d w S (.agg #[.int .i64 c.type.kind,.int .i64 c.type.size,.int .i64 c.type.count,.slice A n e,.slice B m f]) c.type:=by
 obtain⟨A',n',e',B',m',f',hv,h1,h2⟩:=h;injection hv with hv
 have:=congrArg Array.toList hv;simp at this;obtain⟨⟨rfl,rfl,rfl⟩,rfl,rfl,rfl⟩:=this;exact⟨h1,h2⟩
def ZW:List Value:=[.int .i64 0,.int .i64 0,.int .i64 0,.int .i64 0,.int .i64 0,.int .i64 0,.int .i64 0,.int .i64 0,.slice none 0 0,.slice none 0 0]
theorem Jj {w:World}{b:Nat}(h:Zg w b ZW)(c:Con)(A:Option Addr)(n e:Nat)(B:Option Addr)(m f:Nat):
  ∃W3,(((((((((w.setCell ⟨b,0,none⟩ (.int .i64 c.kind)).setCell ⟨b,1,none⟩ (.int .i64 c.a)).setCell ⟨b,2,none⟩ (.int .i64 c.b)).setCell ⟨b,3,none⟩ (.int .i64 c.off)).setCell ⟨b,4,none⟩ (.int .i64 c.width)).setCell ⟨b,5,none⟩ (.int .i64 c.type.kind)).setCell ⟨b,6,none⟩ (.int .i64 c.type.size)).setCell ⟨b,7,none⟩ (.int .i64 c.type.count)).setCell ⟨b,8,none⟩ (.slice A n e)).setCell ⟨b,9,none⟩ (.slice B m f)=W3/\
   Xj W3 b 0 c A n e B m f/\(∀k,k≠b->W3.heap[k]? =w.heap[k]?)/\W3.heap.size=w.heap.size/\∀a,Ext a w->a.heap.size<=b->Ext a W3:=by
 have h1:=(((((((((h.put (i:=0) (by decide) (.int .i64 c.kind)).put (i:=1) (by simp[ZW]) (.int .i64 c.a)).put (i:=2) (by simp[ZW]) (.int .i64 c.b)).put (i:=3) (by simp[ZW]) (.int .i64 c.off)).put (i:=4) (by simp[ZW]) (.int .i64 c.width)).put (i:=5) (by simp[ZW]) (.int .i64 c.type.kind)).put (i:=6) (by simp[ZW]) (.int .i64 c.type.size)).put (i:=7) (by simp[ZW]) (.int .i64 c.type.count)).put (i:=8) (by simp[ZW]) (.slice A n e)).put (i:=9) (by simp[ZW]) (.slice B m f);simp only[ZW,List.set_cons_zero,List.set_cons_succ]at h1;obtain⟨W3,hW3⟩:=Qg ((((((((((w.setCell ⟨b,0,none⟩ (.int .i64 c.kind)).setCell ⟨b,1,none⟩ (.int .i64 c.a)).setCell ⟨b,2,none⟩ (.int .i64 c.b)).setCell ⟨b,3,none⟩ (.int .i64 c.off)).setCell ⟨b,4,none⟩ (.int .i64 c.width)).setCell ⟨b,5,none⟩ (.int .i64 c.type.kind)).setCell ⟨b,6,none⟩ (.int .i64 c.type.size)).setCell ⟨b,7,none⟩ (.int .i64 c.type.count)).setCell ⟨b,8,none⟩ (.slice A n e)).setCell ⟨b,9,none⟩ (.slice B m f));rw[hW3]at h1;refine⟨W3,hW3, ?_,fun k hk=>?_,by rw[<-hW3];simp,fun a ha hb=>?_⟩
 ·unfold Xj;simp only[Nat.zero_add];refine⟨?_, ?_, ?_, ?_, ?_, ?_, ?_, ?_, ?_, ?_⟩ <;> exact h1.1 _ _ (by simp)
 ·rw[<-hW3]
  repeat rw[Below.heap_setCell _ _ _ _ (by exact hk)]
 ·rw[<-hW3]
  iterate 10 refine Ext.setCell ?_ (by exact hb) _
  exact ha
theorem wV {n:Int}:∀{l:List Con} {k:Nat} {c:Con},l[k]? =some c->XC n (l.take k)=0->XC n (l.take (k+1))=X5 n c/\(X5 n c≠0->XC n l=X5 n c)
 |x :: l,0,c,h,h0=>by
  simp at h;subst h;simp only[List.take_succ_cons,List.take_zero,XC];by_cases hw:X5 n x=0
  ·simp[hw]
  ·simp[hw]
 | x :: l,k+1,c,h,h0=>by
  rw[List.take_succ_cons,XC]at h0;by_cases hw:X5 n x=0
  ·rw[if_neg (by simp[hw])]at h0;have:=wV (l:=l) (by simpa using h) h0;rw[List.take_succ_cons,XC,if_neg (by simp[hw]),XC,if_neg (by simp[hw])];exact this
  ·rw[if_pos hw]at h0;exact absurd h0 hw
set_option maxRecDepth 100000 in
set_option maxHeartbeats 16000000 in
theorem oX (d:Nat) (w:World) (A:Option Addr) (m e:Nat) (l:List Con) (n:Int) (hs:Sl (Zf (tyR d)) w All (.slice A m e) l):Calls Tryz.prog 25 #[.slice A m e,.int .i64 n] w (Yx w (Xy l n)):=by
 obtain⟨z,hz⟩:=Qg (Xy l n);rw[hz];have hlen:=hs.len;obtain⟨hc1,hc2⟩:=hs.cap;unfold Xy at hz;have HZ:=hid hz;have HS:=hid hs;have HL:=hid hlen;clear hz hs hlen;unfold Yx;by_cases h1:n<0
 ·have g1:decide (n<0)=true:=Qv h1;have HCK:Hid (z=2):=hid (by rw[<-HZ.o,if_pos h1]);go_enter Tryz.func25,Tryz.ntmps25
  go_wp2
  go_ret;exact⟨by rw[HCK.o];rfl,Ext.refl w⟩
 have g1:decide (n<0)=false:=Qw h1;by_cases h2:65536<n
 ·have g2:decide (n > 65536)=true:=Qv h2;have g3:n > 65536:=h2;have HCK:Hid (z=6):=hid (by rw[<-HZ.o,if_neg h1,if_pos (.inl h2)]);go_enter Tryz.func25,Tryz.ntmps25
  go_wp2
  go_ret;exact⟨by rw[HCK.o];rfl,Ext.refl w⟩
 have g2:decide (n > 65536)=false:=Qw h2;have g3:¬n > 65536:=h2;by_cases h3:65536<(m:Int)
 ·have g4:decide ((m:Int) > 65536)=true:=Qv h3;have g5:(m:Int) > 65536:=h3;have HCK:Hid (z=6):=hid (by rw[<-HZ.o,if_neg h1,if_pos (.inr (by rw[<-HL.o];exact h3))]);go_enter Tryz.func25,Tryz.ntmps25
  go_wp2
  go_ret;exact⟨by rw[HCK.o];rfl,Ext.refl w⟩
 have g4:decide ((m:Int) > 65536)=false:=Qw h3;have g5:¬(m:Int) > 65536:=h3;have HZ2:Hid (XC n l=z):=hid (by rw[<-HZ.o,if_neg h1,if_neg (by rw[<-HL.o];omega)]);clear HZ;go_enter Tryz.func25,Tryz.ntmps25
 go_wp2
 clear h1 h2 h3 g1 g2 g3 g4 g5
 go_loopw [21] (fun i wr=>∃k:Nat,k<=m/\i= .int .i64 k/\Hid (Ext w wr)/\Hid (XC n (l.take k)=0)) (fun i _=>m - (intOf i).toNat)
 case atStart=>exact⟨0,by omega,rfl,hid (Ext.refl w),hid rfl⟩
 case round=>
  obtain⟨k,hk,rfl,HX,HF⟩:=hrel;by_cases h1:k<m
  ·obtain ⟨c,hc⟩:∃c,l[k]? =some c:=⟨_,Qq (by have:=HL.o;omega)⟩;have HFT:=hid (wV hc HF.o);obtain⟨d',bx,ox,P1,np1,cp1,P2,np2,cp2,hd,rfl,hv1,hbx, -⟩:=((HS.o.ext HX.o)).con_at hc;have HCV:=hid hv1;obtain⟨x0,x1,x2,x3,x4,x5,x6,x7,x8,x9⟩:=hbx;obtain⟨W15,hW15⟩:=Qg ((wr).alloc (.cells #[.int .i64 0,.int .i64 0,.int .i64 0,.int .i64 0,.int .i64 0,.int .i64 0,.int .i64 0,.int .i64 0,.slice none 0 0,.slice none 0 0] 48));have hB1:Zg W15 (wr).heap.size ZW:=by rw[<-hW15];exact Zg.new wr ZW _
   have hE1:Ext wr W15:=by rw[<-hW15];exact(Ext.refl _).alloc _
   obtain⟨W25,hW2,hB2,hH2,hS2,hX2⟩:=Jj hB1 c P1 np1 cp1 P2 np2 cp2;have HXC5:=hid (hX2 wr hE1 (Nat.le_refl _));have HWC5:=hid hW2;have HBC5:=hid hB2;have z0:=hB1.1 0 _ rfl;have z1:=hB1.1 1 _ rfl;have z2:=hB1.1 2 _ rfl;have z3:=hB1.1 3 _ rfl;have z4:=hB1.1 4 _ rfl;have z5:=hB1.1 5 _ rfl;have z6:=hB1.1 6 _ rfl;have z7:=hB1.1 7 _ rfl;have z8:=hB1.1 8 _ rfl;have z9:=hB1.1 9 _ rfl;have y0:=hB1.2.1 0;have y1:=hB1.2.1 1;have y2:=hB1.2.1 2;have y3:=hB1.2.1 3;have y4:=hB1.2.1 4;have y5:=hB1.2.1 5;have y6:=hB1.2.1 6;have y7:=hB1.2.1 7;have y8:=hB1.2.1 8;have y9:=hB1.2.1 9;have HCV5:=hid (HCV.o.ext HXC5.o);clear hW2 hB2 hH2 hS2 hX2 hE1 hv1 HCV hB1;obtain⟨q,hq⟩:=Qg (X5 n c);have HQF:=hid HFT.o;rw[hq]at HQF;unfold X5 at hq;have HQ:=hid hq;have HA:=hid (yb d' W25 c _ HCV5.o);have HT:=hid (fun w' (hw:Ext W25 w')=>wM d' w' c.type _ ((J3 HCV5.o).2.ext hw));clear hc hq HFT;go_upto_region 8 with fail
   rw[HWC5.o];clear z0 z1 z2 z3 z4 z5 z6 z7 z8 z9 y0 y1 y2 y3 y4 y5 y6 y7 y8 y9 x0 x1 x2 x3 x4 x5 x6 x7 x8 x9 hW15;obtain⟨c0,c1,c2,c3,c4,c5,c6,c7,c8,c9⟩:=HBC5.o;rw[Nat.zero_add]at c1 c2 c3 c4 c5 c6 c7 c8 c9;obtain⟨kd,ca,cb,off,wd,ct⟩:=c;simp only at c0 c1 c2 c3 c4 c5 c6 c7 c8 c9 HQ HA HT HCV5 HBC5 HWC5;obtain⟨y,hy⟩:=Qg (QY ⟨kd,ca,cb,off,wd,ct⟩);rw[hy]at HA HQ;clear hy;obtain⟨b1,hb1⟩:=Qg (decide ((kd<0\/4<kd)\/(y=true/\wd≠1/\wd≠2/\wd≠4)));have HB1:=hid hb1;clear hb1
   go_cut [51] from 25 to 50 (fun s51 wx=>s51= .bool b1/\Hid (Ext W25 wx))
   case rest=>
    obtain⟨rfl,HX6⟩:=hcut;obtain⟨W6,hW6⟩:∃W6,W6=wc:=⟨_,rfl⟩;obtain rfl:=hW6
    cases b1 with
    |true=>
     obtain rfl:q=2:=by rw[<-HQ.o,if_pos (of_decide_eq_true HB1.o)]
     have HCK:Hid (z=2):=hid (by rw[<-HZ2.o,HQF.o.2 (by decide)]);clear c0 c1 c2 c3 c4 c5 c6 c7 c8 c9
     go_wp2
     go_ret;exact⟨by rw[HCK.o];rfl,HX.o.trans (HXC5.o.trans HX6.o)⟩
    | false=>
     have HQ2:=hid HQ.o;rw[if_neg (of_decide_eq_false HB1.o)]at HQ2;clear HQ;have c0:=HX6.o.cell c0;have c1:=HX6.o.cell c1;have c2:=HX6.o.cell c2;have c5:=HX6.o.cell c5;have c6:=HX6.o.cell c6;have c7:=HX6.o.cell c7;have c8:=HX6.o.cell c8;have c9:=HX6.o.cell c9;clear c3 c4;obtain⟨b2,hb2⟩:=Qg (decide ((ca<0\/n<=ca)\/(kd≠1/\(cb<0\/n<=cb))));have HB2:=hid hb2;clear hb2;go_upto_region 10 with fail
     go_cut [76] from 52 to 75 (fun s76 wx=>s76= .bool b2/\Hid (Ext W6 wx))
     case rest=>
      obtain⟨rfl,HX7⟩:=hcut;obtain⟨W7,hW7⟩:∃W7,W7=wc:=⟨_,rfl⟩;obtain rfl:=hW7
      cases b2 with
      |true=>
       obtain rfl:q=7:=by rw[<-HQ2.o,if_pos (of_decide_eq_true HB2.o)]
       have HCK:Hid (z=7):=hid (by rw[<-HZ2.o,HQF.o.2 (by decide)]);clear c0 c1 c2 c5 c6 c7 c8 c9
       go_wp2
       go_ret;exact⟨by rw[HCK.o];rfl,HX.o.trans (HXC5.o.trans (HX6.o.trans HX7.o))⟩
      | false=>
       have HQ3:=hid HQ2.o;rw[if_neg (of_decide_eq_false HB2.o)]at HQ3;clear HQ2;have c0:=HX7.o.cell c0;have c5:=HX7.o.cell c5;have c6:=HX7.o.cell c6;have c7:=HX7.o.cell c7;have c8:=HX7.o.cell c8;have c9:=HX7.o.cell c9;clear c1 c2;by_cases h5:kd=1
       ·have g5:(kd == 1)=true:=by simp[h5]
        obtain rfl:Zm ct=q:=by rw[<-HQ3.o,if_pos h5]
        obtain⟨q,hq⟩:=Qg (Zm ct);rw[hq]at HT HQF;clear hq h5 HQ3
        go_wp2_with fail
        refine(HT.o _ (HX6.o.trans HX7.o)).mono ?_;rintro e w8 ⟨rfl,hx8⟩;have HX8:=hid (HX.o.trans (HXC5.o.trans (HX6.o.trans (HX7.o.trans hx8))));clear hx8 c0 c5 c6 c7 c8 c9;by_cases h6:q=0
        ·have g6:((q:Int) != 0)=false:=by simp[h6]
         subst h6
         go_wp2
         first
          |go_roundw
          |refine⟨?rel, ?measure⟩
         case rel=>exact⟨k+1,by omega,by go_num,HX8,hid HQF.o.1⟩
         case measure=>simp [intOf];omega
        ·have g6:((q:Int) != 0)=true:=by simp;omega
         have HCK:Hid (z=q):=hid (by rw[<-HZ2.o,HQF.o.2 h6]);clear h6
         go_wp2
         go_ret;exact⟨by rw[HCK.o];rfl,HX8.o⟩
       ·have g5:(kd == 1)=false:=by simp[h5]
        obtain rfl:q=0:=by rw[<-HQ3.o,if_neg h5]
        clear h5
        go_wp2
        first
         |go_roundw
         |refine⟨?rel, ?measure⟩
        case rel=>exact⟨k+1,by omega,by go_num,hid (HX.o.trans (HXC5.o.trans (HX6.o.trans HX7.o))),hid HQF.o.1⟩
        case measure=>simp [intOf];omega
     clear HQ2;have hbb:=HB2.o;clear c5 c6 c7 c8 c9 HB2;by_cases h1:ca<0
     ·skip;obtain rfl:b2=true:=by rw[<-hbb];exact Qv (.inl (.inl h1))
      clear hbb
      go_wp2
      go_meet;exact⟨rfl,hid (Ext.refl _)⟩
     by_cases h2:n<=ca
     ·have e2:ca>=n:=h2;obtain rfl:b2=true:=by rw[<-hbb];exact Qv (.inl (.inr h2))
      clear hbb
      go_wp2
      go_meet;exact⟨rfl,hid (Ext.refl _)⟩
     have e2:¬ca>=n:=h2;by_cases h3:kd=1
     ·subst h3;obtain rfl:b2=false:=by rw[<-hbb];exact Qw (by omega)
      clear hbb
      go_wp2
      go_meet;exact⟨rfl,hid (Ext.refl _)⟩
     have e3:(kd != 1)=true:=by simp[h3]
     by_cases h4:cb<0
     ·skip;obtain rfl:b2=true:=by rw[<-hbb];exact Qv (.inr ⟨h3,.inl h4⟩)
      clear hbb
      go_wp2
      go_meet;exact⟨rfl,hid (Ext.refl _)⟩
     by_cases h5:n<=cb
     ·have e5:cb>=n:=h5;obtain rfl:b2=true:=by rw[<-hbb];exact Qv (.inr ⟨h3,.inr h5⟩)
      clear hbb
      go_wp2
      go_meet;exact⟨rfl,hid (Ext.refl _)⟩
     have e5:¬cb>=n:=h5;obtain rfl:b2=false:=by rw[<-hbb];exact Qw (by omega)
     clear hbb
     go_wp2
     go_meet;exact⟨rfl,hid (Ext.refl _)⟩
   have hbb:=HB1.o;clear HQ HQF HB1;by_cases h1:kd<0
   ·skip;obtain rfl:b1=true:=by rw[<-hbb];exact Qv (.inl (.inl h1))
    clear hbb
    go_wp2
    go_meet;exact⟨rfl,hid (Ext.refl _)⟩
   by_cases h2:4<kd
   ·have e2:kd > 4:=h2;obtain rfl:b1=true:=by rw[<-hbb];exact Qv (.inl (.inr h2))
    clear hbb
    go_wp2
    go_meet;exact⟨rfl,hid (Ext.refl _)⟩
   have e2:¬kd > 4:=h2;have HHH:=hid (And.intro h1 h2)
   go_wp2_with fail
   refine HA.o.mono ?_;rintro e w6 ⟨rfl,hx6⟩;have c4:=hx6.cell c4;have HX6:=hid hx6;clear hx6 c0 c1 c2 c3 c5 c6 c7 c8 c9 h1 h2 e2
   cases y with
   |false=>
    obtain rfl:b1=false:=by rw[<-hbb];exact Qw (by have:=HHH.o;simp;omega)
    clear hbb
    go_wp2
    go_meet;exact⟨rfl,HX6⟩
   | true=>
    by_cases h3:wd=1
    ·subst h3;obtain rfl:b1=false:=by rw[<-hbb];exact Qw (by have:=HHH.o;simp;omega)
     clear hbb
     go_wp2
     go_meet;exact⟨rfl,HX6⟩
    have e3:(wd != 1)=true:=by simp[h3]
    by_cases h4:wd=2
    ·subst h4;obtain rfl:b1=false:=by rw[<-hbb];exact Qw (by have:=HHH.o;simp;omega)
     clear hbb
     go_wp2
     go_meet;exact⟨rfl,HX6⟩
    have e4:(wd != 2)=true:=by simp[h4]
    by_cases h5:wd=4
    ·subst h5;obtain rfl:b1=false:=by rw[<-hbb];exact Qw (by have:=HHH.o;simp;omega)
     clear hbb
     go_wp2
     go_meet;exact⟨rfl,HX6⟩
    have e5:(wd != 4)=true:=by simp[h5]
    obtain rfl:b1=true:=by rw[<-hbb];exact Qv (.inr ⟨rfl,h3,h4,h5⟩)
    clear hbb h3 h4 h5
    go_wp2
    go_meet;exact⟨rfl,HX6⟩
  ·obtain rfl:k=m:=by omega
   have ha:=HF.o;rw[Qj (by have:=HL.o;omega),HZ2.o]at ha;have HCK:Hid (z=0):=hid ha;clear ha
   go_wp2
   go_ret;exact⟨by rw[HCK.o];rfl,HX.o⟩
end Go.Proofs.YtlmipgdnlfjpaaaGreat
