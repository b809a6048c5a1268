/- Lemmas of mine, merged. -/
import Derived.Test.YtlmipgdnlfjpaaaGreatRtcm
import Derived.Test.YtlmipgdnlfjpaaaGreatThem
import Derived.Test.YtlmipgdnlfjpaaaGreatPlam
set_option maxRecDepth 100000
set_option maxHeartbeats 8000000
set_option linter.unusedSimpArgs false
set_option linter.unusedVariables false
namespace Go.Proofs.YtlmipgdnlfjpaaaGreat
open Go.RowKit Go.Deco
def F3 (d:Nat)(wo w:World)(t:Ty)(e:Ending)(w':World):Prop:=∃v,e= .returned v/\TyV d wo All v t/\Ext w w'
open Go.Maps
def FD (l:List Ty)(w:World)(e:Ending)(w':World):Prop:=∃b:Bool,e= .returned (.bool b)/\Ext w w'/\(b=true->l.length<=16)
end Go.Proofs.YtlmipgdnlfjpaaaGreat
namespace Go.Proofs.YtlmipgdnlfjpaaaGreat
open Go.RowKit Go.Deco
theorem qj (d:Nat)(w:World)(c:Con)(v:Value)(hv:Xc d w All v c):Calls Tryz.prog 59 #[v] w (ZX w (QY c)):=by
 obtain⟨A,n,e,B,m,f,rfl,hcb,hct⟩:=hv;obtain⟨W0,hW0⟩:=Qg (w.alloc (.cells #[.int .i64 c.kind,.int .i64 c.a,.int .i64 c.b,.int .i64 c.off,.int .i64 c.width,.int .i64 c.type.kind,.int .i64 c.type.size,.int .i64 c.type.count,.slice A n e,.slice B m f] 44));have hE0:Ext w W0:=by rw[<-hW0];exact(Ext.refl w).alloc _
 have hP:Xj W0 w.heap.size 0 c A n e B m f:=by rw[<-hW0];exact Xj.new w c A n e B m f _
 obtain⟨p0,p1,p2,p3,p4,p5,p6,p7,p8,p9⟩:=hP;rw[Nat.zero_add]at p1 p2 p3 p4 p5 p6 p7 p8 p9;have HE0:=hid hE0;clear hcb hE0;clear hct;obtain⟨z,hz⟩:=Qg (QY c);rw[hz];unfold QY at hz;have HZ:=hid hz;clear hz;obtain⟨k,a,b,o,wd,t⟩:=c;simp only at p0 p1 p2 p3 p4 p5 p6 p7 p8 p9 HZ hW0 ⊢;by_cases h1:k=2
 ·have g1:(k == 2)=true:=by simp[h1]
  obtain rfl:z=true:=by rw[<-HZ.o];exact Qv (.inl h1)
  clear h1;go_enter Tryz.func59,Tryz.ntmps59
  go_wp2
  go_ret;exact⟨rfl,HE0.o⟩
 have g1:(k == 2)=false:=by simp[h1]
 by_cases h2:k=3
 ·have g2:(k == 3)=true:=by simp[h2]
  obtain rfl:z=true:=by rw[<-HZ.o];exact Qv (.inr h2)
  clear h1 h2;go_enter Tryz.func59,Tryz.ntmps59
  go_wp2
  go_ret;exact⟨rfl,HE0.o⟩
 have g2:(k == 3)=false:=by simp[h2]
 obtain rfl:z=false:=by rw[<-HZ.o];exact Qw (by simp[h1,h2])
 clear h1 h2;go_enter Tryz.func59,Tryz.ntmps59
 go_wp2
 go_ret;exact⟨rfl,HE0.o⟩
theorem Yp (d:Nat)(w:World)(c:Con)(v:Value)(hv:Xc d w All v c):Calls Tryz.prog 58 #[v] w (ZX w (QQ c)):=by
 have HV:=hid hv;obtain⟨A,n,e,B,m,f,rfl,hcb,hct⟩:=hv;obtain⟨W0,hW0⟩:=Qg (w.alloc (.cells #[.int .i64 c.kind,.int .i64 c.a,.int .i64 c.b,.int .i64 c.off,.int .i64 c.width,.int .i64 c.type.kind,.int .i64 c.type.size,.int .i64 c.type.count,.slice A n e,.slice B m f] 44));have hE0:Ext w W0:=by rw[<-hW0];exact(Ext.refl w).alloc _
 have hP:Xj W0 w.heap.size 0 c A n e B m f:=by rw[<-hW0];exact Xj.new w c A n e B m f _
 obtain⟨p0,p1,p2,p3,p4,p5,p6,p7,p8,p9⟩:=hP;rw[Nat.zero_add]at p1 p2 p3 p4 p5 p6 p7 p8 p9;have HE0:=hid hE0;clear hcb hE0;clear hct;have HC:=hid (qj d W0 c _ (HV.o.ext HE0.o));obtain⟨z,hz⟩:=Qg (QQ c);rw[hz];unfold QQ at hz;obtain⟨y,hy⟩:=Qg (QY c);rw[hy]at hz HC;have HZ:=hid hz;clear hz hy HV;obtain⟨k,a,b,o,wd,t⟩:=c;simp only at p0 p1 p2 p3 p4 p5 p6 p7 p8 p9 HZ hW0 HC ⊢;go_enter Tryz.func58,Tryz.ntmps58
 go_wp2_with fail
 refine HC.o.mono ?_;rintro e w1 ⟨rfl,hx1⟩;have HX1:=hid (HE0.o.trans hx1);have p4:=hx1.cell p4;clear hx1 hW0 p0 p1 p2 p3 p5 p6 p7 p8 p9
 cases y with
 |false=>
  obtain rfl:z=false:=by rw[<-HZ.o];rfl
  go_wp2
  go_ret;exact⟨rfl,HX1.o⟩
 | true=>
  by_cases h1:wd=4
  ·have g1:(wd == 4)=true:=by simp[h1]
   obtain rfl:z=true:=by rw[<-HZ.o,Qv h1];rfl
   clear h1
   go_wp2
   go_ret;exact⟨rfl,HX1.o⟩
  ·have g1:(wd == 4)=false:=by simp[h1]
   obtain rfl:z=false:=by rw[<-HZ.o,Qw h1];rfl
   clear h1
   go_wp2
   go_ret;exact⟨rfl,HX1.o⟩
theorem tF (d:Nat)(w:World)(c:Con)(v:Value)(vars:Int)(hv:Xc d w All v c):Calls Tryz.prog 56 #[v,.int .i64 vars] w (Yx w (X5 vars c)):=by
 have HV:=hid hv;obtain⟨A,n,e,B,m,f,rfl,hcb,hct⟩:=hv;obtain⟨W0,hW0⟩:=Qg (w.alloc (.cells #[.int .i64 c.kind,.int .i64 c.a,.int .i64 c.b,.int .i64 c.off,.int .i64 c.width,.int .i64 c.type.kind,.int .i64 c.type.size,.int .i64 c.type.count,.slice A n e,.slice B m f] 44));have hE0:Ext w W0:=by rw[<-hW0];exact(Ext.refl w).alloc _
 have hP:Xj W0 w.heap.size 0 c A n e B m f:=by rw[<-hW0];exact Xj.new w c A n e B m f _
 obtain⟨p0,p1,p2,p3,p4,p5,p6,p7,p8,p9⟩:=hP;rw[Nat.zero_add]at p1 p2 p3 p4 p5 p6 p7 p8 p9;have HE0:=hid hE0;clear hcb hE0;have HCV:=hid (HV.o.ext HE0.o);have HA:=hid (qj d W0 c _ HCV.o);have HT:=hid (fun w' (hw:Ext W0 w')=>zk d w' c.type _ ((J3 HCV.o).2.ext hw));obtain⟨q,hq⟩:=Qg (X5 vars c);unfold Yx;rw[hq];unfold X5 at hq;have HQ:=hid hq;clear hq hct HV HCV;obtain⟨kd,ca,cb,off,wd,ct⟩:=c;simp only at p0 p1 p2 p3 p4 p5 p6 p7 p8 p9 HQ HA HT hW0 ⊢;obtain⟨y,hy⟩:=Qg (QY ⟨kd,ca,cb,off,wd,ct⟩);rw[hy]at HA HQ;clear hy;obtain⟨b1,hb1⟩:=Qg (decide ((kd<0\/4<kd)\/(y=true/\wd≠1/\wd≠2/\wd≠4)));have HB1:=hid hb1;clear hb1;go_enter Tryz.func56,Tryz.ntmps56;go_upto_region 1 with fail
 clear hW0
 go_cut [31] from 5 to 30 (fun s31 wx=>s31= .bool b1/\Hid (Ext W0 wx))
 case rest=>
  obtain⟨rfl,HX6⟩:=hcut;obtain⟨W6,hW6⟩:∃W6,W6=wc:=⟨_,rfl⟩;obtain rfl:=hW6
  cases b1 with
  |true=>
   obtain rfl:q=2:=by rw[<-HQ.o,if_pos (of_decide_eq_true HB1.o)]
   clear p0 p1 p2 p3 p4 p5 p6 p7 p8 p9
   go_wp2
   go_ret;exact⟨rfl,HE0.o.trans HX6.o⟩
  | false=>
   have HQ2:=hid HQ.o;rw[if_neg (of_decide_eq_false HB1.o)]at HQ2;clear HQ;have p0:=HX6.o.cell p0;have p1:=HX6.o.cell p1;have p2:=HX6.o.cell p2;have p5:=HX6.o.cell p5;have p6:=HX6.o.cell p6;have p7:=HX6.o.cell p7;have p8:=HX6.o.cell p8;have p9:=HX6.o.cell p9;clear p3 p4;obtain⟨b2,hb2⟩:=Qg (decide ((ca<0\/vars<=ca)\/(kd≠1/\(cb<0\/vars<=cb))));have HB2:=hid hb2;clear hb2;go_upto_region 3 with fail
   go_cut [56] from 32 to 55 (fun s56 wx=>s56= .bool b2/\Hid (Ext W6 wx))
   case rest=>
    obtain⟨rfl,HX7⟩:=hcut;obtain⟨W7,hW7⟩:∃W7,W7=wc:=⟨_,rfl⟩;obtain rfl:=hW7
    cases b2 with
    |true=>
     obtain rfl:q=7:=by rw[<-HQ2.o,if_pos (of_decide_eq_true HB2.o)]
     clear p0 p1 p2 p5 p6 p7 p8 p9
     go_wp2
     go_ret;exact⟨rfl,HE0.o.trans (HX6.o.trans HX7.o)⟩
    | false=>
     have HQ3:=hid HQ2.o;rw[if_neg (of_decide_eq_false HB2.o)]at HQ3;clear HQ2;have p0:=HX7.o.cell p0;have p5:=HX7.o.cell p5;have p6:=HX7.o.cell p6;have p7:=HX7.o.cell p7;have p8:=HX7.o.cell p8;have p9:=HX7.o.cell p9;clear p1 p2;by_cases h5:kd=1
     ·have g5:(kd == 1)=true:=by simp[h5]
      obtain rfl:Zm ct=q:=by rw[<-HQ3.o,if_pos h5]
      clear h5 HQ3
      go_wp2_with fail
      refine(HT.o _ (HX6.o.trans HX7.o)).mono ?_;rintro e w8 ⟨rfl,hx8⟩;have HX8:=hid (HE0.o.trans (HX6.o.trans (HX7.o.trans hx8)));clear hx8 p0 p5 p6 p7 p8 p9
      go_wp2
      go_ret;exact⟨rfl,HX8.o⟩
     ·have g5:(kd == 1)=false:=by simp[h5]
      obtain rfl:q=0:=by rw[<-HQ3.o,if_neg h5]
      clear h5 p5 p6 p7 p8 p9
      go_wp2
      go_ret;exact⟨rfl,HE0.o.trans (HX6.o.trans HX7.o)⟩
   clear HQ2;have hbb:=HB2.o;clear p5 p6 p7 p8 p9 HB2;by_cases h1:ca<0
   ·skip;obtain rfl:b2=true:=by rw[<-hbb];exact Qv (.inl (.inl h1))
    clear hbb
    go_wp2
    go_meet;exact⟨rfl,hid (Ext.refl _)⟩
   by_cases h2:vars<=ca
   ·have e2:ca>=vars:=h2;obtain rfl:b2=true:=by rw[<-hbb];exact Qv (.inl (.inr h2))
    clear hbb
    go_wp2
    go_meet;exact⟨rfl,hid (Ext.refl _)⟩
   have e2:¬ca>=vars:=h2;by_cases h3:kd=1
   ·subst h3;obtain rfl:b2=false:=by rw[<-hbb];exact Qw (by omega)
    clear hbb
    go_wp2
    go_meet;exact⟨rfl,hid (Ext.refl _)⟩
   have e3:(kd != 1)=true:=by simp[h3]
   by_cases h4:cb<0
   ·skip;obtain rfl:b2=true:=by rw[<-hbb];exact Qv (.inr ⟨h3,.inl h4⟩)
    clear hbb
    go_wp2
    go_meet;exact⟨rfl,hid (Ext.refl _)⟩
   by_cases h5:vars<=cb
   ·have e5:cb>=vars:=h5;obtain rfl:b2=true:=by rw[<-hbb];exact Qv (.inr ⟨h3,.inr h5⟩)
    clear hbb
    go_wp2
    go_meet;exact⟨rfl,hid (Ext.refl _)⟩
   have e5:¬cb>=vars:=h5;obtain rfl:b2=false:=by rw[<-hbb];exact Qw (by omega)
   clear hbb
   go_wp2
   go_meet;exact⟨rfl,hid (Ext.refl _)⟩
 have hbb:=HB1.o;clear HQ HB1;by_cases h1:kd<0
 ·skip;obtain rfl:b1=true:=by rw[<-hbb];exact Qv (.inl (.inl h1))
  clear hbb
  go_wp2
  go_meet;exact⟨rfl,hid (Ext.refl _)⟩
 by_cases h2:4<kd
 ·have e2:kd > 4:=h2;obtain rfl:b1=true:=by rw[<-hbb];exact Qv (.inl (.inr h2))
  clear hbb
  go_wp2
  go_meet;exact⟨rfl,hid (Ext.refl _)⟩
 have e2:¬kd > 4:=h2;have HHH:=hid (And.intro h1 h2)
 go_wp2_with fail
 refine HA.o.mono ?_;rintro e w6 ⟨rfl,hx6⟩;have p4:=hx6.cell p4;have HX6:=hid hx6;clear hx6 p0 p1 p2 p3 p5 p6 p7 p8 p9 h1 h2 e2
 cases y with
 |false=>
  obtain rfl:b1=false:=by rw[<-hbb];exact Qw (by have:=HHH.o;simp;omega)
  clear hbb
  go_wp2
  go_meet;exact⟨rfl,HX6⟩
 | true=>
  by_cases h3:wd=1
  ·subst h3;obtain rfl:b1=false:=by rw[<-hbb];exact Qw (by have:=HHH.o;simp;omega)
   clear hbb
   go_wp2
   go_meet;exact⟨rfl,HX6⟩
  have e3:(wd != 1)=true:=by simp[h3]
  by_cases h4:wd=2
  ·subst h4;obtain rfl:b1=false:=by rw[<-hbb];exact Qw (by have:=HHH.o;simp;omega)
   clear hbb
   go_wp2
   go_meet;exact⟨rfl,HX6⟩
  have e4:(wd != 2)=true:=by simp[h4]
  by_cases h5:wd=4
  ·subst h5;obtain rfl:b1=false:=by rw[<-hbb];exact Qw (by have:=HHH.o;simp;omega)
   clear hbb
   go_wp2
   go_meet;exact⟨rfl,HX6⟩
  have e5:(wd != 4)=true:=by simp[h5]
  obtain rfl:b1=true:=by rw[<-hbb];exact Qv (.inr ⟨rfl,h3,h4,h5⟩)
  clear hbb h3 h4 h5
  go_wp2
  go_meet;exact⟨rfl,HX6⟩
theorem tv (d:Nat)(w:World)(A:Option Addr)(m e:Nat)(l:List Con)(n:Int)(hs:Sl (Zf (tyR d)) w All (.slice A m e) l):Calls Tryz.prog 33 #[.slice A m e,.int .i64 n] w (Yx w (Xy l n)):=by
 obtain⟨z,hz⟩:=Qg (Xy l n);rw[hz];have hlen:=hs.len;obtain⟨hc1,hc2⟩:=hs.cap;unfold Xy at hz;have HZ:=hid hz;have HS:=hid hs;have HL:=hid hlen;clear hz hs hlen;unfold Yx;by_cases h1:n<0
 ·have g1:decide (n<0)=true:=Qv h1;have HCK:Hid (z=2):=hid (by rw[<-HZ.o,if_pos h1]);go_enter Tryz.func33,Tryz.ntmps33
  go_wp2
  go_ret;exact⟨by rw[HCK.o];rfl,Ext.refl w⟩
 have g1:decide (n<0)=false:=Qw h1;by_cases h2:65536<n
 ·have g2:decide (n > 65536)=true:=Qv h2;have g3:n > 65536:=h2;have HCK:Hid (z=6):=hid (by rw[<-HZ.o,if_neg h1,if_pos (.inl h2)]);go_enter Tryz.func33,Tryz.ntmps33
  go_wp2
  go_ret;exact⟨by rw[HCK.o];rfl,Ext.refl w⟩
 have g2:decide (n > 65536)=false:=Qw h2;have g3:¬n > 65536:=h2;by_cases h3:65536<(m:Int)
 ·have g4:decide ((m:Int) > 65536)=true:=Qv h3;have g5:(m:Int) > 65536:=h3;have HCK:Hid (z=6):=hid (by rw[<-HZ.o,if_neg h1,if_pos (.inr (by rw[<-HL.o];exact h3))]);go_enter Tryz.func33,Tryz.ntmps33
  go_wp2
  go_ret;exact⟨by rw[HCK.o];rfl,Ext.refl w⟩
 have g4:decide ((m:Int) > 65536)=false:=Qw h3;have g5:¬(m:Int) > 65536:=h3;have HZ2:Hid (XC n l=z):=hid (by rw[<-HZ.o,if_neg h1,if_neg (by rw[<-HL.o];omega)]);clear HZ;go_enter Tryz.func33,Tryz.ntmps33
 go_wp2
 clear h1 h2 h3 g1 g2 g3 g4 g5
 go_loopw [5] (fun i wr=>∃k:Nat,k<=m/\i= .int .i64 k/\Hid (Ext w wr)/\Hid (XC n (l.take k)=0)) (fun i _=>m - (intOf i).toNat)
 case atStart=>exact⟨0,by omega,rfl,hid (Ext.refl w),hid rfl⟩
 case round=>
  obtain⟨k,hk,rfl,HX,HF⟩:=hrel;by_cases h1:k<m
  ·obtain⟨c,hc⟩:∃c,l[k]? =some c:=⟨_,Qq (by have:=HL.o;omega)⟩;have HFT:=hid (wV hc HF.o);obtain⟨d',bx,ox,P1,np1,cp1,P2,np2,cp2,hd,rfl,hv1,hbx, -⟩:=(HS.o.ext HX.o).con_at hc;obtain⟨x0,x1,x2,x3,x4,x5,x6,x7,x8,x9⟩:=hbx;have HW:=hid (tF d' wr c _ n hv1);obtain⟨q,hq⟩:=Qg (X5 n c);rw[hq]at HW HFT;clear hc hq hd hv1
   go_wp2_with fail
   refine HW.o.mono ?_;rintro e w8 ⟨rfl,hx8⟩;have HX8:=hid (HX.o.trans hx8);clear hx8 x0 x1 x2 x3 x4 x5 x6 x7 x8 x9;by_cases h6:q=0
   ·have g6:((q:Int) != 0)=false:=by simp[h6]
    subst h6
    go_wp2
    first
     |go_roundw
     |refine⟨?rel, ?measure⟩
    case rel=>exact⟨k+1,by omega,by go_num,HX8,hid HFT.o.1⟩
    case measure=>simp [intOf];omega
   ·have g6:((q:Int) != 0)=true:=by simp;omega
    have HCK:Hid (z=q):=hid (by rw[<-HZ2.o,HFT.o.2 h6]);clear h6
    go_wp2
    go_ret;exact⟨by rw[HCK.o];rfl,HX8.o⟩
  ·obtain rfl:k=m:=by omega
   have ha:=HF.o;rw[Qj (by have:=HL.o;omega),HZ2.o]at ha;have HCK:Hid (z=0):=hid ha;clear ha
   go_wp2
   go_ret;exact⟨by rw[HCK.o];rfl,HX.o⟩
theorem iG {l:List Nat}{k x:Nat}(h:l[k]? =some x):decide (x∈l)=true:=Qv (Qx h)
theorem pk (w:World)(A:Option Addr)(n c:Nat)(l:List Nat)(hl:Sl QF w All (.slice A n c) l)(x:Nat):Calls Tryz.prog 63 #[.slice A n c,.int .i64 x] w (ZX w (decide (x∈l))):=by
 obtain⟨z,hz⟩:=Qg (decide (x∈l));rw[hz];have HZ:=hid hz;have HS:=hid hl;have HL:=hid hl.len;obtain⟨hc1,hc2⟩:=hl.cap;clear hz hl;go_enter Tryz.func63,Tryz.ntmps63
 go_wp2
 go_loopw [5] (fun i wr=>∃k:Nat,k<=n/\i= .int .i64 k/\Hid (Ext w wr)/\Hid (x∉l.take k)) (fun i _=>n - (intOf i).toNat)
 case atStart=>exact⟨0,by omega,rfl,hid (Ext.refl w),hid (by simp)⟩
 case round=>
  obtain⟨k,hk,rfl,HX,HF⟩:=hrel;by_cases h1:k<n
  ·obtain⟨y,hy⟩:∃y,l[k]? =some y:=⟨_,Qq (by have:=HL.o;omega)⟩;obtain⟨bx,ox,rfl,x0⟩:=(HS.o.ext HX.o).num_at hy;have HY:=hid hy;clear hy;by_cases h2:y=x
   ·have g2:((y:Int) == (x:Int))=true:=by simp[h2]
    obtain rfl:z=true:=by rw[<-HZ.o,<-h2];exact iG HY.o
    clear h2
    go_wp2
    go_ret;exact⟨rfl,HX.o⟩
   ·have g2:((y:Int) == (x:Int))=false:=by simp;omega
    have HF2:=hid (show x∉l.take (k+1) by
     rw[List.take_add_one,HY.o];intro h;rcases List.mem_append.1 h with h|h
     ·exact HF.o h
     ·exact h2 (by simp at h;exact h.symm))
    clear h2
    go_wp2
    first
     |go_roundw
     |refine⟨?rel, ?measure⟩
    case rel=>exact⟨k+1,by omega,by go_num,HX,HF2⟩
    case measure=>simp [intOf];omega
  ·obtain rfl:k=n:=by omega
   have ha:=HF.o;rw[Qj (by have:=HL.o;omega)]at ha;obtain rfl:z=false:=by rw[<-HZ.o];exact Qw ha
   have i1:¬(k:Int)<(k:Int):=by omega
   go_wp2
   go_ret;exact⟨rfl,HX.o⟩
structure PrS (d:Nat)(w:World)(S:Nat->Prop)(A:Option Addr)(m e:Nat)(B:Option Addr)(N f:Nat)(l:List Con)(n:Nat)(C:List Nat):Prop where
 sl:Sl (Zf (tyR d)) w S (.slice A m e) l
 cl:Sl QF w All (.slice B N f) C
 ok:∀c∈l,OkC n c
 cls:Xk l n (QW C)
 lt:∀v∈C,v<n+l.length
 len:C.length=n+l.length
 n20:n<=20
 m20:m<=20
section
variable {d:Nat}{w w':World}{S:Nat->Prop}{A B:Option Addr}{m e N f n:Nat}{l:List Con}{C:List Nat}
theorem PrS.ext (h:PrS d w S A m e B N f l n C)(he:Ext w w'):PrS d w' S A m e B N f l n C:=⟨h.sl.ext he,h.cl.ext he,h.ok,h.cls,h.lt,h.len,h.n20,h.m20⟩
theorem PrS.con (h:PrS d w S A m e B N f l n C){k:Nat}(hk:k<m):
  ∃c d' b off A1 n1 c1 B1 m1 e1,l[k]? =some c/\OkC n c/\d=d'+1/\A=some ⟨b,off,none⟩/\Xc d' w S (.agg #[.int .i64 c.kind,.int .i64 c.a,.int .i64 c.b,.int .i64 c.off,.int .i64 c.width,.int .i64 c.type.kind,.int .i64 c.type.size,.int .i64 c.type.count,.slice A1 n1 c1,.slice B1 m1 e1]) c/\
   Xj w b (off+k * 10) c A1 n1 c1 B1 m1 e1:=by
 have hl:=h.sl.len;obtain⟨c,hc⟩:∃c,l[k]? =some c:=⟨_,Qq (by omega)⟩;obtain⟨d',b,off,A1,n1,c1,B1,m1,e1,h1,h2,h3,h4, -⟩:=h.sl.con_at hc;exact⟨c,d',b,off,A1,n1,c1,B1,m1,e1,hc,h.ok c (Qx hc),h1,h2,h3,h4⟩
theorem PrS.num (h:PrS d w S A m e B N f l n C):N=n+m:=by have:=h.cl.len;have:=h.sl.len;have:=h.len;omega
theorem PrS.labLt (h:PrS d w S A m e B N f l n C){x:Nat}(hx:x<n+m):QW C x<n+m:=by
 have h1:=h.sl.len;have h2:=h.len;have h3:=h.lt (QW C x) (by unfold QW;rw[Qq (by omega)];exact List.getElem_mem ..);omega
theorem xy {C:List Nat}{x:Nat}(h:x<C.length):C[x]? =some (QW C x):=by unfold QW;rw[Qq h];rfl
theorem PrS.lab (h:PrS d w S A m e B N f l n C){x:Nat}(hx:x<n+m):∃b off,B=some ⟨b,off,none⟩/\w.cell? ⟨b,off+x,none⟩=some (.int .i64 (QW C x)):=by
 have h1:=h.sl.len;have h2:=h.len;obtain⟨b,off,h3,h4, -⟩:=h.cl.num_at (xy (C:=C) (x:=x) (by omega));exact⟨b,off,h3,h4⟩
end
def ZK (w:World)(P:Prop)(e:Ending)(w':World):Prop:=∃b:Bool,e= .returned (.bool b)/\(b=true↔P)/\Ext w w'
theorem ZK.of {w w':World}{P:Prop}{b:Bool}(h:b=true↔P)(hx:Ext w w'):ZK w P (.returned (.bool b)) w':=⟨b,rfl,h,hx⟩
theorem eJ {C:List Nat}{a b k y:Nat}(hk:C[k]? =some y):(Z8 C a b)[k]? =some (if y=QW C b then QW C a else y):=by unfold Z8;rw[List.getElem?_map,hk];rfl
theorem G3 {C D:List Nat}{k y z:Nat}(hk:C[k]? =some y)(hd:D[k]? =some z):(D.take k ++ C.drop k).set k z=D.take (k+1) ++ C.drop (k+1):=by
 have h1:=(Qz hk).1;have h2:=(Qz hd).1;have e1:C.drop k=y :: C.drop (k+1):=by rw[<-(Qz hk).2,List.getElem_cons_drop]
 rw[List.set_append_right _ _ (by simp;omega),e1,List.take_add_one,hd];have:k - (D.take k).length=0:=by simp;omega
 rw[this];simp
theorem iY {C D:List Nat}{k y:Nat}(hk:C[k]? =some y)(hd:D[k]? =some y):D.take k ++ C.drop k=D.take (k+1) ++ C.drop (k+1):=by
 have e1:C.drop k=y :: C.drop (k+1):=by rw[<-(Qz hk).2,List.getElem_cons_drop]
 rw[e1,List.take_add_one,hd];simp
theorem DZ {C D:List Nat}{k y:Nat}(h:D.length=C.length)(hk:C[k]? =some y):(D.take k ++ C.drop k)[k]? =some y:=by
 have h1:=(Qz hk).1;rw[List.getElem?_append_right (by simp;omega)];have:k - (D.take k).length=0:=by simp;omega
 rw[this];simpa using hk
def Dg (w:World)(S:Nat->Prop)(N:Nat)(L:List Nat)(e:Ending)(w':World):Prop:=∃A c,e= .returned (.slice A N c)/\Sl QF w' (fun b=>S b\/w.heap.size<=b) (.slice A N c) L/\Ext w w'
theorem wC (w:World)(S:Nat->Prop)(A:Option Addr)(N c:Nat)(C:List Nat)(hs:Sl QF w S (.slice A N c) C)(a b:Nat)(ha:a<N)(hb:b<N)(hN:N<=1000):Calls Tryz.prog 57 #[.slice A N c,.int .i64 a,.int .i64 b] w (Dg w S N (Z8 C a b)):=by
 have hl:=hs.len;obtain⟨hc1,hc2⟩:=hs.cap;obtain⟨bB,oB,rfl,xa, -⟩:=hs.num_at (xy (C:=C) (x:=a) (by omega));obtain⟨bB',oB',hh,xb, -⟩:=hs.num_at (xy (C:=C) (x:=b) (by omega));injection hh with hh
 injection hh with h1 h2
 subst h1 h2;obtain⟨pa,hpa⟩:=Qg (QW C a);obtain⟨pb,hpb⟩:=Qg (QW C b)
 have hlt:pa<1048576:=by
  rw[<-hpa];exact hs.num_lt _ (Qx (xy (by omega)))
 rw[hpa]at xa;rw[hpb]at xb;have HPA:=hid hpa;have HPB:=hid hpb;have HS:=hid hs;have HL:=hid hl;have HLT:=hid hlt;have i1:(a:Int)<(N:Int):=by omega
 have i2:(b:Int)<(N:Int):=by omega
 have i3:(0:Int)<=(a:Int):=by omega
 have i4:(0:Int)<=(b:Int):=by omega
 obtain⟨i0,hi,hz0,hz1,hz2⟩:=info_parts qy;clear hpa hpb hs hl hlt;by_cases h1:pa=pb
 ·subst h1;have g1:((pa:Int) == (pa:Int))=true:=by simp
  go_enter Tryz.func57,Tryz.ntmps57
  go_wp2_with fail
  refine rgH (Ext.hc2 xa xb) (Ext.refl _).drew (fun hSg1q0=>?_);refine Qp 0 1 2 3 4 5 ?_;refine Zd 6 7 8 ?_;refine wpAnyH_done (by kernel_rfl) ?_ _
  go_wp2
  go_ret;refine⟨_,_,rfl, ?_,(Ext.refl w).drew⟩;rw[lC (HPA.o.trans HPB.o.symm)];exact(HS.o.ext (Ext.refl w).drew).mono fun _ h _=> .inl h
 ·have g1:((pa:Int) == (pb:Int))=false:=by simp;omega
  have HNE:=hid h1;clear h1;have HI:=hid hi;have HZ0:=hid hz0;have HZ1:=hid hz1;have HZ2:=hid hz2;clear hi hz0 hz1 hz2;have HXA:=hid xa;have HXB:=hid xb;go_enter Tryz.func57,Tryz.ntmps57
  go_wp2_with fail
  refine rgH (Ext.hc2 xa xb) (Ext.refl _).drew (fun hSg2q0=>?_);refine Qp 0 1 2 3 4 5 ?_;refine Zd 6 7 8 ?_;refine wpAnyH_done (by kernel_rfl) ?_ _;clear xa xb
  go_wp2_with (first
   |(at_builtin;refine Yy rfl (.tmp 19) (.tmp 20) 26 rfl w.heap.size 3 i0 _ 1 8 Tryz.underlying26 HI.o HZ0.o HZ1.o HZ2.o rfl QF rfl _ [] rfl (Qf.fresh0 (T:=All) _ (Nat.le_refl _)) (some ⟨bB,oB,none⟩) N c C (fun b=>b<w.heap.size) rfl ((HS.o.mono (fun b _ h=>h.lt)).ext ((Ext.refl w).drew.alloc _)) (fun _ hb _=>⟨trivial,Jf hb⟩) (by simp;omega) (by simp;omega) (by simp) ?_;intro A5 c5 w5 hown5 hg5 hl5;have HO5:=hid hown5;have HG5:=hid hg5;clear hown5 hg5 hl5)
   |fail)
  have HX5:=hid ((Ext.refl w).drew.alloc (.cells #[] 3) |>.grown HG5.o (fun k hk=>by rw[xX hk];simp));have HO6:Hid (Qf QF w5 w.heap.size 3 All (.slice A5 N c5) C):=hid (by have:=HO5.o;rwa [List.nil_append,show([]:List Nat).length+N=N by simp]at this);obtain⟨g,rfl,hg1,hg2⟩:=HO6.o.at0 (by omega);clear HO5 HG5 hg1 hg2
  go_loopw [8] (fun i wr=>∃k:Nat,k<=N/\i= .int .i64 k/\Hid (Ext w wr)/\Hid (Qf QF wr w.heap.size 3 All (.slice (some ⟨g,0,none⟩) N c5) ((Z8 C a b).take k ++ C.drop k))) (fun i _=>N - (intOf i).toNat)
  case atStart=>exact⟨0,by omega,rfl,HX5,hid (by simpa using HO6.o)⟩
  case round=>
   obtain⟨k,hk,rfl,HX,HO⟩:=hrel;by_cases h1:k<N
   ·obtain⟨y,hy⟩:∃y,C[k]? =some y:=⟨_,Qq (by have:=HL.o;omega)⟩;have hsx:=HS.o.ext HX.o;obtain⟨bB',oB',hh,xk, -⟩:=hsx.num_at hy;injection hh with hh
    injection hh with h2 h3
    subst h2 h3;have xa:=HX.o.cell HXA.o;have xb:=HX.o.cell HXB.o;have HUA:=hid (eJ (a:=a) (b:=b) hy);rw[HPA.o,HPB.o]at HUA;have HY:=hid hy;have j1:(0:Int)<=(k:Int):=by omega
    have j2:(k:Int)<(N:Int):=by omega
    have hcc:=HO.o.sl.cap.1;have j3:(k:Int)<(c5:Int):=by omega
    clear hsx hy hcc;by_cases h2:y=pb
    ·have g2:((y:Int) == (pb:Int))=true:=by simp[h2]
     rw[if_pos h2]at HUA;obtain⟨o0,of⟩:=HO.o.num_cell (DZ (zV C a b) HY.o);have HO2:=hid ((HO.o.ext (Ext.refl _).drew).num_set (x:=pa) HLT.o k);clear h2
     go_wp2_with fail
     refine rgH (Ext.hc2 xk xb) (Ext.refl _).drew (fun hSg3q0=>?_);refine Qp 0 1 2 3 4 5 ?_;refine Zd 6 7 8 ?_;refine wpAnyH_done (by kernel_rfl) ?_ _
     go_wp2
     first
      |go_roundw
      |refine⟨?rel, ?measure⟩
     case rel=>
      refine⟨k+1,by omega,by go_num,hid ?_,hid ?_⟩
      ·exact Qf.num_set_ext HX.o.drew (HO.o.block g rfl).1
      ·rw[<-G3 HY.o HUA.o];exact HO2.o
     case measure=>simp [intOf];omega
    ·have g2:((y:Int) == (pb:Int))=false:=by simp;omega
     rw[if_neg h2]at HUA;clear h2
     go_wp2_with fail
     refine rgH (Ext.hc2 xk xb) (Ext.refl _).drew (fun hSg4q0=>?_);refine Qp 0 1 2 3 4 5 ?_;refine Zd 6 7 8 ?_;refine wpAnyH_done (by kernel_rfl) ?_ _
     go_wp2
     first
      |go_roundw
      |refine⟨?rel, ?measure⟩
     case rel=>
      refine⟨k+1,by omega,by go_num,hid HX.o.drew,hid ?_⟩;rw[<-iY HY.o HUA.o];exact HO.o.ext (Ext.refl _).drew
     case measure=>simp [intOf];omega
   ·obtain rfl:k=N:=by omega
    have i1:¬(k:Int)<(k:Int):=by omega
    have ho:=HO.o.num_sl (S:=fun b=>S b\/w.heap.size<=b) (fun _ h=> .inr h);rw[Qj (by rw[zV];have:=HL.o;omega),List.drop_eq_nil_of_le (by have:=HL.o;omega),List.append_nil]at ho;have HSL:=hid ho;clear ho
    go_wp2
    go_ret;exact⟨_,_,rfl,HSL.o,HX.o⟩
def rP (l:List Con)(C:List Nat)(z:Nat):Prop:=∃c∈l,QY c=true/\QW C c.a.toNat=z
theorem pD {l:List Con}{n:Nat}{C:List Nat}(hcl:Xk l n (QW C))(hok:∀c∈l,OkC n c){x:Nat}(hx:x<n+l.length):rP l C (QW C x)↔Q9 l (Zz l n x):=by
 have key:∀c∈l,(QW C c.a.toNat=QW C x↔VE l c.a (Zz l n x)):=fun c hc=>by
  have ho:=hok c hc;have h1:=Jd ho;rw[hcl c.a.toNat x (by omega) hx,Z5 h1,Qk ho.a0]
 constructor
 ·rintro⟨c,hc,ha,hl⟩;exact⟨c,hc,ha,(key c hc).1 hl⟩
 ·rintro⟨c,hc,ha,hl⟩;exact⟨c,hc,ha,(key c hc).2 hl⟩
section
variable {d:Nat}{w:World}{S:Nat->Prop}{A B:Option Addr}{m me N f n:Nat}{l:List Con}{C:List Nat}
theorem vD (hs:PrS d w S A m me B N f l n C)(z:Nat):Calls Tryz.prog 35 #[.agg #[.slice A m me,.int .i64 n,.slice B N f],.int .i64 z] w (ZK w (rP l C z)):=by
 obtain⟨W0,hW0⟩:=Qg (w.alloc (.cells #[.slice A m me,.int .i64 n,.slice B N f] 79));have hE0:Ext w W0:=by rw[<-hW0];exact(Ext.refl w).alloc _
 have b0:W0.cell? ⟨w.heap.size,0,none⟩=some (.slice A m me):=by rw[<-hW0];simp[go_sem]
 have b1:W0.cell? ⟨w.heap.size,1,none⟩=some (.int .i64 n):=by rw[<-hW0];simp[go_sem]
 have b2:W0.cell? ⟨w.heap.size,2,none⟩=some (.slice B N f):=by rw[<-hW0];simp[go_sem]
 have HE0:=hid hE0;have HS:=hid (hs.ext hE0);have HB0:=hid b0;have HB1:=hid b1;have HB2:=hid b2;have HM:=hid hs.sl.len;have HNM:=hid hs.num;obtain⟨hm1,hm2⟩:=hs.sl.cap;obtain⟨hf1,hf2⟩:=hs.cl.cap;have hN20:=hs.n20;have hM20:=hs.m20;clear hE0 hs;go_enter Tryz.func35,Tryz.ntmps35
 go_wp2
 clear hW0 b0 b1 b2
 go_loopw [5] (fun i wr=>∃k:Nat,k<=m/\i= .int .i64 k/\Hid (Ext W0 wr)/\Hid (∀(j:Nat) c,j<k->l[j]? =some c->QY c=true->QW C c.a.toNat≠z)) (fun i _=>m - (intOf i).toNat)
 case atStart=>exact⟨0,by omega,rfl,hid (Ext.refl _),hid (fun j c h=>absurd h (Nat.not_lt_zero _))⟩
 case round=>
  obtain⟨k,hk,rfl,HX,HF⟩:=hrel;have b0:=HX.o.cell HB0.o;have b1:=HX.o.cell HB1.o;have b2:=HX.o.cell HB2.o;by_cases h1:k<m
  ·skip;obtain⟨cu,du,bA,oA,P1u,n1u,c1u,P2u,n2u,c2u,hc,hok,hd,rfl,hcv,hbx⟩:=(HS.o.ext HX.o).con h1;obtain⟨x0u,x1u,x2u,x3u,x4u,x5u,x6u,x7u,x8u,x9u⟩:=hbx;have HCVu:=hid hcv;have HCu:=hid hc;have HOKu:=hid hok;have HDu:=hid hd;obtain⟨kdu,cau,cbu,ou,wdu,ctu⟩:=cu;obtain⟨au,rfl⟩:∃a:Nat,cau=(a:Int):=⟨cau.toNat,(Qk hok.a0).symm⟩;have hau:au<n:=by have:=hok.a1;simp only at this;omega
   simp only at x0u x1u x2u x3u x4u x5u x6u x7u x8u x9u;clear hc hok hd hcv;obtain⟨bB,oB,rfl,y0⟩:=(HS.o.ext HX.o).lab (x:=au) (by omega);have HA:=hid (fun(w':World) (hw:Ext wr w')=>qj _ w' _ _ (HCVu.o.all.ext hw));obtain⟨q,hq⟩:=Qg (QW C au);rw[hq]at y0;obtain⟨y,hy⟩:=Qg (QY ⟨kdu,(au:Int),cbu,ou,wdu,ctu⟩);simp only at HA;rw[hy]at HA;have i1:(0:Int)<=(au:Int):=by omega
   have i2:(au:Int)<(N:Int):=by have:=HNM.o;omega
   have i3:(0:Int)<=(k:Int):=by omega
   have i4:(k:Int)<(m:Int):=by omega
   have HQ:=hid hq;have HY:=hid hy;clear hq hy;have HEL:=hid (Ext.two (Ext.hc3 b0 b1 b2) (Ext.two (Ext.hc10 x0u x1u x2u x3u x4u x5u x6u x7u x8u x9u) (Ext.hc1 y0)));clear x0u x1u x2u x3u x4u x5u x6u x7u x8u x9u y0 b0 b1 b2;have b0:=HX.o.cell HB0.o;have b1:=HX.o.cell HB1.o;have b2:=HX.o.cell HB2.o
   have hstep:(y=true->q≠z)->∀(j:Nat) c,j<k+1->l[j]? =some c->QY c=true->QW C c.a.toNat≠z:=fun hn j c hj hc ha=>by
    by_cases hjk:j=k
    ·subst hjk;rw[HCu.o]at hc;cases hc;simp only[Int.toNat_natCast];rw[HQ.o];exact hn (by rw[<-HY.o];exact ha)
    ·exact HF.o j c (by omega) hc ha
   have HST:=hid hstep;clear hstep
   go_wp2_with fail
   cases y with
   | false=>
    refine rgH HEL.o (Ext.refl wr).drew (fun hSg1q0=>?_);refine QB 0 1 2 3 ?_;refine rgT 4 ?_;refine rgC 5 (fun K hK=>?_);go_simp;go_at_call 59;refine(HA.o _ (Ext.refl wr).drew).mono ?_;rintro e5 w5 ⟨rfl,hx5⟩;have HX5:=hid hx5.drew_left;clear hx5;refine rgK hK (HEL.o _ HX5.o) (fun hSg1q1=>?_);clear hK K;refine rgT 6 ?_;refine Qc 7 8 9 10 ?_;refine Qc 11 12 13 14 ?_;refine Qc 15 16 17 18 ?_;refine rgT 19 ?_;refine wpAnyH_done (by kernel_rfl) ?_ _
    go_wp2
    first
     |go_roundw
     |refine⟨?rel, ?measure⟩
    case rel=>exact⟨k+1,by omega,by go_num,hid (HX.o.trans HX5.o),hid (HST.o (fun h=>by cases h))⟩
    case measure=>simp [intOf];omega
   | true=>
    by_cases h2:q=z
    ·have g2:((q:Int) == (z:Int))=true:=by simp[h2]
     refine rgH HEL.o (Ext.refl wr).drew (fun hSg2q0=>?_);refine QB 0 1 2 3 ?_;refine rgT 4 ?_;refine rgC 5 (fun K hK=>?_);go_simp;go_at_call 59;refine(HA.o _ (Ext.refl wr).drew).mono ?_;rintro e5 w5 ⟨rfl,hx5⟩;have HX5:=hid hx5.drew_left;clear hx5;refine rgK hK (HEL.o _ HX5.o) (fun hSg2q1=>?_);clear hK K;refine Qp 6 7 8 9 10 11 ?_;refine Qp 12 13 14 15 16 17 ?_;refine QJ 18 19 ?_;refine wpAnyH_done (by kernel_rfl) ?_ _
     go_wp2
     go_ret;exact ZK.of ⟨fun _=>⟨_,Qx HCu.o,HY.o,by simp only[Int.toNat_natCast];rw[HQ.o];exact h2⟩,fun _=>rfl⟩ (HE0.o.trans (HX.o.trans HX5.o))
    ·have g2:((q:Int) == (z:Int))=false:=by simp;omega
     refine rgH HEL.o (Ext.refl wr).drew (fun hSg3q0=>?_);refine QB 0 1 2 3 ?_;refine rgT 4 ?_;refine rgC 5 (fun K hK=>?_);go_simp;go_at_call 59;refine(HA.o _ (Ext.refl wr).drew).mono ?_;rintro e5 w5 ⟨rfl,hx5⟩;have HX5:=hid hx5.drew_left;clear hx5;refine rgK hK (HEL.o _ HX5.o) (fun hSg3q1=>?_);clear hK K;refine Qp 6 7 8 9 10 11 ?_;refine Qp 12 13 14 15 16 17 ?_;refine QJ 18 19 ?_;refine wpAnyH_done (by kernel_rfl) ?_ _
     go_wp2
     first
      |go_roundw
      |refine⟨?rel, ?measure⟩
     case rel=>exact⟨k+1,by omega,by go_num,hid (HX.o.trans HX5.o),hid (HST.o (fun _=>h2))⟩
     case measure=>simp [intOf];omega
  ·obtain rfl:k=m:=by omega
   have i1:¬(k:Int)<(k:Int):=by omega
   go_wp2
   go_ret;refine ZK.of ⟨fun h=>(by cases h),fun⟨c,hc,ha,hl⟩=>?_⟩ (HE0.o.trans HX.o);obtain⟨j,hj⟩:=List.getElem?_of_mem hc;exact absurd hl (HF.o j c (by have:=(Qz hj).1;have:=HM.o;omega) hj ha)
theorem vV (hs:PrS d w S A m me B N f l n C)(k i:Nat)(hk:k<m)(hi:i<m):Calls Tryz.prog 88 #[.agg #[.slice A m me,.int .i64 n,.slice B N f],.int .i64 k,.int .i64 i] w (ZK w (YP l k i)):=by
 obtain⟨W0,hW0⟩:=Qg (w.alloc (.cells #[.slice A m me,.int .i64 n,.slice B N f] 79));have hE0:Ext w W0:=by rw[<-hW0];exact(Ext.refl w).alloc _
 have b0:W0.cell? ⟨w.heap.size,0,none⟩=some (.slice A m me):=by rw[<-hW0];simp[go_sem]
 have b1:W0.cell? ⟨w.heap.size,1,none⟩=some (.int .i64 n):=by rw[<-hW0];simp[go_sem]
 have b2:W0.cell? ⟨w.heap.size,2,none⟩=some (.slice B N f):=by rw[<-hW0];simp[go_sem]
 have HE0:=hid hE0;have HS:=hid (hs.ext hE0);have HB0:=hid b0;have HB1:=hid b1;have HB2:=hid b2;have HM:=hid hs.sl.len;have HNM:=hid hs.num;obtain⟨hm1,hm2⟩:=hs.sl.cap;obtain⟨hf1,hf2⟩:=hs.cl.cap;have hN20:=hs.n20;have hM20:=hs.m20;clear hE0 hs;obtain⟨cu,du,bA,oA,P1u,n1u,c1u,P2u,n2u,c2u,hc,hok,hd,rfl,hcv,hbx⟩:=(HS.o).con hk;obtain⟨x0u,x1u,x2u,x3u,x4u,x5u,x6u,x7u,x8u,x9u⟩:=hbx;have HCVu:=hid hcv;have HCu:=hid hc;have HOKu:=hid hok;have HDu:=hid hd;obtain⟨kdu,cau,cbu,ou,wdu,ctu⟩:=cu;obtain⟨au,rfl⟩:∃a:Nat,cau=(a:Int):=⟨cau.toNat,(Qk hok.a0).symm⟩;have hau:au<n:=by have:=hok.a1;simp only at this;omega
 simp only at x0u x1u x2u x3u x4u x5u x6u x7u x8u x9u;clear hc hok hd hcv;obtain⟨cv,dv,bA',oA',P1v,n1v,c1v,P2v,n2v,c2v,hc,hok,hd,hh,hcv,hbx⟩:=(HS.o).con hi;injection hh with hh
 injection hh with h2 h3
 subst h2 h3;obtain⟨x0v,x1v,x2v,x3v,x4v,x5v,x6v,x7v,x8v,x9v⟩:=hbx;have HCVv:=hid hcv;have HCv:=hid hc;have HOKv:=hid hok;have HDv:=hid hd;obtain⟨kdv,cav,cbv,ov,wdv,ctv⟩:=cv;obtain⟨av,rfl⟩:∃a:Nat,cav=(a:Int):=⟨cav.toNat,(Qk hok.a0).symm⟩;have hav:av<n:=by have:=hok.a1;simp only at this;omega
 simp only at x0v x1v x2v x3v x4v x5v x6v x7v x8v x9v;clear hc hok hd hcv;obtain⟨bB,oB,rfl,yu⟩:=HS.o.lab (x:=au) (by omega);obtain⟨bB',oB',hh,yv⟩:=(HS.o).lab (x:=av) (by omega);injection hh with hh
 injection hh with h2 h3
 subst h2 h3;have HA:=hid (fun(w':World) (hw:Ext W0 w')=>Yp _ w' _ _ (HCVu.o.all.ext hw));have HB:=hid (fun(w':World) (hw:Ext W0 w')=>Yp _ w' _ _ (HCVv.o.all.ext hw));have HCL:=hid (wZ HS.o.cls HOKu.o HOKv.o);simp only[Int.toNat_natCast]at HCL;obtain⟨qu,hqu⟩:=Qg (QW C au);obtain⟨qv,hqv⟩:=Qg (QW C av);rw[hqu]at yu HCL;rw[hqv]at yv HCL;obtain⟨zu,hzu⟩:=Qg (QQ ⟨kdu,(au:Int),cbu,ou,wdu,ctu⟩);obtain⟨zv,hzv⟩:=Qg (QQ ⟨kdv,(av:Int),cbv,ov,wdv,ctv⟩);simp only at HA HB;rw[hzu]at HA;rw[hzv]at HB;have HZU:=hid hzu;have HZV:=hid hzv;have i1:(0:Int)<=(au:Int):=by omega
 have i2:(au:Int)<(N:Int):=by have:=HNM.o;omega
 have i3:(0:Int)<=(av:Int):=by omega
 have i4:(av:Int)<(N:Int):=by have:=HNM.o;omega
 have i5:(0:Int)<=(k:Int):=by omega
 have i6:(k:Int)<(m:Int):=by omega
 have i7:(0:Int)<=(i:Int):=by omega
 have i8:(i:Int)<(m:Int):=by omega
 clear hqu hqv hzu hzv;have HEL:=hid (Ext.two (Ext.hc3 b0 b1 b2) (Ext.two (Ext.hc10 x0u x1u x2u x3u x4u x5u x6u x7u x8u x9u) (Ext.two (Ext.hc10 x0v x1v x2v x3v x4v x5v x6v x7v x8v x9v) (Ext.hc2 yu yv))));go_enter Tryz.func88,Tryz.ntmps88
 go_wp2_with fail
 clear hW0 b0 b1 b2 x0u x1u x2u x3u x4u x5u x6u x7u x8u x9u x0v x1v x2v x3v x4v x5v x6v x7v x8v x9v yu yv
 cases zu with
 |false=>
  refine rgH HEL.o (Ext.refl W0).drew (fun hSg4q0=>?_);refine QB 0 1 2 3 ?_;refine rgT 4 ?_;refine rgC 5 (fun K hK=>?_);go_simp;go_at_call 58;refine(HA.o _ (Ext.refl W0).drew).mono ?_;rintro e5 w5 ⟨rfl,hx5⟩;have HX5:=hid hx5.drew_left;clear hx5;refine rgK hK (HEL.o _ HX5.o) (fun hSg4q1=>?_);clear hK K;refine rgT 6 ?_;refine Qc 7 8 9 10 ?_;refine rgU 11 ?_;refine rgC 12 (fun K hK=>?_);refine cast (if_neg (fun h=>Bool.noConfusion (show false=true from h))).symm ?_;refine rgK hK (by assumption) (fun hSg4q2=>?_);clear hK K;refine QJ 13 14 ?_;refine Qc 15 16 17 18 ?_;refine Qc 19 20 21 22 ?_;refine Qc 23 24 25 26 ?_;refine rgU 27 ?_;refine QJ 28 29 ?_;refine Qc 30 31 32 33 ?_;refine Qc 34 35 36 37 ?_;refine Qc 38 39 40 41 ?_;refine Qc 42 43 44 45 ?_;refine Qc 46 47 48 49 ?_;refine rgU 50 ?_;refine QJ 51 52 ?_;refine wpAnyH_done (by kernel_rfl) ?_ _
  go_wp2
  go_ret;refine ZK.of ⟨fun h=>(by cases h),fun⟨c,e,hc,he,h1,h2,h3,h4⟩=>?_⟩ (HE0.o.trans HX5.o);rw[HCu.o]at hc;cases hc;rw[HCv.o]at he;cases he;exact(by rw[HZU.o]at h1;cases h1)
 | true=>
  cases zv with
  |false=>
   refine rgH HEL.o (Ext.refl W0).drew (fun hSg5q0=>?_);refine QB 0 1 2 3 ?_;refine rgT 4 ?_;refine rgC 5 (fun K hK=>?_);go_simp;go_at_call 58;refine(HA.o _ (Ext.refl W0).drew).mono ?_;rintro e5 w5 ⟨rfl,hx5⟩;have HX5:=hid hx5.drew_left;clear hx5;refine rgK hK (HEL.o _ HX5.o) (fun hSg5q1=>?_);clear hK K;refine Qp 6 7 8 9 10 11 ?_;refine rgC 12 (fun K hK=>?_);go_simp;go_at_call 58;refine(HB.o _ HX5.o).mono ?_;rintro e6 w6 ⟨rfl,hx6⟩;have HX6:=hid (HX5.o.trans hx6);clear hx6;refine rgK hK (HEL.o _ HX6.o) (fun hSg5q2=>?_);clear hK K;refine QJ 13 14 ?_;refine Qc 15 16 17 18 ?_;refine Qc 19 20 21 22 ?_;refine Qc 23 24 25 26 ?_;refine rgU 27 ?_;refine QJ 28 29 ?_;refine Qc 30 31 32 33 ?_;refine Qc 34 35 36 37 ?_;refine Qc 38 39 40 41 ?_;refine Qc 42 43 44 45 ?_;refine Qc 46 47 48 49 ?_;refine rgU 50 ?_;refine QJ 51 52 ?_;refine wpAnyH_done (by kernel_rfl) ?_ _
   go_wp2
   go_ret;refine ZK.of ⟨fun h=>(by cases h),fun⟨c,e,hc,he,h1,h2,h3,h4⟩=>?_⟩ (HE0.o.trans HX6.o);rw[HCu.o]at hc;cases hc;rw[HCv.o]at he;cases he;exact(by rw[HZV.o]at h2;cases h2)
  | true=>
   by_cases h9:ou=ov
   ·have g9:(ou == ov)=true:=by simp[h9]
    obtain⟨r,g8⟩:=Qg (((qu:Int) == (qv:Int)));have HRR:Hid (r=true↔qu=qv):=hid (by rw[<-g8];simp;omega);have H9:=hid h9;clear h9;refine rgH HEL.o (Ext.refl W0).drew (fun hSg6q0=>?_);refine QB 0 1 2 3 ?_;refine rgT 4 ?_;refine rgC 5 (fun K hK=>?_);go_simp;go_at_call 58;refine(HA.o _ (Ext.refl W0).drew).mono ?_;rintro e5 w5 ⟨rfl,hx5⟩;have HX5:=hid hx5.drew_left;clear hx5;refine rgK hK (HEL.o _ HX5.o) (fun hSg6q1=>?_);clear hK K;refine Qp 6 7 8 9 10 11 ?_;refine rgC 12 (fun K hK=>?_);go_simp;go_at_call 58;refine(HB.o _ HX5.o).mono ?_;rintro e6 w6 ⟨rfl,hx6⟩;have HX6:=hid (HX5.o.trans hx6);clear hx6;refine rgK hK (HEL.o _ HX6.o) (fun hSg6q2=>?_);clear hK K;refine Qp 13 14 15 16 17 18 ?_;refine Qp 19 20 21 22 23 24 ?_;refine Qp 25 26 27 28 29 30 ?_;refine Qp 31 32 33 34 35 36 ?_;refine Qp 37 38 39 40 41 42 ?_;refine Qp 43 44 45 46 47 48 ?_;refine QB 49 50 51 52 ?_;refine wpAnyH_done (by kernel_rfl) ?_ _
    go_wp2
    go_ret;refine ZK.of ⟨fun h=>⟨_,_,HCu.o,HCv.o,(HCL.o HZU.o HZV.o).2 ⟨H9.o,HRR.o.1 h⟩⟩,fun⟨c,e,hc,he,h⟩=>?_⟩ (HE0.o.trans HX6.o);rw[HCu.o]at hc;cases hc;rw[HCv.o]at he;cases he;exact HRR.o.2 ((HCL.o HZU.o HZV.o).1 h).2
   ·have g9:(ou == ov)=false:=by simp[h9]
    have H9:=hid h9;clear h9;refine rgH HEL.o (Ext.refl W0).drew (fun hSg7q0=>?_);refine QB 0 1 2 3 ?_;refine rgT 4 ?_;refine rgC 5 (fun K hK=>?_);go_simp;go_at_call 58;refine(HA.o _ (Ext.refl W0).drew).mono ?_;rintro e5 w5 ⟨rfl,hx5⟩;have HX5:=hid hx5.drew_left;clear hx5;refine rgK hK (HEL.o _ HX5.o) (fun hSg7q1=>?_);clear hK K;refine Qp 6 7 8 9 10 11 ?_;refine rgC 12 (fun K hK=>?_);go_simp;go_at_call 58;refine(HB.o _ HX5.o).mono ?_;rintro e6 w6 ⟨rfl,hx6⟩;have HX6:=hid (HX5.o.trans hx6);clear hx6;refine rgK hK (HEL.o _ HX6.o) (fun hSg7q2=>?_);clear hK K;refine Qp 13 14 15 16 17 18 ?_;refine Qp 19 20 21 22 23 24 ?_;refine QB 25 26 27 28 ?_;refine rgT 29 ?_;refine Qc 30 31 32 33 ?_;refine Qc 34 35 36 37 ?_;refine Qc 38 39 40 41 ?_;refine Qc 42 43 44 45 ?_;refine Qc 46 47 48 49 ?_;refine rgU 50 ?_;refine QJ 51 52 ?_;refine wpAnyH_done (by kernel_rfl) ?_ _
    go_wp2
    go_ret;refine ZK.of ⟨fun h=>(by cases h),fun⟨c,e,hc,he,h1,h2,h3,h4⟩=>?_⟩ (HE0.o.trans HX6.o);rw[HCu.o]at hc;cases hc;rw[HCv.o]at he;cases he;exact absurd h3 H9.o
end
section
variable {d:Nat}{w:World}{S:Nat->Prop}{A B:Option Addr}{m me N f n:Nat}{l:List Con}{C:List Nat}
theorem uQ (hs:PrS d w S A m me B N f l n C)(k:Nat)(hk:k<m)(kind:Int)(c:Con)(hc:l[k]? =some c):Calls Tryz.prog 83 #[.agg #[.slice A m me,.int .i64 n,.slice B N f],.int .i64 k,.int .i64 kind] w (ZK w (Xg l c kind)):=by
 obtain⟨W0,hW0⟩:=Qg (w.alloc (.cells #[.slice A m me,.int .i64 n,.slice B N f] 79));have hE0:Ext w W0:=by rw[<-hW0];exact(Ext.refl w).alloc _
 have b0:W0.cell? ⟨w.heap.size,0,none⟩=some (.slice A m me):=by rw[<-hW0];simp[go_sem]
 have b1:W0.cell? ⟨w.heap.size,1,none⟩=some (.int .i64 n):=by rw[<-hW0];simp[go_sem]
 have b2:W0.cell? ⟨w.heap.size,2,none⟩=some (.slice B N f):=by rw[<-hW0];simp[go_sem]
 have HE0:=hid hE0;have HS:=hid (hs.ext hE0);have HB0:=hid b0;have HB1:=hid b1;have HB2:=hid b2;have HM:=hid hs.sl.len;have HNM:=hid hs.num;obtain⟨hm1,hm2⟩:=hs.sl.cap;obtain⟨hf1,hf2⟩:=hs.cl.cap;have hN20:=hs.n20;have hM20:=hs.m20;clear hE0 hs;have HCC:=hid hc;clear hc;go_enter Tryz.func83,Tryz.ntmps83
 go_wp2
 clear hW0 b0 b1 b2
 go_loopw [7] (fun s wr=>∃i:Nat,i<=m/\s= .int .i64 i/\Hid (Ext W0 wr)/\Hid (∀(j:Nat) e,j<i->l[j]? =some e->Zc l c e->e.kind≠kind)) (fun s _=>m - (intOf s).toNat)
 case atStart=>exact⟨0,by omega,rfl,hid (Ext.refl _),hid (fun j c h=>absurd h (Nat.not_lt_zero _))⟩
 case round=>
  obtain⟨i,hi,rfl,HX,HF⟩:=hrel;have b0:=HX.o.cell HB0.o;have b1:=HX.o.cell HB1.o;have b2:=HX.o.cell HB2.o;by_cases h1:i<m
  ·have HQ:=hid (vV (HS.o.ext HX.o) k i hk h1);obtain⟨cv,dv,bA,oA,P1v,n1v,c1v,P2v,n2v,c2v,hc,hok,hd,rfl,hcv,hbx⟩:=(HS.o.ext HX.o).con h1;obtain⟨x0v,x1v,x2v,x3v,x4v,x5v,x6v,x7v,x8v,x9v⟩:=hbx;have HCVv:=hid hcv;have HCv:=hid hc;have HOKv:=hid hok;have HDv:=hid hd;obtain⟨kdv,cav,cbv,ov,wdv,ctv⟩:=cv;obtain⟨av,rfl⟩:∃a:Nat,cav=(a:Int):=⟨cav.toNat,(Qk hok.a0).symm⟩;have hav:av<n:=by have:=hok.a1;simp only at this;omega
   simp only at x0v x1v x2v x3v x4v x5v x6v x7v x8v x9v;clear hc hok hd hcv;have i1:(0:Int)<=(i:Int):=by omega
   have i2:(i:Int)<(m:Int):=by omega
   have hstep:¬(Zc l c ⟨kdv,(av:Int),cbv,ov,wdv,ctv⟩/\kdv=kind)->∀(j:Nat) e,j<i+1->l[j]? =some e->Zc l c e->e.kind≠kind:=fun hn j e hj he hs=>by
    by_cases hji:j=i
    ·subst hji;rw[HCv.o]at he;cases he;exact fun h=>hn ⟨hs,h⟩
    ·exact HF.o j e (by omega) he hs
   have HST:=hid hstep;clear hstep
   go_wp2_with fail
   refine HQ.o.mono ?_;rintro e5 w5 ⟨b,rfl,hb,hx5⟩;have b0:=hx5.cell b0;have x0v:=hx5.cell x0v;have HX5:=hid (HX.o.trans hx5);have HB:=hid hb;clear hx5 b1 b2 x1v x2v x3v x4v x5v x6v x7v x8v x9v hb
   have hcell:b=true↔Zc l c ⟨kdv,(av:Int),cbv,ov,wdv,ctv⟩:=HB.o.trans ⟨fun⟨c',e',h1,h2,h3⟩=>by
    rw[HCC.o]at h1;cases h1;rw[HCv.o]at h2;cases h2;exact h3,fun h=>⟨_,_,HCC.o,HCv.o,h⟩⟩
   have HCE:=hid hcell;clear hcell
   cases b with
   | false=>
    go_wp2
    first
     |go_roundw
     |refine⟨?rel, ?measure⟩
    case rel=>exact⟨i+1,by omega,by go_num,HX5,hid (HST.o (fun h=>by have:=HCE.o.2 h.1;cases this))⟩
    case measure=>simp [intOf];omega
   | true=>
    by_cases h2:kdv=kind
    ·have g2:(kdv == kind)=true:=by simp[h2]
     have H2:=hid h2;clear h2
     go_wp2
     go_ret;exact ZK.of ⟨fun _=>⟨_,Qx HCv.o,HCE.o.1 (by simp),H2.o⟩,fun _=>rfl⟩ (HE0.o.trans HX5.o)
    ·have g2:(kdv == kind)=false:=by simp[h2]
     have H2:=hid h2;clear h2
     go_wp2
     first
      |go_roundw
      |refine⟨?rel, ?measure⟩
     case rel=>exact⟨i+1,by omega,by go_num,HX5,hid (HST.o (fun h=>H2.o h.2))⟩
     case measure=>simp [intOf];omega
  ·obtain rfl:i=m:=by omega
   have i1:¬(i:Int)<(i:Int):=by omega
   go_wp2
   go_ret;refine ZK.of ⟨fun h=>(by cases h),fun⟨e,he,h2,h3⟩=>?_⟩ (HE0.o.trans HX.o);obtain⟨j,hj⟩:=List.getElem?_of_mem he;exact absurd h3 (HF.o j e (by have:=(Qz hj).1;have:=HM.o;omega) hj h2)
def yB (l:List Con)(n k:Nat)(c:Con)(x y:Nat):Prop:=(c.kind=0/\c.a=(x:Int)/\c.b=(y:Int))\/(c.kind=2/\n<=x/\YP l k (x - n)/\c.b=(y:Int))\/(c.kind=3/\n<=y/\YP l k (y - n)/\c.b=(x:Int))
theorem tg (hs:PrS d w S A m me B N f l n C) (x y:Nat) (hx:x<n+m) (hy:y<n+m):Calls Tryz.prog 64 #[.agg #[.slice A m me,.int .i64 n,.slice B N f],.int .i64 x,.int .i64 y] w (ZK w (Jm l n x y)):=by
 obtain⟨W0,hW0⟩:=Qg (w.alloc (.cells #[.slice A m me,.int .i64 n,.slice B N f] 79));have hE0:Ext w W0:=by rw[<-hW0];exact(Ext.refl w).alloc _
 have b0:W0.cell? ⟨w.heap.size,0,none⟩=some (.slice A m me):=by rw[<-hW0];simp[go_sem]
 have b1:W0.cell? ⟨w.heap.size,1,none⟩=some (.int .i64 n):=by rw[<-hW0];simp[go_sem]
 have b2:W0.cell? ⟨w.heap.size,2,none⟩=some (.slice B N f):=by rw[<-hW0];simp[go_sem]
 have HE0:=hid hE0;have HS:=hid (hs.ext hE0);have HB0:=hid b0;have HB1:=hid b1;have HB2:=hid b2;have HM:=hid hs.sl.len;have HNM:=hid hs.num;obtain⟨hm1,hm2⟩:=hs.sl.cap;obtain⟨hf1,hf2⟩:=hs.cl.cap;have hN20:=hs.n20;have hM20:=hs.m20;clear hE0 hs;have ix:n<=x->IntKind.i64.wrap ((x:Int) - (n:Int))=((x - n:Nat):Int):=fun h=>by rw[IntWalk.i64_in _ (by omega)];omega
 have iy:n<=y->IntKind.i64.wrap ((y:Int) - (n:Int))=((y - n:Nat):Int):=fun h=>by rw[IntWalk.i64_in _ (by omega)];omega
 have IX:=hid ix;have IY:=hid iy;clear ix iy;go_enter Tryz.func64,Tryz.ntmps64
 go_wp2
 clear hW0 b0 b1 b2
 go_loopw [7] (fun s wr=>∃k:Nat,k<=m/\s= .int .i64 k/\Hid (Ext W0 wr)/\Hid (∀(j:Nat) c,j<k->l[j]? =some c->¬yB l n j c x y)) (fun s _=>m - (intOf s).toNat)
 case atStart=>exact⟨0,by omega,rfl,hid (Ext.refl _),hid (fun j c h=>absurd h (Nat.not_lt_zero _))⟩
 case round=>
  obtain⟨k,hk,rfl,HX,HF⟩:=hrel;by_cases h1:k<m
  ·have HQX:=hid (fun w' (hw:Ext wr w') (hnx:n<=x)=>vV (HS.o.ext (HX.o.trans hw)) k (x - n) h1 (by omega));have HQY:=hid (fun w' (hw:Ext wr w') (hny:n<=y)=>vV (HS.o.ext (HX.o.trans hw)) k (y - n) h1 (by omega));obtain⟨cu,du,bA,oA,P1u,n1u,c1u,P2u,n2u,c2u,hc,hok,hd,rfl,hcv,hbx⟩:=(HS.o.ext HX.o).con h1;obtain⟨x0u,x1u,x2u,x3u,x4u,x5u,x6u,x7u,x8u,x9u⟩:=hbx;have HCVu:=hid hcv;have HCu:=hid hc;have HOKu:=hid hok;have HDu:=hid hd;obtain⟨kdu,cau,cbu,ou,wdu,ctu⟩:=cu;obtain⟨au,rfl⟩:∃a:Nat,cau=(a:Int):=⟨cau.toNat,(Qk hok.a0).symm⟩;have hau:au<n:=by have:=hok.a1;simp only at this;omega
   simp only at x0u x1u x2u x3u x4u x5u x6u x7u x8u x9u;clear hc hok hd hcv;have i1:(0:Int)<=(k:Int):=by omega
   have i2:(k:Int)<(m:Int):=by omega
   have HST:Hid (¬yB l n k ⟨kdu,(au:Int),cbu,ou,wdu,ctu⟩ x y->∀(j:Nat) e,j<k+1->l[j]? =some e->¬yB l n j e x y):=hid (fun hn j e hj he=>by
    by_cases hji:j=k
    ·subst hji;rw[HCu.o]at he;cases he;exact hn
    ·exact HF.o j e (by omega) he)
   obtain⟨W1u,hW1u⟩:=Qg ((wr).alloc (.cells #[.int .i64 0,.int .i64 0,.int .i64 0,.int .i64 0,.int .i64 0,.int .i64 0,.int .i64 0,.int .i64 0,.slice none 0 0,.slice none 0 0] 44));have hB1:Zg W1u (wr).heap.size ZW:=by rw[<-hW1u];exact Zg.new wr ZW _
   have hE1:Ext wr W1u:=by rw[<-hW1u];exact(Ext.refl _).alloc _
   obtain⟨W2u,hW2,hB2,hH2,hS2,hX2⟩:=Jj hB1 ⟨kdu,(au:Int),cbu,ou,wdu,ctu⟩ P1u n1u c1u P2u n2u c2u;simp only at hW2 hB2;have HXCu:=hid (hX2 wr hE1 (Nat.le_refl _));have HWCu:=hid hW2;have HBCu:=hid hB2;have z0:=hB1.1 0 _ rfl;have z1:=hB1.1 1 _ rfl;have z2:=hB1.1 2 _ rfl;have z3:=hB1.1 3 _ rfl;have z4:=hB1.1 4 _ rfl;have z5:=hB1.1 5 _ rfl;have z6:=hB1.1 6 _ rfl;have z7:=hB1.1 7 _ rfl;have z8:=hB1.1 8 _ rfl;have z9:=hB1.1 9 _ rfl;have y0:=hB1.2.1 0;have y1:=hB1.2.1 1;have y2:=hB1.2.1 2;have y3:=hB1.2.1 3;have y4:=hB1.2.1 4;have y5:=hB1.2.1 5;have y6:=hB1.2.1 6;have y7:=hB1.2.1 7;have y8:=hB1.2.1 8;have y9:=hB1.2.1 9;clear hW2 hB2 hH2 hS2 hX2 hE1 hB1;have b0:=HX.o.cell HB0.o;go_upto_region 5 with fail
   rw[HWCu.o];clear z0 z1 z2 z3 z4 z5 z6 z7 z8 z9 y0 y1 y2 y3 y4 y5 y6 y7 y8 y9 x0u x1u x2u x3u x4u x5u x6u x7u x8u x9u hW1u;obtain⟨c0,c1,c2,c3,c4,c5,c6,c7,c8,c9⟩:=HBCu.o;rw[Nat.zero_add]at c1 c2 c3 c4 c5 c6 c7 c8 c9;simp only at c0 c1 c2 c3 c4 c5 c6 c7 c8 c9;clear b0;have HXR:=hid (HX.o.trans HXCu.o);have HX2:=hid HXCu.o;have b0:=HXR.o.cell HB0.o;have b1:=HXR.o.cell HB1.o;have b2:=HXR.o.cell HB2.o;obtain⟨V,hV⟩:∃V,V=W2u:=⟨_,rfl⟩;obtain rfl:=hV;clear HWCu HBCu HCVu;by_cases k0:kdu=0
   ·subst k0;by_cases e1:(au:Int)=(x:Int)
    ·have g1:((au:Int) == (x:Int))=true:=by simp;omega
     by_cases e2:cbu=(y:Int)
     ·have g2:(cbu == (y:Int))=true:=by simp[e2]
      have E1:=hid e1;have E2:=hid e2;clear e1 e2
      go_wp2
      go_ret;exact ZK.of ⟨fun _=>⟨k,_,HCu.o,.inl ⟨rfl,E1.o,E2.o⟩⟩,fun _=>rfl⟩ (HE0.o.trans HXR.o)
     ·have g2:(cbu == (y:Int))=false:=by simp[e2]
      have E2:=hid e2;clear e1 e2
      go_wp2
      first
       |go_roundw
       |refine⟨?rel, ?measure⟩
      case rel=>
       refine⟨k+1,by omega,by go_num,HXR,hid (HST.o (fun h=>?_))⟩;rcases h with⟨h0,h1,h2⟩|⟨h0,h1,h2,h3⟩|⟨h0,h1,h2,h3⟩
       ·exact E2.o h2
       ·exact(by simp at h0)
       ·exact(by simp at h0)
      case measure=>simp [intOf];omega
    ·have g1:((au:Int) == (x:Int))=false:=by simp;omega
     have E1:=hid e1;clear e1
     go_wp2
     first
      |go_roundw
      |refine⟨?rel, ?measure⟩
     case rel=>
      refine⟨k+1,by omega,by go_num,HXR,hid (HST.o (fun h=>?_))⟩;rcases h with⟨h0,h1,h2⟩|⟨h0,h1,h2,h3⟩|⟨h0,h1,h2,h3⟩
      ·exact E1.o h1
      ·exact(by simp at h0)
      ·exact(by simp at h0)
     case measure=>simp [intOf];omega
   have g0:(kdu == 0)=false:=by simp[k0]
   by_cases k2:kdu=2
   ·subst k2;by_cases hnx:n<=x
    ·have j1:(x:Int)>=(n:Int):=by omega
     have j2:=IX.o hnx;have HQ:=hid (fun w' hw=>HQX.o w' hw hnx)
     go_wp2_with fail
     refine(HQ.o _ HX2.o).mono ?_;rintro e5 w5 ⟨b,rfl,hb,hx5⟩;have b0:=hx5.cell b0;have b1:=hx5.cell b1;have b2:=hx5.cell b2;have c0:=hx5.cell c0;have c1:=hx5.cell c1;have c2:=hx5.cell c2;have HXR:=hid (HXR.o.trans hx5);have HB:=hid hb;clear hx5 hb c3 c4 c5 c6 c7 c8 c9
     cases b with
     | false=>
      go_wp2
      first
       |go_roundw
       |refine⟨?rel, ?measure⟩
      case rel=>
       refine⟨k+1,by omega,by go_num,HXR,hid (HST.o (fun h=>?_))⟩;rcases h with⟨h0,h1,h2⟩|⟨h0,h1,h2,h3⟩|⟨h0,h1,h2,h3⟩
       ·exact absurd h0 (by simp)
       ·exact absurd (HB.o.2 h2) (by simp)
       ·exact(by simp at h0)
      case measure=>simp [intOf];omega
     | true=>
      by_cases e2:cbu=(y:Int)
      ·have g2:(cbu == (y:Int))=true:=by simp[e2]
       have E2:=hid e2;clear e2
       go_wp2
       go_ret;exact ZK.of ⟨fun _=>⟨k,_,HCu.o,.inr (.inl ⟨rfl,hnx,HB.o.1 (by simp),E2.o⟩)⟩,fun _=>rfl⟩ (HE0.o.trans HXR.o)
      ·have g2:(cbu == (y:Int))=false:=by simp[e2]
       have E2:=hid e2;clear e2
       go_wp2
       first
        |go_roundw
        |refine⟨?rel, ?measure⟩
       case rel=>
        refine⟨k+1,by omega,by go_num,HXR,hid (HST.o (fun h=>?_))⟩;rcases h with⟨h0,h1,h2⟩|⟨h0,h1,h2,h3⟩|⟨h0,h1,h2,h3⟩
        ·exact absurd h0 (by simp)
        ·exact E2.o h3
        ·exact(by simp at h0)
       case measure=>simp [intOf];omega
    ·have j1:¬(x:Int)>=(n:Int):=by omega
     go_wp2
     first
      |go_roundw
      |refine⟨?rel, ?measure⟩
     case rel=>
      refine⟨k+1,by omega,by go_num,HXR,hid (HST.o (fun h=>?_))⟩;rcases h with⟨h0,h1,h2⟩|⟨h0,h1,h2,h3⟩|⟨h0,h1,h2,h3⟩
      ·exact absurd h0 (by simp)
      ·exact hnx h1
      ·exact(by simp at h0)
     case measure=>simp [intOf];omega
   have g2:(kdu == 2)=false:=by simp[k2]
   by_cases k3:kdu=3
   ·subst k3;by_cases hny:n<=y
    ·have j1:(y:Int)>=(n:Int):=by omega
     have j2:=IY.o hny;have HQ:=hid (fun w' hw=>HQY.o w' hw hny)
     go_wp2_with fail
     refine(HQ.o _ HX2.o).mono ?_;rintro e5 w5 ⟨b,rfl,hb,hx5⟩;have b0:=hx5.cell b0;have b1:=hx5.cell b1;have b2:=hx5.cell b2;have c0:=hx5.cell c0;have c1:=hx5.cell c1;have c2:=hx5.cell c2;have HXR:=hid (HXR.o.trans hx5);have HB:=hid hb;clear hx5 hb c3 c4 c5 c6 c7 c8 c9
     cases b with
     | false=>
      go_wp2
      first
       |go_roundw
       |refine⟨?rel, ?measure⟩
      case rel=>
       refine⟨k+1,by omega,by go_num,HXR,hid (HST.o (fun h=>?_))⟩;rcases h with⟨h0,h1,h2⟩|⟨h0,h1,h2,h3⟩|⟨h0,h1,h2,h3⟩
       ·exact absurd h0 (by simp)
       ·exact absurd h0 (by simp)
       ·exact absurd (HB.o.2 h2) (by simp)
      case measure=>simp [intOf];omega
     | true=>
      by_cases e2:cbu=(x:Int)
      ·have g2:(cbu == (x:Int))=true:=by simp[e2]
       have E2:=hid e2;clear e2
       go_wp2
       go_ret;exact ZK.of ⟨fun _=>⟨k,_,HCu.o,.inr (.inr ⟨rfl,hny,HB.o.1 (by simp),E2.o⟩)⟩,fun _=>rfl⟩ (HE0.o.trans HXR.o)
      ·have g2:(cbu == (x:Int))=false:=by simp[e2]
       have E2:=hid e2;clear e2
       go_wp2
       first
        |go_roundw
        |refine⟨?rel, ?measure⟩
       case rel=>
        refine⟨k+1,by omega,by go_num,HXR,hid (HST.o (fun h=>?_))⟩;rcases h with⟨h0,h1,h2⟩|⟨h0,h1,h2,h3⟩|⟨h0,h1,h2,h3⟩
        ·exact absurd h0 (by simp)
        ·exact absurd h0 (by simp)
        ·exact E2.o h3
       case measure=>simp [intOf];omega
    ·have j1:¬(y:Int)>=(n:Int):=by omega
     go_wp2
     first
      |go_roundw
      |refine⟨?rel, ?measure⟩
     case rel=>
      refine⟨k+1,by omega,by go_num,HXR,hid (HST.o (fun h=>?_))⟩;rcases h with⟨h0,h1,h2⟩|⟨h0,h1,h2,h3⟩|⟨h0,h1,h2,h3⟩
      ·exact absurd h0 (by simp)
      ·exact absurd h0 (by simp)
      ·exact hny h1
     case measure=>simp [intOf];omega
   have g3:(kdu == 3)=false:=by simp[k3]
   have K0:=hid k0;have K2:=hid k2;have K3:=hid k3;clear k0 k2 k3
   go_wp2
   first
    |go_roundw
    |refine⟨?rel, ?measure⟩
   case rel=>
    refine⟨k+1,by omega,by go_num,HXR,hid (HST.o (fun h=>?_))⟩;rcases h with⟨h0,h1,h2⟩|⟨h0,h1,h2,h3⟩|⟨h0,h1,h2,h3⟩
    ·exact K0.o h0
    ·exact K2.o h0
    ·exact K3.o h0
   case measure=>simp [intOf];omega
  ·obtain rfl:k=m:=by omega
   have i1:¬(k:Int)<(k:Int):=by omega
   have b0:=HX.o.cell HB0.o
   go_wp2
   go_ret;refine ZK.of ⟨fun h=>(by cases h),fun⟨j,c,hc,h⟩=>?_⟩ (HE0.o.trans HX.o);exact absurd h (HF.o j c (by have:=(Qz hc).1;have:=HM.o;omega) hc)
end
end Go.Proofs.YtlmipgdnlfjpaaaGreat
