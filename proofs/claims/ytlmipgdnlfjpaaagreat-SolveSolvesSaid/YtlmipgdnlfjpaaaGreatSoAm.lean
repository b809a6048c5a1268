/- Lemmas of mine, merged. -/
import Derived.Test.YtlmipgdnlfjpaaaGreatTymm
import Derived.Test.YtlmipgdnlfjpaaaGreatJbdm
set_option maxRecDepth 100000
set_option maxHeartbeats 4000000
set_option linter.unusedSimpArgs false
set_option linter.unusedVariables false
namespace Go.Proofs.YtlmipgdnlfjpaaaGreat
open Go.RowKit Go.Deco
theorem yb (d:Nat)(w:World)(c:Con)(v:Value)(hv:Xc d w All v c):Calls Tryz.prog 46 #[v] w (ZX w (QY c)):=by
 obtain⟨A,n,e,B,m,f,rfl,hcb,hct⟩:=hv;obtain⟨W0,hW0⟩:=Qg (w.alloc (.cells #[.int .i64 c.kind,.int .i64 c.a,.int .i64 c.b,.int .i64 c.off,.int .i64 c.width,.int .i64 c.type.kind,.int .i64 c.type.size,.int .i64 c.type.count,.slice A n e,.slice B m f] 48));have hE0:Ext w W0:=by rw[<-hW0];exact(Ext.refl w).alloc _
 have hP:Xj W0 w.heap.size 0 c A n e B m f:=by rw[<-hW0];exact Xj.new w c A n e B m f _
 obtain⟨p0,p1,p2,p3,p4,p5,p6,p7,p8,p9⟩:=hP;have HE0:=hid hE0;clear hcb hE0;clear hct;obtain⟨z,hz⟩:=Qg (QY c);rw[hz];unfold QY at hz;have HZ:=hid hz;clear hz;obtain⟨k,a,b,o,wd,t⟩:=c;simp only at p0 p1 p2 p3 p4 p5 p6 p7 p8 p9 HZ hW0 ⊢;by_cases h1:k=2
 ·have g1:(k == 2)=true:=by simp[h1]
  obtain rfl:z=true:=by rw[<-HZ.o];exact Qv (.inl h1)
  clear h1;go_enter Tryz.func46,Tryz.ntmps46
  go_wp2
  go_ret;exact⟨rfl,HE0.o⟩
 have g1:(k == 2)=false:=by simp[h1]
 by_cases h2:k=3
 ·have g2:(k == 3)=true:=by simp[h2]
  obtain rfl:z=true:=by rw[<-HZ.o];exact Qv (.inr h2)
  clear h1 h2;go_enter Tryz.func46,Tryz.ntmps46
  go_wp2
  go_ret;exact⟨rfl,HE0.o⟩
 have g2:(k == 3)=false:=by simp[h2]
 obtain rfl:z=false:=by rw[<-HZ.o];exact Qw (by simp[h1,h2])
 clear h1 h2;go_enter Tryz.func46,Tryz.ntmps46
 go_wp2
 go_ret;exact⟨rfl,HE0.o⟩
theorem ky (d:Nat)(w:World)(c:Con)(v:Value)(hv:Xc d w All v c):Calls Tryz.prog 49 #[v] w (ZX w (QQ c)):=by
 have HV:=hid hv;obtain⟨A,n,e,B,m,f,rfl,hcb,hct⟩:=hv;obtain⟨W0,hW0⟩:=Qg (w.alloc (.cells #[.int .i64 c.kind,.int .i64 c.a,.int .i64 c.b,.int .i64 c.off,.int .i64 c.width,.int .i64 c.type.kind,.int .i64 c.type.size,.int .i64 c.type.count,.slice A n e,.slice B m f] 48));have hE0:Ext w W0:=by rw[<-hW0];exact(Ext.refl w).alloc _
 have hP:Xj W0 w.heap.size 0 c A n e B m f:=by rw[<-hW0];exact Xj.new w c A n e B m f _
 obtain⟨p0,p1,p2,p3,p4,p5,p6,p7,p8,p9⟩:=hP;have HE0:=hid hE0;clear hcb hE0;clear hct;have HC:=hid (yb d W0 c _ (HV.o.ext HE0.o));obtain⟨z,hz⟩:=Qg (QQ c);rw[hz];unfold QQ at hz;obtain⟨y,hy⟩:=Qg (QY c);rw[hy]at hz HC;have HZ:=hid hz;clear hz hy HV;obtain⟨k,a,b,o,wd,t⟩:=c;simp only at p0 p1 p2 p3 p4 p5 p6 p7 p8 p9 HZ hW0 HC ⊢;go_enter Tryz.func49,Tryz.ntmps49
 go_wp2_with fail
 refine HC.o.mono ?_;rintro e w1 ⟨rfl,hx1⟩;have HX1:=hid (HE0.o.trans hx1);have p4:=hx1.cell p4;clear hx1 hW0 p0 p1 p2 p3 p5 p6 p7 p8 p9
 cases y with
 |false=>
  obtain rfl:z=false:=by rw[<-HZ.o];rfl
  go_wp2
  go_ret;exact⟨rfl,HX1.o⟩
 | true=>
  by_cases h1:wd=4
  ·have g1:(wd == 4)=true:=by simp[h1]
   obtain rfl:z=true:=by rw[<-HZ.o,Qv h1];rfl
   clear h1
   go_wp2
   go_ret;exact⟨rfl,HX1.o⟩
  ·have g1:(wd == 4)=false:=by simp[h1]
   obtain rfl:z=false:=by rw[<-HZ.o,Qw h1];rfl
   clear h1
   go_wp2
   go_ret;exact⟨rfl,HX1.o⟩
theorem yg (d:Nat)(w:World):Calls Tryz.prog 55 #[] w (KM d w Ty.any):=by
 have hB:=Qm.new w (.int .i64 0) (.int .i64 0) (.int .i64 0) (.slice none 0 0) (.slice none 0 0) 42;obtain⟨W0,hW0⟩:=Qg (w.alloc (.cells #[.int .i64 0,.int .i64 0,.int .i64 0,.slice none 0 0,.slice none 0 0] 42));have hE0:Ext w W0:=by rw[<-hW0];exact(Ext.refl w).alloc _
 rw[hW0]at hB;obtain⟨W3,hW3,hB3,hH3,hS3,hX3⟩:=QK hB (.int .i64 6) (.int .i64 0) (.int .i64 0) (.slice none 0 0) (.slice none 0 0);obtain⟨t0,t1,t2,t3,t4, -⟩:=hB3;obtain⟨r0,r1,r2,r3,r4,rf⟩:=hB;have u0:=rf 0;have u1:=rf 1;have u2:=rf 2;have u3:=rf 3;have u4:=rf 4;have HW3:=hid hW3;have HX3:=hid (hX3 w hE0 (Nat.le_refl _));clear hW3 hH3 hX3 hS3 rf hE0;go_enter Tryz.func55,Tryz.ntmps55
 go_wp2
 rw[HW3.o];clear r0 r1 r2 r3 r4;refine bodyPost_ret (v:= .agg #[.int .i64 6,.int .i64 0,.int .i64 0,.slice none 0 0,.slice none 0 0]) (by simp[results,Tryz.results55,go_sem,t0,t1,t2,t3,t4]) rfl ?_;exact⟨_,rfl,Vk,HX3.o⟩
theorem oV {l:List Ty}{k:Nat}{x:Ty}(hk:l[k]? =some x):Q7 (l.take (k+1))=Q7 (l.take k)+QV x:=by
 rw[VC hk];generalize l.take k=m
 induction m with
 |nil=>simp [Q7]
 |cons y m ih=>rw [List.cons_append,Q7,Q7,ih];omega
theorem oJ {l:List (Int×Ty)}{k:Nat}{x:Int×Ty}(hk:l[k]? =some x):cntF (l.take (k+1))=cntF (l.take k)+QV x.2:=by
 rw[VC hk];generalize l.take k=m;obtain⟨o,t⟩:=x
 induction m with
 |nil=>simp [cntF]
 |cons y m ih=>obtain⟨p,u⟩:=y;rw[List.cons_append,cntF,cntF,ih];omega
theorem dG:∀(l:List Ty) (k:Nat),Q7 (l.take k)<=Q7 l
 |[],k=>by simp[Q7]
 |x :: l,0=>by simp[Q7]
 |x :: l,k+1=>by rw[List.take_succ_cons,Q7,Q7];have:=dG l k;omega
theorem dY:∀(l:List (Int×Ty)) (k:Nat),cntF (l.take k)<=cntF l
 |[],k=>by simp[cntF]
 |(o,x) :: l,0=>by simp[cntF]
 |(o,x) :: l,k+1=>by rw[List.take_succ_cons,cntF,cntF];have:=dY l k;omega
theorem bp:∀{l:List Ty} {x:Ty},x∈l->QV x<=Q7 l
 |y :: l,x,h=>by
  rw[Q7];rcases List.mem_cons.1 h with rfl|h
  ·omega
  ·have:=bp h;omega
theorem bc:∀{l:List (Int×Ty)} {x:Int×Ty},x∈l->QV x.2<=cntF l
 |(o,y) :: l,x,h=>by
  rw[cntF];rcases List.mem_cons.1 h with rfl|h
  ·simp
  ·have:=bc h;omega
theorem l4:∀(d:Nat) (w:World) (t:Ty) (v:Value),TyV d w All v t->QV t<=1000000000->Calls Tryz.prog 107 #[v] w (gQ w (QV t)):=by
 intro d
 induction d using Nat.strongRecOn with
 | _ d ih=>
  intro w t v hv hc;obtain⟨A,na,ca,B,nb,cb,rfl,hA,hB, -⟩:=hv;have hla:=hA.len;have hlb:=hB.len;obtain⟨ha1,ha2⟩:=hA.cap;obtain⟨hb1,hb2⟩:=hB.cap;obtain⟨W0,hW0⟩:=Qg (w.alloc (.cells #[.int .i64 t.kind,.int .i64 t.size,.int .i64 t.count,.slice A na ca,.slice B nb cb] 42));have hE0:Ext w W0:=by rw[<-hW0];exact(Ext.refl w).alloc _
  have o0:W0.cell? ⟨w.heap.size,0,none⟩=some (.int .i64 t.kind):=by rw[<-hW0];simp[go_sem]
  have o1:W0.cell? ⟨w.heap.size,1,none⟩=some (.int .i64 t.size):=by rw[<-hW0];simp[go_sem]
  have o2:W0.cell? ⟨w.heap.size,2,none⟩=some (.int .i64 t.count):=by rw[<-hW0];simp[go_sem]
  have o3:W0.cell? ⟨w.heap.size,3,none⟩=some (.slice A na ca):=by rw[<-hW0];simp[go_sem]
  have o4:W0.cell? ⟨w.heap.size,4,none⟩=some (.slice B nb cb):=by rw[<-hW0];simp[go_sem]
  have HE0:=hid hE0;clear hE0;obtain⟨k,s,c,e,f⟩:=t;simp only[Ty.kind,Ty.size,Ty.count,Ty.fields,Ty.elem]at *;rw[QV]at hc ⊢;have HA:=hid hA;have HB:=hid hB;have HLA:=hid hla;have HLB:=hid hlb;have HC:=hid hc;have HIH:=hid ih;have HO4:=hid o4;clear hA hB hla hlb hc ih;go_enter Tryz.func107,Tryz.ntmps107
  go_wp2
  clear o0 o1 o2 o3 o4 hW0
  go_loopw [3,11] (fun x3 i wr=>∃j:Nat,j<=na/\i= .int .i64 j/\x3= .int .i64 ((1+Q7 (e.take j):Nat):Int)/\Hid (Ext W0 wr)) (fun _ i _=>na - (intOf i).toNat)
  case atStart=>exact⟨0,by omega,rfl,by simp[Q7],hid (Ext.refl _)⟩
  case round=>
   obtain⟨j,hj,rfl,rfl,HX⟩:=hrel;by_cases h1:j<na
   ·obtain⟨x,hx⟩:∃x,e[j]? =some x:=⟨_,Qq (by have:=HLA.o;omega)⟩;obtain⟨d1,bx,ox,P1,np1,cp1,P2,np2,cp2,hd,rfl,hv1,x0,x1,x2,x3,x4⟩:=(HA.o.ext (HE0.o.trans HX.o)).ty_at hx;have hct:=bp (Qx hx);have hct2:=oV hx;have hct3:=dG e (j+1);obtain⟨W1,hW1⟩:=Qg (wr.alloc (.cells #[.int .i64 0,.int .i64 0,.int .i64 0,.slice none 0 0,.slice none 0 0] 42));have hB1:Qm W1 wr.heap.size (.int .i64 0) (.int .i64 0) (.int .i64 0) (.slice none 0 0) (.slice none 0 0):=by rw[<-hW1];exact Qm.new wr _ _ _ _ _ _
    have hE1:Ext wr W1:=by rw[<-hW1];exact(Ext.refl _).alloc _
    obtain⟨W2,hW2,hB2,hH2,hS2,hX2⟩:=QK hB1 (.int .i64 x.kind) (.int .i64 x.size) (.int .i64 x.count) (.slice P1 np1 cp1) (.slice P2 np2 cp2);have hE2:Ext wr W2:=hX2 wr hE1 (Nat.le_refl _);have HX2:=hid hE2;have HW2:=hid hW2;have HCC:=hid (HIH.o d1 (by omega) W2 x _ (hv1.ext hE2) (by have:=HC.o;omega));obtain⟨m,hm⟩:=Qg (Q7 (e.take j));obtain⟨y,hy⟩:=Qg (QV x);rw[hy]at HCC hct2;rw[hm]at hct2 ⊢;have HT:=hid hct2;have e1:IntKind.i64.wrap (1+(m:Int)+(y:Int))=1+(m:Int)+(y:Int):=IntWalk.i64_in _ (by have:=HC.o;omega);obtain⟨s0,s1,s2,s3,s4, -⟩:=hB2;obtain⟨z0,z1,z2,z3,z4,zf⟩:=hB1;have y0:=zf 0;have y1:=zf 1;have y2:=zf 2;have y3:=zf 3;have y4:=zf 4;clear hW2 hH2 hS2 hX2 hE2 hE1 hd hv1 hx zf hct hct2 hct3 hm hy;go_upto_region 5 with fail
    rw[HW2.o];clear z0 z1 z2 z3 z4 y0 y1 y2 y3 y4 x0 x1 x2 x3 x4 hW1
    go_wp2_with fail
    refine HCC.o.mono ?_;rintro e w5 ⟨rfl,hx5⟩;have HX5:=hid (HX.o.trans (HX2.o.trans hx5));clear hx5 s0 s1 s2 s3 s4
    go_wp2
    first
     |go_roundw
     |refine⟨?rel, ?measure⟩
    case rel=>exact⟨j+1,by omega,by go_num,by rw[HT.o];exact congrArg (Value.int .i64) (by omega),HX5⟩
    case measure=>simp [intOf];omega
   ·obtain rfl:j=na:=by omega
    have he:e.take j=e:=Qj (by have:=HLA.o;omega);rw[he];have o4:=HX.o.c HO4.o;clear he
    go_wp2
    clear o4
    go_loopw [3,23] (fun x3 i wr=>∃q:Nat,q<=nb/\i= .int .i64 q/\x3= .int .i64 ((1+Q7 e+cntF (f.take q):Nat):Int)/\Hid (Ext W0 wr)) (fun _ i _=>nb - (intOf i).toNat)
    case atStart=>exact⟨0,by omega,rfl,by simp[cntF],HX⟩
    case round=>
     obtain⟨q,hq,rfl,rfl,HX⟩:=hrel;by_cases h1:q<nb
     ·obtain⟨x,hx⟩:∃x,f[q]? =some x:=⟨_,Qq (by have:=HLB.o;omega)⟩;obtain⟨d1,bx,ox,P1,np1,cp1,P2,np2,cp2,hd,rfl,hv1,hi1,x0,x1,x2,x3,x4,x5⟩:=(HB.o.ext (HE0.o.trans HX.o)).fd_at hx;have hct:=bc (Qx hx);have hct2:=oJ hx;have hct3:=dY f (q+1);obtain⟨W1,hW1⟩:=Qg (wr.alloc (.cells #[.int .i64 0,.int .i64 0,.int .i64 0,.int .i64 0,.slice none 0 0,.slice none 0 0] 59));have hB1:Z9 W1 wr.heap.size (.int .i64 0) (.int .i64 0) (.int .i64 0) (.int .i64 0) (.slice none 0 0) (.slice none 0 0):=by rw[<-hW1];exact Z9.new wr _ _ _ _ _ _ _
      have hE1:Ext wr W1:=by rw[<-hW1];exact(Ext.refl _).alloc _
      obtain⟨W2,hW2,hB2,hH2,hS2,hX2⟩:=eD hB1 (.int .i64 x.1) (.int .i64 x.2.kind) (.int .i64 x.2.size) (.int .i64 x.2.count) (.slice P1 np1 cp1) (.slice P2 np2 cp2);have hE2:Ext wr W2:=hX2 wr hE1 (Nat.le_refl _);have HX2:=hid hE2;have HW2:=hid hW2;have HCC:=hid (HIH.o d1 (by omega) W2 x.2 _ (hv1.ext hE2) (by have:=HC.o;omega));obtain⟨m,hm⟩:=Qg (cntF (f.take q));obtain⟨y,hy⟩:=Qg (QV x.2);obtain⟨me,hme⟩:=Qg (Q7 e);rw[hy]at HCC hct2;rw[hm]at hct2;have HCE:=hid HC.o;rw[hme]at HCE;have HM:=hid hm;have HME:=hid hme;have HT:=hid hct2;have e1:IntKind.i64.wrap (1+(me:Int)+(m:Int)+(y:Int))=1+(me:Int)+(m:Int)+(y:Int):=IntWalk.i64_in _ (by have:=HCE.o;omega);obtain⟨s0,s1,s2,s3,s4,s5, -⟩:=hB2;obtain⟨z0,z1,z2,z3,z4,z5,zf⟩:=hB1;have y0:=zf 0;have y1:=zf 1;have y2:=zf 2;have y3:=zf 3;have y4:=zf 4;have y5:=zf 5;rw[hm,hme];clear hW2 hH2 hS2 hX2 hE2 hE1 hd hv1 hx zf hct hct2 hct3 hm hy hi1 hme;go_upto_region 10 with fail
      rw[HW2.o];clear z0 z1 z2 z3 z4 z5 y0 y1 y2 y3 y4 y5 x0 x1 x2 x3 x4 x5 hW1
      go_wp2_with fail
      refine HCC.o.mono ?_;rintro e w5 ⟨rfl,hx5⟩;have HX5:=hid (HX.o.trans (HX2.o.trans hx5));clear hx5 s0 s1 s2 s3 s4 s5
      go_wp2
      first
       |go_roundw
       |refine⟨?rel, ?measure⟩
      case rel=>exact⟨q+1,by omega,by go_num,by rw[HT.o];exact congrArg (Value.int .i64) (by omega),HX5⟩
      case measure=>simp [intOf];omega
     ·obtain rfl:q=nb:=by omega
      have he:f.take q=f:=Qj (by have:=HLB.o;omega);rw[he];clear he;obtain⟨m,hm⟩:=Qg (1+Q7 e+cntF f);rw[hm];have HM:=hid hm;clear hm
      go_wp2
      go_ret;exact⟨by rw[HM.o];rfl,HE0.o.trans HX.o⟩
end Go.Proofs.YtlmipgdnlfjpaaaGreat
