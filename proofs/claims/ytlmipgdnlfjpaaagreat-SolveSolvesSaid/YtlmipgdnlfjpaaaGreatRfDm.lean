/- Lemmas of mine, merged. -/
import Derived.Test.YtlmipgdnlfjpaaaGreatRfCm
set_option maxRecDepth 100000
set_option maxHeartbeats 4000000
set_option linter.unusedSimpArgs false
set_option linter.unusedVariables false
namespace Go.Proofs.YtlmipgdnlfjpaaaGreat
open Go.RowKit Go.Deco
theorem jw:∀(d:Nat) (w:World) (t:Ty) (v:Value),TyV d w All v t->Qd t=true->Calls Tryz.prog 94 #[v] w (gQ w (szT t)):=by
 intro d
 induction d using Nat.strongRecOn with
 | _ d ih=>
  intro w t v hv hform;obtain⟨A,na,ca,B,nb,cb,rfl,hE,hF,hk,hs,hc⟩:=hv;have hla:=hE.len;have hlb:=hF.len;obtain⟨hac,ham⟩:=hE.cap;obtain⟨hbc,hbm⟩:=hF.cap;obtain⟨W0,hW0⟩:=Qg (w.alloc (.cells #[.int .i64 t.kind,.int .i64 t.size,.int .i64 t.count,.slice A na ca,.slice B nb cb] 42));have hE0:Ext w W0:=by rw[<-hW0];exact(Ext.refl w).alloc _
  have o0:W0.cell? ⟨w.heap.size,0,none⟩=some (.int .i64 t.kind):=by rw[<-hW0];simp[go_sem]
  have o1:W0.cell? ⟨w.heap.size,1,none⟩=some (.int .i64 t.size):=by rw[<-hW0];simp[go_sem]
  have o2:W0.cell? ⟨w.heap.size,2,none⟩=some (.int .i64 t.count):=by rw[<-hW0];simp[go_sem]
  have o3:W0.cell? ⟨w.heap.size,3,none⟩=some (.slice A na ca):=by rw[<-hW0];simp[go_sem]
  have o4:W0.cell? ⟨w.heap.size,4,none⟩=some (.slice B nb cb):=by rw[<-hW0];simp[go_sem]
  have HE:=hid hE;have HF:=hid hF;have HLA:=hid hla;have HLB:=hid hlb;have HE0:=hid hE0;have HIH:=hid ih;clear hE hF hla hlb hE0 ih hk hs hc;rcases Z1 hform with(rfl|rfl)|⟨s,hs,(rfl|rfl)⟩|⟨x,rfl,hx⟩|⟨x,m,rfl,hm1,hm2,hx⟩|⟨l,rfl,hl⟩
  ·simp only[Ty.kind,Ty.size,Ty.count,Ty.unk]at *;go_enter Tryz.func94,Tryz.ntmps94
   go_wp2
   go_ret;exact⟨rfl,HE0.o⟩
  ·simp only[Ty.kind,Ty.size,Ty.count,Ty.any]at *;go_enter Tryz.func94,Tryz.ntmps94
   go_wp2
   go_ret;exact⟨rfl,HE0.o⟩
  ·simp only[Ty.kind,Ty.size,Ty.count,Ty.int]at *;have HS:=hid (nV s hs);rcases hs with rfl|rfl|rfl
   all_goals
    go_enter Tryz.func94,Tryz.ntmps94
    go_wp2
    go_ret;exact⟨Kf HS.o.symm,HE0.o⟩
  ·simp only[Ty.kind,Ty.size,Ty.count,Ty.uint]at *;have HS:=hid (dj s hs);rcases hs with rfl|rfl|rfl
   all_goals
    go_enter Tryz.func94,Tryz.ntmps94
    go_wp2
    go_ret;exact⟨Kf HS.o.symm,HE0.o⟩
  ·simp only[Ty.kind,Ty.size,Ty.count,Ty.ptr]at *;go_enter Tryz.func94,Tryz.ntmps94
   go_wp2
   go_ret;exact⟨Kf (by rw[szT];simp;omega),HE0.o⟩
  ·simp only[Ty.kind,Ty.size,Ty.count,Ty.arr]at *;have HS:=hid (Kw x hx);have HS2:=hid (qB x);have hna:na=1:=by have:=HLA.o;simpa [Ty.elem] using this
   subst hna;obtain⟨d',b,off,A1,n1,c1,B1,m1,e1,hd,rfl,hv1,c0,c1',c2,c3,c4⟩:=(HE.o.ext HE0.o).ty_at (k:=0) (t:=x) rfl;have HC:=hid (fun w' (hw:Ext W0 w')=>HIH.o d' (by omega) w' x _ (hv1.ext hw) hx);simp only[Nat.zero_mul,Nat.add_zero]at c0 c1' c2 c3 c4;obtain⟨z,hz⟩:=Qg (szT x);have HR:Hid (szT (.mk 4 0 m [x] [])=min (m * z) 65537):=hid (by rw[<-hz];simp[szT,szE]);rw[hz]at HC HS HS2
   have w1:IntKind.i64.wrap (m * z)=m * z:=IntWalk.i64_in _ (by
    have h1:=Int.mul_nonneg (show 0<=m by omega) HS.o;have h2:=Int.mul_le_mul hm2 HS2.o HS.o (by omega:(0:Int)<=65536);omega)
   clear hd hv1 hz hform hx;go_enter Tryz.func94,Tryz.ntmps94
   go_wp2_with fail
   refine rgH (Ext.hc7 o2 o3 c0 c1' c2 c3 c4) (Ext.refl _).drew (fun hSg1q0=>?_);refine Qp 0 1 2 3 4 5 ?_;refine rgC 6 (fun K hK=>?_);go_simp;go_at_call 94;refine(HC.o _ (Ext.refl W0).drew).mono ?_;rintro e w5 ⟨rfl,hx5⟩;have HX5:=hid hx5.drew_left;clear hx5;refine rgK hK ⟨HX5.o.c o2,HX5.o.c o3,HX5.o.c c0,HX5.o.c c1',HX5.o.c c2,HX5.o.c c3,HX5.o.c c4⟩ (fun hSg1q1=>?_);clear hK K;refine QJ 7 8 ?_;refine wpAnyH_done (by kernel_rfl) ?_ _;clear w1
   go_wp2
   all_goals
    go_ret;exact⟨Kf (by rw[HR.o];omega),HE0.o.trans HX5.o⟩
  ·simp only[Ty.kind,Ty.size,Ty.count,Ty.str]at *;have HFL:=hid hl;have HR:Hid (szT (.mk 5 0 0 [] l)=min (szF 0 l) 65537):=hid (by simp[szT]);clear hl hform;have HO4:=hid o4;go_enter Tryz.func94,Tryz.ntmps94
   go_wp2
   go_loopw [4,3] (fun i s wr=>∃(k:Nat) (n:Int),k<=nb/\i= .int .i64 k/\s= .int .i64 n/\0<=n/\n<=131072/\Hid (n=szF 0 (l.take k))/\Hid (Ext W0 wr)) (fun i _ _=>nb - (intOf i).toNat)
   case atStart=>exact⟨0,0,by omega,rfl,rfl,by omega,by omega,hid rfl,hid (Ext.refl _)⟩
   case round=>
    obtain⟨k,n,hk,rfl,rfl,hn0,hn1,HN,HX⟩:=hrel;have o4:=HX.o.c HO4.o;by_cases h1:k<nb
    ·obtain⟨x,hx⟩:∃x,l[k]? =some x:=⟨_,Qq (by have:=HLB.o;simp[Ty.fields]at this;omega)⟩;obtain⟨d',b,off,A1,n1,c1,B1,m1,e1,hd,rfl,hv1, -,c0,c1',c2,c3,c4,c5⟩:=(HF.o.ext (HE0.o.trans HX.o)).fd_at hx;have hxf:=XF HFL.o x (Qx hx);have HC:=hid (fun w' (hw:Ext wr w')=>HIH.o d' (by omega) w' x.2 _ (hv1.ext hw) hxf.2.2);have hz0:=Kw x.2 hxf.2.2;have hz1:=qB x.2;have HST:=hid (dk hx);obtain⟨z,hz⟩:=Qg (szT x.2);rw[hz]at HC hz0 hz1 HST;have w1:IntKind.i64.wrap (x.1+z)=x.1+z:=IntWalk.i64_in _ (by omega);have w2:IntKind.i64.wrap ((k:Int)+1)=(k:Int)+1:=IntWalk.i64_in _ (by omega);have HB:Hid (x.1+z<=131072):=hid (by omega);clear hd hv1 hx hz hxf
     go_wp2_with fail
     refine rgH (Ext.hc7 o4 c0 c1' c2 c3 c4 c5) (Ext.refl _).drew (fun hSg2q0=>?_);refine Qp 0 1 2 3 4 5 ?_;refine Qp 6 7 8 9 10 11 ?_;refine rgT 12 ?_;refine rgC 13 (fun K hK=>?_);go_simp;go_at_call 94;refine(HC.o _ (Ext.refl wr).drew).mono ?_;rintro e w5 ⟨rfl,hx5⟩;have HX5:=hid hx5.drew_left;clear hx5;refine rgK hK ⟨HX5.o.c o4,HX5.o.c c0,HX5.o.c c1',HX5.o.c c2,HX5.o.c c3,HX5.o.c c4,HX5.o.c c5⟩ (fun hSg2q1=>?_);clear hK K;refine Zd 14 15 16 ?_;refine wpAnyH_done (by kernel_rfl) ?_ _;clear w1 w2 o4 c0 c1' c2 c3 c4 c5
     go_wp2
     go_roundw
     case rel=>exact⟨k+1,_,by omega,by go_num,rfl,by omega,by have:=HB.o;omega,hid (by rw[HST.o];have:=HN.o;omega),hid (HX.o.trans HX5.o)⟩
     case measure=>simp [intOf];omega
    ·obtain rfl:k=nb:=by omega
     have hn:n=szF 0 l:=by rw[HN.o,Qj (by have:=HLB.o;simp[Ty.fields]at this;omega)]
     have HN2:=hid hn;clear hn
     go_wp2
     all_goals
      go_ret;exact⟨Kf (by rw[HR.o,<-HN2.o];omega),HE0.o.trans HX.o⟩
theorem ap:∀(d:Nat) (w:World) (t:Ty) (v:Value),TyV d w All v t->Qd t=true->Calls Tryz.prog 87 #[v] w (ZX w (!wiT t)):=by
 intro d
 induction d using Nat.strongRecOn with
 | _ d ih=>
  intro w t v hv hform;have HSV:=hid (fun W (hW:Ext w W)=>jw d W t v (hv.ext hW) hform);obtain⟨A,na,ca,B,nb,cb,rfl,hE,hF,hk,hs,hc⟩:=hv;have hla:=hE.len;have hlb:=hF.len;obtain⟨hac,ham⟩:=hE.cap;obtain⟨hbc,hbm⟩:=hF.cap
  have hel:∀x∈t.elem,Qd x=true:=by
   rcases Z1 hform with(rfl|rfl)|⟨s,hs,(rfl|rfl)⟩|⟨x,rfl,hx⟩|⟨x,m,rfl,hm1,hm2,hx⟩|⟨l,rfl,hl⟩
   ·intro f hf;cases hf
   ·intro f hf;cases hf
   ·intro f hf;cases hf
   ·intro f hf;cases hf
   ·intro f hf;rw[List.mem_singleton.1 hf];exact hx
   ·intro f hf;rw[List.mem_singleton.1 hf];exact hx
   ·intro f hf;cases hf
  have hfl:∀f∈t.fields,Qd f.2=true:=by
   rcases Z1 hform with(rfl|rfl)|⟨s,hs,(rfl|rfl)⟩|⟨x,rfl,hx⟩|⟨x,m,rfl,hm1,hm2,hx⟩|⟨l,rfl,hl⟩
   ·intro f hf;cases hf
   ·intro f hf;cases hf
   ·intro f hf;cases hf
   ·intro f hf;cases hf
   ·intro f hf;cases hf
   ·intro f hf;cases hf
   ·exact fun f hf=>(XF hl f hf).2.2
  obtain⟨z,hz⟩:=Qg (wiT t);rw[hz];obtain⟨sz,hsz⟩:=Qg (szT t);obtain⟨tk,ts,tc,te,tf⟩:=t;rw[wiT,kZ,kX,hsz]at hz;rw[hsz]at HSV;simp only[Ty.kind,Ty.size,Ty.count,Ty.elem,Ty.fields]at hz hE hF hla hlb hel hfl HSV ⊢;obtain⟨W0,hW0⟩:=Qg (w.alloc (.cells #[.int .i64 tk,.int .i64 ts,.int .i64 tc,.slice A na ca,.slice B nb cb] 42));have hE0:Ext w W0:=by rw[<-hW0];exact(Ext.refl w).alloc _
  have o0:W0.cell? ⟨w.heap.size,0,none⟩=some (.int .i64 tk):=by rw[<-hW0];simp[go_sem]
  have o1:W0.cell? ⟨w.heap.size,1,none⟩=some (.int .i64 ts):=by rw[<-hW0];simp[go_sem]
  have o2:W0.cell? ⟨w.heap.size,2,none⟩=some (.int .i64 tc):=by rw[<-hW0];simp[go_sem]
  have o3:W0.cell? ⟨w.heap.size,3,none⟩=some (.slice A na ca):=by rw[<-hW0];simp[go_sem]
  have o4:W0.cell? ⟨w.heap.size,4,none⟩=some (.slice B nb cb):=by rw[<-hW0];simp[go_sem]
  have HZ:=hid hz;have HE:=hid hE;have HF:=hid hF;have HLA:=hid hla;have HLB:=hid hlb;have HE0:=hid hE0;have HIH:=hid ih;have HEL:=hid hel;have HFL:=hid hfl;clear hz hE hF hla hlb hE0 ih hk hs hc hel hfl hsz hform;go_enter Tryz.func87,Tryz.ntmps87
  go_wp2_with fail
  refine(HSV.o _ HE0.o).mono ?_;rintro e w1 ⟨rfl,hx1⟩;have HX1:=hid hx1;have o3:=hx1.cell o3;have o4:=hx1.cell o4;clear o0 o1 o2 hx1 hW0;by_cases h1:sz<=65536
  case neg=>
   have g1:decide (sz > 65536)=true:=Qv (by omega);obtain rfl:z=false:=by rw[<-HZ.o,Qw h1];simp
   clear h1
   go_wp2
   go_ret;exact⟨rfl,HE0.o.trans HX1.o⟩
  have g1:decide (sz > 65536)=false:=Qw (by omega);by_cases h0:nb<=64
  case neg=>
   have d0:decide ((nb:Int) > 64)=true:=Qv (by omega);have hgt:(nb:Int) > 64:=by omega
   obtain rfl:z=false:=by rw[<-HZ.o,Qw (show ¬tf.length<=64 by have:=HLB.o;omega)];rfl
   clear h1
   go_wp2
   go_ret;exact⟨rfl,HE0.o.trans HX1.o⟩
  have d0:decide ((nb:Int) > 64)=false:=Qw (by omega);have hle:¬(nb:Int) > 64:=by omega
  have HZ2:Hid ((tf.all (fun f=>wiT f.2) && te.all wiT)=z):=hid (by
   rw[<-HZ.o,Qv h1,Qv (show tf.length<=64 by have:=HLB.o;omega)];rfl)
  have HO3:=hid o3;have HO4:=hid o4;clear HZ h1
  go_wp2
  clear o3 o4
  go_loopw [3] (fun i wr=>∃k:Nat,k<=na/\i= .int .i64 k/\Hid (Ext w1 wr)/\Hid ((te.take k).all wiT=true)) (fun i _=>na - (intOf i).toNat)
  case atStart=>exact⟨0,by omega,rfl,hid (Ext.refl _),hid rfl⟩
  case round=>
   obtain⟨k,hk,rfl,HX,HA⟩:=hrel;have o3:=HX.o.c HO3.o;by_cases h1:k<na
   ·obtain⟨x,hx⟩:∃x,te[k]? =some x:=⟨_,Qq (by have:=HLA.o;omega)⟩;obtain⟨d',b,off,A1,n1,c1,B1,m1,e1,hd,rfl,hv1,c0,c1',c2,c3,c4⟩:=(HE.o.ext (HE0.o.trans (HX1.o.trans HX.o))).ty_at hx;have HC:=hid (fun w' (hw:Ext wr w')=>HIH.o d' (by omega) w' x _ (hv1.ext hw) (HEL.o x (Qx hx)));have HXX:=hid hx;clear hd hv1 hx;obtain⟨r,hr⟩:=Qg (wiT x);rw[hr]at HC;have HR:=hid hr;clear hr
    go_wp2_with fail
    refine(HC.o _ (Ext.refl _)).mono ?_;rintro e w5 ⟨rfl,hx5⟩;have HX5:=hid (HX.o.trans hx5);clear hx5 c0 c1' c2 c3 c4 o3
    cases r with
    |true=>
     go_wp2
     go_roundw
     case rel=>exact⟨k+1,by omega,by go_num,HX5,hid (Yb HXX.o HR.o HA.o)⟩
     case measure=>simp [intOf];omega
    |false=>
     go_wp2
     go_ret;refine⟨XP ?_,HE0.o.trans (HX1.o.trans HX5.o)⟩;rw[<-HZ2.o,Yd HXX.o HR.o,Bool.and_false];rfl
   ·obtain rfl:k=na:=by omega
    have HA2:Hid (te.all wiT=true):=hid (by have h:=HA.o;rwa [Qj (by have:=HLA.o;omega)]at h);clear HA
    go_wp2
    clear o3
    go_loopw [4] (fun i wr=>∃k:Nat,k<=nb/\i= .int .i64 k/\Hid (Ext w1 wr)/\Hid ((tf.take k).all (fun f=>wiT f.2)=true)) (fun i _=>nb - (intOf i).toNat)
    case atStart=>exact⟨0,by omega,rfl,HX,hid rfl⟩
    case round=>
     obtain⟨j,hj,rfl,HX2,HB⟩:=hrel;have o4:=HX2.o.c HO4.o;by_cases h2:j<nb
     ·obtain⟨x,hx⟩:∃x,tf[j]? =some x:=⟨_,Qq (by have:=HLB.o;omega)⟩;obtain⟨d',b,off,A1,n1,c1,B1,m1,e1,hd,rfl,hv1, -,c0,c1',c2,c3,c4,c5⟩:=(HF.o.ext (HE0.o.trans (HX1.o.trans HX2.o))).fd_at hx;have HC:=hid (fun w' (hw:Ext wr w')=>HIH.o d' (by omega) w' x.2 _ (hv1.ext hw) (HFL.o x (Qx hx)));have HXX:=hid hx;clear hd hv1 hx;obtain⟨r,hr⟩:=Qg (wiT x.2);rw[hr]at HC;have HR:=hid hr;clear hr
      go_wp2_with fail
      refine(HC.o _ (Ext.refl _)).mono ?_;rintro e w5 ⟨rfl,hx5⟩;have HX5:=hid (HX2.o.trans hx5);clear hx5 c0 c1' c2 c3 c4 c5 o4
      cases r with
      |true=>
       go_wp2
       go_roundw
       case rel=>exact⟨j+1,by omega,by go_num,HX5,hid (Yb HXX.o HR.o HB.o)⟩
       case measure=>simp [intOf];omega
      |false=>
       go_wp2
       go_ret;refine⟨XP ?_,HE0.o.trans (HX1.o.trans HX5.o)⟩;rw[<-HZ2.o,Yd (p:=fun f:Int×Ty=>wiT f.2) HXX.o HR.o,Bool.false_and];rfl
     ·obtain rfl:j=nb:=by omega
      go_wp2
      go_ret;refine⟨XP ?_,HE0.o.trans (HX1.o.trans HX2.o)⟩;have h:=HB.o;rw[Qj (by have:=HLB.o;omega)]at h;rw[<-HZ2.o,HA2.o,h];rfl
theorem zk (d:Nat)(w:World)(t:Ty)(v:Value)(hv:TyV d w All v t):Calls Tryz.prog 62 #[v] w (Yx w (Zm t)):=by
 have HV:=hid hv;obtain⟨A,na,ca,B,nb,cb,rfl, -⟩:=hv;obtain⟨W0,hW0⟩:=Qg (w.alloc (.cells #[.int .i64 t.kind,.int .i64 t.size,.int .i64 t.count,.slice A na ca,.slice B nb cb] 42));have hE0:Ext w W0:=by rw[<-hW0];exact(Ext.refl w).alloc _
 have o0:W0.cell? ⟨w.heap.size,0,none⟩=some (.int .i64 t.kind):=by rw[<-hW0];simp[go_sem]
 have o1:W0.cell? ⟨w.heap.size,1,none⟩=some (.int .i64 t.size):=by rw[<-hW0];simp[go_sem]
 have o2:W0.cell? ⟨w.heap.size,2,none⟩=some (.int .i64 t.count):=by rw[<-hW0];simp[go_sem]
 have o3:W0.cell? ⟨w.heap.size,3,none⟩=some (.slice A na ca):=by rw[<-hW0];simp[go_sem]
 have o4:W0.cell? ⟨w.heap.size,4,none⟩=some (.slice B nb cb):=by rw[<-hW0];simp[go_sem]
 have HE0:=hid hE0;obtain⟨z,hz⟩:=Qg (Zm t);rw[hz];have HZ:=hid hz;have HC1:=hid (fun w' (h:Ext w w')=>ik d w' t _ 64 (HV.o.ext h) (by omega));have HC2:=hid (fun w' (h:Ext w w')=>sY d w' t _ (HV.o.ext h));obtain⟨b1,hb1⟩:=Qg (Q0 t ((64:Nat):Int));have HB1:Hid (Q0 t 64=b1):=hid hb1;rw[hb1]at HC1;obtain⟨b2,hb2⟩:=Qg (Qd t);rw[hb2]at HC2;have HB2:=hid hb2;clear hz hb1 hb2 hE0;go_enter Tryz.func62,Tryz.ntmps62
 go_wp2_with fail
 refine(HC1.o _ HE0.o).mono ?_;rintro e w1 ⟨rfl,hx1⟩;have HX1:=hid (HE0.o.trans hx1);have o0:=hx1.cell o0;have o1:=hx1.cell o1;have o2:=hx1.cell o2;have o3:=hx1.cell o3;have o4:=hx1.cell o4;clear hx1 hW0
 cases b1 with
 |false=>
  obtain rfl:z=20:=by rw[<-HZ.o,Zm,if_pos HB1.o]
  go_wp2
  go_ret;exact⟨rfl,HX1.o⟩
 | true=>
  go_wp2_with fail
  refine(HC2.o _ HX1.o).mono ?_;rintro e w2 ⟨rfl,hx2⟩;have HX2:=hid (HX1.o.trans hx2);have o0:=hx2.cell o0;have o1:=hx2.cell o1;have o2:=hx2.cell o2;have o3:=hx2.cell o3;have o4:=hx2.cell o4;clear hx2
  cases b2 with
  |false=>
   obtain rfl:z=2:=by rw[<-HZ.o,Zm,if_neg (by rw[HB1.o];simp),if_pos HB2.o]
   go_wp2
   go_ret;exact⟨rfl,HX2.o⟩
  | true=>
   have HC3:=hid (ap d w2 t _ (HV.o.ext HX2.o) HB2.o);obtain⟨b3,hb3⟩:=Qg (wiT t);rw[hb3]at HC3;have HB3:=hid hb3;clear hb3
   go_wp2_with fail
   refine(HC3.o).mono ?_;rintro e w3 ⟨rfl,hx3⟩;have HX3:=hid (HX2.o.trans hx3);clear hx3 o0 o1 o2 o3 o4
   cases b3 with
   |false=>
    obtain rfl:z=6:=by rw[<-HZ.o,Zm,if_neg (by rw[HB1.o];simp),if_neg (by rw[HB2.o];simp),if_pos HB3.o]
    go_wp2
    go_ret;exact⟨rfl,HX3.o⟩
   |true=>
    obtain rfl:z=0:=by rw[<-HZ.o,pq];exact⟨HB1.o,HB2.o,HB3.o⟩
    go_wp2
    go_ret;exact⟨rfl,HX3.o⟩
end Go.Proofs.YtlmipgdnlfjpaaaGreat
