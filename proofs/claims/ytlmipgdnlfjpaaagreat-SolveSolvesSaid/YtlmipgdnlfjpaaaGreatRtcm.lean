/- Lemmas of mine, merged. -/
import Derived.Test.YtlmipgdnlfjpaaaGreatRtbm
import Derived.Test.YtlmipgdnlfjpaaaGreatSobm
set_option maxRecDepth 100000
set_option maxHeartbeats 8000000
set_option linter.unusedSimpArgs false
set_option linter.unusedVariables false
namespace Go.Proofs.YtlmipgdnlfjpaaaGreat
open Go.RowKit Go.Deco
theorem lc (d:Nat)(w:World)(S:Nat->Prop)(a b:Ty)(va vb:Value)(ha:TyV d w S va a)(hb:TyV d w S vb b):Calls Tryz.prog 44 #[va,vb] w (qY d w S (KZ a b)):=by
 have HA:=hid (ha.mono (S':=fun b=>S b/\b<w.heap.size) fun b hb hi=>⟨hb,hi.lt⟩);have HB:=hid (hb.mono (S':=fun b=>S b/\b<w.heap.size) fun b hb hi=>⟨hb,hi.lt⟩);clear ha hb;obtain⟨A1,n1,c1,B1,m1,e1,rfl, -⟩:=id HA.o;obtain⟨A2,n2,c2,B2,m2,e2,rfl, -⟩:=id HB.o;obtain⟨r,hr⟩:=Qg (KZ a b);rw[hr];unfold KZ at hr;have HR:=hid hr;obtain⟨W0,hW0⟩:=Qg (((w.alloc (.cells #[.int .i64 a.kind,.int .i64 a.size,.int .i64 a.count,.slice A1 n1 c1,.slice B1 m1 e1] 42)).alloc (.cells #[.int .i64 b.kind,.int .i64 b.size,.int .i64 b.count,.slice A2 n2 c2,.slice B2 m2 e2] 42)).alloc (.cells #[.int .i64 0,.int .i64 0,.int .i64 0,.slice none 0 0,.slice none 0 0] 42));have hE0:Ext w W0:=by rw[<-hW0];exact(((Ext.refl w).alloc _).alloc _).alloc _
 have hs0:W0.heap.size=w.heap.size+3:=by rw[<-hW0];simp
 have hP:Qm W0 w.heap.size (.int .i64 a.kind) (.int .i64 a.size) (.int .i64 a.count) (.slice A1 n1 c1) (.slice B1 m1 e1):=by
  rw[<-hW0];exact((Qm.new w _ _ _ _ _ _).ext ((Ext.refl _).alloc _)).ext ((Ext.refl _).alloc _)
 have hQ:Qm W0 (w.heap.size+1) (.int .i64 b.kind) (.int .i64 b.size) (.int .i64 b.count) (.slice A2 n2 c2) (.slice B2 m2 e2):=by
  rw[<-hW0];have:=Qm.new (w.alloc (.cells #[.int .i64 a.kind,.int .i64 a.size,.int .i64 a.count,.slice A1 n1 c1,.slice B1 m1 e1] 42)) (.int .i64 b.kind) (.int .i64 b.size) (.int .i64 b.count) (.slice A2 n2 c2) (.slice B2 m2 e2) 42;rw[show(w.alloc (.cells #[.int .i64 a.kind,.int .i64 a.size,.int .i64 a.count,.slice A1 n1 c1,.slice B1 m1 e1] 42)).heap.size=w.heap.size+1 by simp]at this;exact this.ext ((Ext.refl _).alloc _)
 have hZ:Qm W0 (w.heap.size+2) (.int .i64 0) (.int .i64 0) (.int .i64 0) (.slice none 0 0) (.slice none 0 0):=by
  rw[<-hW0];have:=Qm.new ((w.alloc (.cells #[.int .i64 a.kind,.int .i64 a.size,.int .i64 a.count,.slice A1 n1 c1,.slice B1 m1 e1] 42)).alloc (.cells #[.int .i64 b.kind,.int .i64 b.size,.int .i64 b.count,.slice A2 n2 c2,.slice B2 m2 e2] 42)) (.int .i64 0) (.int .i64 0) (.int .i64 0) (.slice none 0 0) (.slice none 0 0) 42
  rwa [show((w.alloc (.cells #[.int .i64 a.kind,.int .i64 a.size,.int .i64 a.count,.slice A1 n1 c1,.slice B1 m1 e1] 42)).alloc (.cells #[.int .i64 b.kind,.int .i64 b.size,.int .i64 b.count,.slice A2 n2 c2,.slice B2 m2 e2] 42)).heap.size=w.heap.size+2 by simp]at this
 have HE0:=hid hE0;have HSZ:=hid hs0;have HPB:=hid hP;have HQB:=hid hQ;have HZ:=hid hZ;obtain⟨ga,hga⟩:=Qg (Zm a);obtain⟨gb,hgb⟩:=Qg (Zm b);have HGA:=hid hga;have HGB:=hid hgb;have HC1:=hid (zk d W0 a _ (HA.o.all.ext hE0));rw[hga]at HC1;clear hr hE0 hP hQ hZ hga hgb hs0;obtain⟨p0,p1,p2,p3,p4, -⟩:=HPB.o;obtain⟨q0,q1,q2,q3,q4, -⟩:=HQB.o;go_enter Tryz.func44,Tryz.ntmps44
 go_wp2_with fail
 refine HC1.o.mono ?_;rintro e w1 ⟨rfl,hx1⟩;have HX1:=hid hx1;clear hx1 hW0;by_cases h1:ga=0
 case neg=>
  have g1:((ga:Int) != 0)=true:=by simp;omega
  obtain rfl:Ty.any=r:=by rw[<-HR.o,if_neg (by intro h;exact h1 (by rw[<-HGA.o];exact of_decide_eq_true h.1))]
  clear p0 p1 p2 p3 p4 q0 q1 q2 q3 q4 h1;obtain⟨r0,r1,r2,r3,r4,rf⟩:=HZ.o.ext HX1.o;have u0:=rf 0;have u1:=rf 1;have u2:=rf 2;have u3:=rf 3;have u4:=rf 4;obtain⟨W3,hW3,hB3,hH3,hS3,hX3⟩:=QK (HZ.o.ext HX1.o) (.int .i64 6) (.int .i64 0) (.int .i64 0) (.slice none 0 0) (.slice none 0 0);obtain⟨t0,t1,t2,t3,t4, -⟩:=hB3;have HW3:=hid hW3;have HX3:=hid (hX3 w (HE0.o.trans HX1.o) (by omega));have HH3:=hid hH3;clear hW3 hH3 hX3 hS3 rf
  go_wp2
  rw[HW3.o];clear r0 r1 r2 r3 r4;refine bodyPost_ret (v:= .agg #[(.int .i64 6),(.int .i64 0),(.int .i64 0),(.slice none 0 0),(.slice none 0 0)]) (by simp[results,Tryz.results44,go_sem,t0,t1,t2,t3,t4]) rfl ?_;refine⟨_,rfl,Vk,HX3.o⟩
 subst h1;have q0:=HX1.o.c q0;have q1:=HX1.o.c q1;have q2:=HX1.o.c q2;have q3:=HX1.o.c q3;have q4:=HX1.o.c q4;have HC2:=hid (zk d w1 b _ (HB.o.all.ext (HE0.o.trans HX1.o)));rw[HGB.o]at HC2
 go_wp2_with fail
 refine HC2.o.mono ?_;rintro e w2 ⟨rfl,hx2⟩;have HX2:=hid (HX1.o.trans hx2);clear hx2;have hga:Zq a=true:=Qv HGA.o;by_cases h2:gb=0
 case neg=>
  have g2:((gb:Int) != 0)=true:=by simp;omega
  obtain rfl:Ty.any=r:=by rw[<-HR.o,if_neg (by intro h;exact h2 (by rw[<-HGB.o];exact of_decide_eq_true h.2))]
  clear p0 p1 p2 p3 p4 q0 q1 q2 q3 q4 h2 hga;obtain⟨r0,r1,r2,r3,r4,rf⟩:=HZ.o.ext HX2.o;have u0:=rf 0;have u1:=rf 1;have u2:=rf 2;have u3:=rf 3;have u4:=rf 4;obtain⟨W3,hW3,hB3,hH3,hS3,hX3⟩:=QK (HZ.o.ext HX2.o) (.int .i64 6) (.int .i64 0) (.int .i64 0) (.slice none 0 0) (.slice none 0 0);obtain⟨t0,t1,t2,t3,t4, -⟩:=hB3;have HW3:=hid hW3;have HX3:=hid (hX3 w (HE0.o.trans HX2.o) (by omega));have HH3:=hid hH3;clear hW3 hH3 hX3 hS3 rf
  go_wp2
  rw[HW3.o];clear r0 r1 r2 r3 r4;refine bodyPost_ret (v:= .agg #[(.int .i64 6),(.int .i64 0),(.int .i64 0),(.slice none 0 0),(.slice none 0 0)]) (by simp[results,Tryz.results44,go_sem,t0,t1,t2,t3,t4]) rfl ?_;refine⟨_,rfl,Vk,HX3.o⟩
 subst h2;have hgb:Zq b=true:=Qv HGB.o;have fa:FW a:=(VJ.1 hga).2;have fb:FW b:=(VJ.1 hgb).2;have HJ:=hid (G1 d w2 (fun b=>S b/\b<w.heap.size) a b _ _ (HA.o.ext (HE0.o.trans HX2.o)) (HB.o.ext (HE0.o.trans HX2.o)) fa fb);obtain⟨y,hy⟩:=Qg (QX a b);rw[hy]at HJ;obtain rfl:y=r:=by rw[<-HR.o,if_pos ⟨hga,hgb⟩,hy]
 have p0:=HX2.o.c HPB.o.1;have p1:=HX2.o.c HPB.o.2.1;have p2:=HX2.o.c HPB.o.2.2.1;have p3:=HX2.o.c HPB.o.2.2.2.1;have p4:=HX2.o.c HPB.o.2.2.2.2.1;have q0:=HX2.o.c HQB.o.1;have q1:=HX2.o.c HQB.o.2.1;have q2:=HX2.o.c HQB.o.2.2.1;have q3:=HX2.o.c HQB.o.2.2.2.1;have q4:=HX2.o.c HQB.o.2.2.2.2.1;clear fa fb hy hga hgb
 go_wp2_with fail
 refine HJ.o.mono ?_;rintro e w3 ⟨v3,rfl,hv3,hx3⟩;have HX3':=hid (HX2.o.trans hx3);have HV3:=hid hv3;obtain⟨A3,n3,c3,B3,m3,e3,rfl, -⟩:=hv3;clear hx3 p0 p1 p2 p3 p4 q0 q1 q2 q3 q4
 have HPL:Hid (∀b,((S b/\b<w.heap.size)\/w2.heap.size<=b)->b≠w.heap.size+2/\(S b\/w.heap.size<=b)):=hid (fun b hb=>by
  have h1:=HSZ.o;have h2:=HX2.o.size;rcases hb with hb|hb
  ·exact⟨by omega,.inl hb.1⟩
  ·exact⟨by omega,.inr (by omega)⟩)
 obtain⟨r0,r1,r2,r3,r4,rf⟩:=HZ.o.ext HX3'.o;have u0:=rf 0;have u1:=rf 1;have u2:=rf 2;have u3:=rf 3;have u4:=rf 4;obtain⟨W3,hW3,hB3,hH3,hS3,hX3⟩:=QK (HZ.o.ext HX3'.o) (.int .i64 y.kind) (.int .i64 y.size) (.int .i64 y.count) (.slice A3 n3 c3) (.slice B3 m3 e3);obtain⟨t0,t1,t2,t3,t4, -⟩:=hB3;have HW3:=hid hW3;have HX3:=hid (hX3 w (HE0.o.trans HX3'.o) (by omega));have HH3:=hid hH3;clear hW3 hH3 hX3 hS3 rf
 go_wp2
 rw[HW3.o];clear r0 r1 r2 r3 r4;refine bodyPost_ret (v:= .agg #[(.int .i64 y.kind),(.int .i64 y.size),(.int .i64 y.count),(.slice A3 n3 c3),(.slice B3 m3 e3)]) (by simp[results,Tryz.results44,go_sem,t0,t1,t2,t3,t4]) rfl ?_;refine⟨_,rfl,wY HH3.o HV3.o HPL.o,HX3.o⟩
def gd (d:Nat):Prop:=∀(wo w:World) (t:Ty) (v:Value) (off wd:Int),Ext wo w->TyV d wo All v t->Qd t=true->Qy off->(wd=1\/wd=2\/wd=4)->Calls Tryz.prog 70 #[v,.int .i64 off,.int .i64 wd] w (Kd d wo w (faT t off wd))
theorem uj (d:Nat)(wo w:World)(tk ts tc:Int)(te:List Ty)(tf:List (Int×Ty))(off wd:Int)(A B:Option Addr)(na ca nb cb:Nat)(hx:Ext wo w)
  (hv:TyV d wo All (.agg #[.int .i64 tk,.int .i64 ts,.int .i64 tc,.slice A na ca,.slice B nb cb]) (.mk tk ts tc te tf)) (hk:tk=0\/tk=6) (hi:Qy off):
  Calls Tryz.prog 70 #[.agg #[.int .i64 tk,.int .i64 ts,.int .i64 tc,.slice A na ca,.slice B nb cb],.int .i64 off,.int .i64 wd] w (Kd d wo w (faT (.mk tk ts tc te tf) off wd)):=by
 rw[nq te tf hk];obtain⟨o,hoo⟩:=Qg ((if 0<=off then some (Ty.mk tk ts tc te tf) else none));rw[hoo];have HOO:=hid hoo;clear hoo;obtain⟨W0,hW0⟩:=Qg ((w.alloc (.cells #[.int .i64 tk,.int .i64 ts,.int .i64 tc,.slice A na ca,.slice B nb cb] 42)).alloc (.cells #[.int .i64 0,.int .i64 0,.int .i64 0,.slice none 0 0,.slice none 0 0] 42));have HE0:=hid (by rw[<-hW0];exact((Ext.refl w).alloc _).alloc _:Ext w W0)
 have HPA:Hid (Qm W0 w.heap.size (.int .i64 tk) (.int .i64 ts) (.int .i64 tc) (.slice A na ca) (.slice B nb cb)):=hid (by
  rw[<-hW0];exact(Qm.new w _ _ _ _ _ _).ext ((Ext.refl _).alloc _))
 have HRB:Hid (Qm W0 (w.heap.size+1) (.int .i64 0) (.int .i64 0) (.int .i64 0) (.slice none 0 0) (.slice none 0 0)):=hid (by
  rw[<-hW0];have:=Qm.new (w.alloc (.cells #[.int .i64 tk,.int .i64 ts,.int .i64 tc,.slice A na ca,.slice B nb cb] 42)) (.int .i64 0) (.int .i64 0) (.int .i64 0) (.slice none 0 0) (.slice none 0 0) 42
  rwa [show(w.alloc (.cells #[.int .i64 tk,.int .i64 ts,.int .i64 tc,.slice A na ca,.slice B nb cb] 42)).heap.size=w.heap.size+1 by simp]at this)
 have HSZ:Hid (W0.heap.size=w.heap.size+2):=hid (by rw[<-hW0];simp);have HV:=hid hv;have HXO:=hid hx;obtain⟨o0,o1,o2,o3,o4, -⟩:=HPA.o;clear hv hx;rcases hk with rfl|rfl
 case inl=>
  by_cases h1:off<0
  case pos=>
   have HNO:Hid (o=none):=hid (by rw[<-HOO.o,if_neg (by omega)]);go_enter Tryz.func70,Tryz.ntmps70;clear o0 o1 o2 o3 o4;obtain⟨r0,r1,r2,r3,r4,rf⟩:=HRB.o;have u0:=rf 0;have u1:=rf 1;have u2:=rf 2;have u3:=rf 3;have u4:=rf 4;obtain⟨W3,hW3,hB3,hH3,hS3,hX3⟩:=QK (HRB.o) (.int .i64 0) (.int .i64 0) (.int .i64 0) (.slice none 0 0) (.slice none 0 0);obtain⟨t0,t1,t2,t3,t4, -⟩:=hB3;have HW3:=hid hW3;have HX3:=hid (hX3 w HE0.o (by omega));clear hW3 hH3 hX3 hS3 rf
   go_wp2
   rw[HW3.o];clear r0 r1 r2 r3 r4;refine bodyPost_ret (v:= .tuple #[.agg #[(.int .i64 0),(.int .i64 0),(.int .i64 0),(.slice none 0 0),(.slice none 0 0)],.bool false]) (by simp[results,Tryz.results70,go_sem,t0,t1,t2,t3,t4]) rfl ?_;exact⟨_,false,_,rfl,ZF,HX3.o,.inr ⟨rfl,HNO.o⟩⟩
  have HYES:Hid (o=some (Ty.mk 0 ts tc te tf)):=hid (by rw[<-HOO.o,if_pos (by omega)]);go_enter Tryz.func70,Tryz.ntmps70;obtain⟨r0,r1,r2,r3,r4,rf⟩:=HRB.o;have u0:=rf 0;have u1:=rf 1;have u2:=rf 2;have u3:=rf 3;have u4:=rf 4;obtain⟨W3,hW3,hB3,hH3,hS3,hX3⟩:=QK (HRB.o) (.int .i64 0) (.int .i64 ts) (.int .i64 tc) (.slice A na ca) (.slice B nb cb);obtain⟨t0,t1,t2,t3,t4, -⟩:=hB3;have HW3:=hid hW3;have HX3:=hid (hX3 w HE0.o (by omega));clear hW3 hH3 hX3 hS3 rf
  go_wp2
  rw[HW3.o];clear r0 r1 r2 r3 r4;refine bodyPost_ret (v:= .tuple #[.agg #[(.int .i64 0),(.int .i64 ts),(.int .i64 tc),(.slice A na ca),(.slice B nb cb)],.bool true]) (by simp[results,Tryz.results70,go_sem,t0,t1,t2,t3,t4]) rfl ?_;exact⟨_,true,_,rfl,HV.o,HX3.o,.inl ⟨rfl,HYES.o⟩⟩
 case inr=>
  by_cases h1:off<0
  case pos=>
   have HNO:Hid (o=none):=hid (by rw[<-HOO.o,if_neg (by omega)]);go_enter Tryz.func70,Tryz.ntmps70;clear o0 o1 o2 o3 o4;obtain⟨r0,r1,r2,r3,r4,rf⟩:=HRB.o;have u0:=rf 0;have u1:=rf 1;have u2:=rf 2;have u3:=rf 3;have u4:=rf 4;obtain⟨W3,hW3,hB3,hH3,hS3,hX3⟩:=QK (HRB.o) (.int .i64 0) (.int .i64 0) (.int .i64 0) (.slice none 0 0) (.slice none 0 0);obtain⟨t0,t1,t2,t3,t4, -⟩:=hB3;have HW3:=hid hW3;have HX3:=hid (hX3 w HE0.o (by omega));clear hW3 hH3 hX3 hS3 rf
   go_wp2
   rw[HW3.o];clear r0 r1 r2 r3 r4;refine bodyPost_ret (v:= .tuple #[.agg #[(.int .i64 0),(.int .i64 0),(.int .i64 0),(.slice none 0 0),(.slice none 0 0)],.bool false]) (by simp[results,Tryz.results70,go_sem,t0,t1,t2,t3,t4]) rfl ?_;exact⟨_,false,_,rfl,ZF,HX3.o,.inr ⟨rfl,HNO.o⟩⟩
  have HYES:Hid (o=some (Ty.mk 6 ts tc te tf)):=hid (by rw[<-HOO.o,if_pos (by omega)]);go_enter Tryz.func70,Tryz.ntmps70;obtain⟨r0,r1,r2,r3,r4,rf⟩:=HRB.o;have u0:=rf 0;have u1:=rf 1;have u2:=rf 2;have u3:=rf 3;have u4:=rf 4;obtain⟨W3,hW3,hB3,hH3,hS3,hX3⟩:=QK (HRB.o) (.int .i64 6) (.int .i64 ts) (.int .i64 tc) (.slice A na ca) (.slice B nb cb);obtain⟨t0,t1,t2,t3,t4, -⟩:=hB3;have HW3:=hid hW3;have HX3:=hid (hX3 w HE0.o (by omega));clear hW3 hH3 hX3 hS3 rf
  go_wp2
  rw[HW3.o];clear r0 r1 r2 r3 r4;refine bodyPost_ret (v:= .tuple #[.agg #[(.int .i64 6),(.int .i64 ts),(.int .i64 tc),(.slice A na ca),(.slice B nb cb)],.bool true]) (by simp[results,Tryz.results70,go_sem,t0,t1,t2,t3,t4]) rfl ?_;exact⟨_,true,_,rfl,HV.o,HX3.o,.inl ⟨rfl,HYES.o⟩⟩
theorem wB (d:Nat)(wo w:World)(tk ts tc:Int)(te:List Ty)(tf:List (Int×Ty))(off wd:Int)(A B:Option Addr)(na ca nb cb:Nat)(hx:Ext wo w)
  (hv:TyV d wo All (.agg #[.int .i64 tk,.int .i64 ts,.int .i64 tc,.slice A na ca,.slice B nb cb]) (.mk tk ts tc te tf)) (hf:Qd (.mk tk ts tc te tf)=true) (hk:tk=1\/tk=2\/tk=3) (hi:Qy off):
  Calls Tryz.prog 70 #[.agg #[.int .i64 tk,.int .i64 ts,.int .i64 tc,.slice A na ca,.slice B nb cb],.int .i64 off,.int .i64 wd] w (Kd d wo w (faT (.mk tk ts tc te tf) off wd)):=by
 rw[bW te tf hk];have HSZT:=hid (fun W (hW:Ext w W)=>jw d W _ _ ((hv.ext (hx.trans hW))) hf);obtain⟨sz,hsz⟩:=Qg (szT (.mk tk ts tc te tf));rw[hsz]at HSZT ⊢;clear hsz;obtain⟨o,hoo⟩:=Qg ((if off=0/\wd=sz then some (Ty.mk tk ts tc te tf) else none));rw[hoo];have HOO:=hid hoo;clear hoo;obtain⟨W0,hW0⟩:=Qg ((w.alloc (.cells #[.int .i64 tk,.int .i64 ts,.int .i64 tc,.slice A na ca,.slice B nb cb] 42)).alloc (.cells #[.int .i64 0,.int .i64 0,.int .i64 0,.slice none 0 0,.slice none 0 0] 42));have HE0:=hid (by rw[<-hW0];exact((Ext.refl w).alloc _).alloc _:Ext w W0)
 have HPA:Hid (Qm W0 w.heap.size (.int .i64 tk) (.int .i64 ts) (.int .i64 tc) (.slice A na ca) (.slice B nb cb)):=hid (by
  rw[<-hW0];exact(Qm.new w _ _ _ _ _ _).ext ((Ext.refl _).alloc _))
 have HRB:Hid (Qm W0 (w.heap.size+1) (.int .i64 0) (.int .i64 0) (.int .i64 0) (.slice none 0 0) (.slice none 0 0)):=hid (by
  rw[<-hW0];have:=Qm.new (w.alloc (.cells #[.int .i64 tk,.int .i64 ts,.int .i64 tc,.slice A na ca,.slice B nb cb] 42)) (.int .i64 0) (.int .i64 0) (.int .i64 0) (.slice none 0 0) (.slice none 0 0) 42
  rwa [show(w.alloc (.cells #[.int .i64 tk,.int .i64 ts,.int .i64 tc,.slice A na ca,.slice B nb cb] 42)).heap.size=w.heap.size+1 by simp]at this)
 have HSZ:Hid (W0.heap.size=w.heap.size+2):=hid (by rw[<-hW0];simp);have HV:=hid hv;have HXO:=hid hx;obtain⟨o0,o1,o2,o3,o4, -⟩:=HPA.o;clear hv hx;rcases hk with rfl|rfl|rfl
 case inl=>
  by_cases h1:off<0
  case pos=>
   have HNO:Hid (o=none):=hid (by rw[<-HOO.o,if_neg (by omega)]);go_enter Tryz.func70,Tryz.ntmps70;clear o0 o1 o2 o3 o4;obtain⟨r0,r1,r2,r3,r4,rf⟩:=HRB.o;have u0:=rf 0;have u1:=rf 1;have u2:=rf 2;have u3:=rf 3;have u4:=rf 4;obtain⟨W3,hW3,hB3,hH3,hS3,hX3⟩:=QK (HRB.o) (.int .i64 0) (.int .i64 0) (.int .i64 0) (.slice none 0 0) (.slice none 0 0);obtain⟨t0,t1,t2,t3,t4, -⟩:=hB3;have HW3:=hid hW3;have HX3:=hid (hX3 w HE0.o (by omega));clear hW3 hH3 hX3 hS3 rf
   go_wp2
   rw[HW3.o];clear r0 r1 r2 r3 r4;refine bodyPost_ret (v:= .tuple #[.agg #[(.int .i64 0),(.int .i64 0),(.int .i64 0),(.slice none 0 0),(.slice none 0 0)],.bool false]) (by simp[results,Tryz.results70,go_sem,t0,t1,t2,t3,t4]) rfl ?_;exact⟨_,false,_,rfl,ZF,HX3.o,.inr ⟨rfl,HNO.o⟩⟩
  by_cases h2:off=0
  case neg=>
   have g2:(off == 0)=false:=by simp[h2]
   have HNO:Hid (o=none):=hid (by rw[<-HOO.o,if_neg (by omega)]);go_enter Tryz.func70,Tryz.ntmps70;clear h2;obtain⟨r0,r1,r2,r3,r4,rf⟩:=HRB.o;have u0:=rf 0;have u1:=rf 1;have u2:=rf 2;have u3:=rf 3;have u4:=rf 4;obtain⟨W3,hW3,hB3,hH3,hS3,hX3⟩:=QK (HRB.o) (.int .i64 0) (.int .i64 0) (.int .i64 0) (.slice none 0 0) (.slice none 0 0);obtain⟨t0,t1,t2,t3,t4, -⟩:=hB3;have HW3:=hid hW3;have HX3:=hid (hX3 w HE0.o (by omega));clear hW3 hH3 hX3 hS3 rf
   go_wp2
   rw[HW3.o];clear r0 r1 r2 r3 r4;refine bodyPost_ret (v:= .tuple #[.agg #[(.int .i64 0),(.int .i64 0),(.int .i64 0),(.slice none 0 0),(.slice none 0 0)],.bool false]) (by simp[results,Tryz.results70,go_sem,t0,t1,t2,t3,t4]) rfl ?_;exact⟨_,false,_,rfl,ZF,HX3.o,.inr ⟨rfl,HNO.o⟩⟩
  subst h2;have g2:((0:Int) == 0)=true:=by simp
  go_enter Tryz.func70,Tryz.ntmps70
  go_wp2_with fail
  refine(HSZT.o _ HE0.o).mono ?_;rintro e w1 ⟨rfl,hx1⟩;have HX1:=hid hx1;have o0:=hx1.cell o0;have o1:=hx1.cell o1;have o2:=hx1.cell o2;have o3:=hx1.cell o3;have o4:=hx1.cell o4;clear hx1 hW0;by_cases h3:wd=sz
  case neg=>
   have g3:(wd == sz)=false:=by simp[h3]
   have HNO:Hid (o=none):=hid (by rw[<-HOO.o,if_neg (by omega)]);clear h3;obtain⟨r0,r1,r2,r3,r4,rf⟩:=HRB.o.ext HX1.o;have u0:=rf 0;have u1:=rf 1;have u2:=rf 2;have u3:=rf 3;have u4:=rf 4;obtain⟨W3,hW3,hB3,hH3,hS3,hX3⟩:=QK (HRB.o.ext HX1.o) (.int .i64 0) (.int .i64 0) (.int .i64 0) (.slice none 0 0) (.slice none 0 0);obtain⟨t0,t1,t2,t3,t4, -⟩:=hB3;have HW3:=hid hW3;have HX3:=hid (hX3 w (HE0.o.trans HX1.o) (by omega));clear hW3 hH3 hX3 hS3 rf
   go_wp2
   rw[HW3.o];clear r0 r1 r2 r3 r4;refine bodyPost_ret (v:= .tuple #[.agg #[(.int .i64 0),(.int .i64 0),(.int .i64 0),(.slice none 0 0),(.slice none 0 0)],.bool false]) (by simp[results,Tryz.results70,go_sem,t0,t1,t2,t3,t4]) rfl ?_;exact⟨_,false,_,rfl,ZF,HX3.o,.inr ⟨rfl,HNO.o⟩⟩
  have g3:(wd == sz)=true:=by simp[h3]
  have HYES:Hid (o=some (Ty.mk 1 ts tc te tf)):=hid (by rw[<-HOO.o,if_pos ⟨by trivial,h3⟩]);clear h3;obtain⟨r0,r1,r2,r3,r4,rf⟩:=HRB.o.ext HX1.o;have u0:=rf 0;have u1:=rf 1;have u2:=rf 2;have u3:=rf 3;have u4:=rf 4;obtain⟨W3,hW3,hB3,hH3,hS3,hX3⟩:=QK (HRB.o.ext HX1.o) (.int .i64 1) (.int .i64 ts) (.int .i64 tc) (.slice A na ca) (.slice B nb cb);obtain⟨t0,t1,t2,t3,t4, -⟩:=hB3;have HW3:=hid hW3;have HX3:=hid (hX3 w (HE0.o.trans HX1.o) (by omega));clear hW3 hH3 hX3 hS3 rf
  go_wp2
  rw[HW3.o];clear r0 r1 r2 r3 r4;refine bodyPost_ret (v:= .tuple #[.agg #[(.int .i64 1),(.int .i64 ts),(.int .i64 tc),(.slice A na ca),(.slice B nb cb)],.bool true]) (by simp[results,Tryz.results70,go_sem,t0,t1,t2,t3,t4]) rfl ?_;exact⟨_,true,_,rfl,HV.o,HX3.o,.inl ⟨rfl,HYES.o⟩⟩
 case inr.inl=>
  by_cases h1:off<0
  case pos=>
   have HNO:Hid (o=none):=hid (by rw[<-HOO.o,if_neg (by omega)]);go_enter Tryz.func70,Tryz.ntmps70;clear o0 o1 o2 o3 o4;obtain⟨r0,r1,r2,r3,r4,rf⟩:=HRB.o;have u0:=rf 0;have u1:=rf 1;have u2:=rf 2;have u3:=rf 3;have u4:=rf 4;obtain⟨W3,hW3,hB3,hH3,hS3,hX3⟩:=QK (HRB.o) (.int .i64 0) (.int .i64 0) (.int .i64 0) (.slice none 0 0) (.slice none 0 0);obtain⟨t0,t1,t2,t3,t4, -⟩:=hB3;have HW3:=hid hW3;have HX3:=hid (hX3 w HE0.o (by omega));clear hW3 hH3 hX3 hS3 rf
   go_wp2
   rw[HW3.o];clear r0 r1 r2 r3 r4;refine bodyPost_ret (v:= .tuple #[.agg #[(.int .i64 0),(.int .i64 0),(.int .i64 0),(.slice none 0 0),(.slice none 0 0)],.bool false]) (by simp[results,Tryz.results70,go_sem,t0,t1,t2,t3,t4]) rfl ?_;exact⟨_,false,_,rfl,ZF,HX3.o,.inr ⟨rfl,HNO.o⟩⟩
  by_cases h2:off=0
  case neg=>
   have g2:(off == 0)=false:=by simp[h2]
   have HNO:Hid (o=none):=hid (by rw[<-HOO.o,if_neg (by omega)]);go_enter Tryz.func70,Tryz.ntmps70;clear h2;obtain⟨r0,r1,r2,r3,r4,rf⟩:=HRB.o;have u0:=rf 0;have u1:=rf 1;have u2:=rf 2;have u3:=rf 3;have u4:=rf 4;obtain⟨W3,hW3,hB3,hH3,hS3,hX3⟩:=QK (HRB.o) (.int .i64 0) (.int .i64 0) (.int .i64 0) (.slice none 0 0) (.slice none 0 0);obtain⟨t0,t1,t2,t3,t4, -⟩:=hB3;have HW3:=hid hW3;have HX3:=hid (hX3 w HE0.o (by omega));clear hW3 hH3 hX3 hS3 rf
   go_wp2
   rw[HW3.o];clear r0 r1 r2 r3 r4;refine bodyPost_ret (v:= .tuple #[.agg #[(.int .i64 0),(.int .i64 0),(.int .i64 0),(.slice none 0 0),(.slice none 0 0)],.bool false]) (by simp[results,Tryz.results70,go_sem,t0,t1,t2,t3,t4]) rfl ?_;exact⟨_,false,_,rfl,ZF,HX3.o,.inr ⟨rfl,HNO.o⟩⟩
  subst h2;have g2:((0:Int) == 0)=true:=by simp
  go_enter Tryz.func70,Tryz.ntmps70
  go_wp2_with fail
  refine(HSZT.o _ HE0.o).mono ?_;rintro e w1 ⟨rfl,hx1⟩;have HX1:=hid hx1;have o0:=hx1.cell o0;have o1:=hx1.cell o1;have o2:=hx1.cell o2;have o3:=hx1.cell o3;have o4:=hx1.cell o4;clear hx1 hW0;by_cases h3:wd=sz
  case neg=>
   have g3:(wd == sz)=false:=by simp[h3]
   have HNO:Hid (o=none):=hid (by rw[<-HOO.o,if_neg (by omega)]);clear h3;obtain⟨r0,r1,r2,r3,r4,rf⟩:=HRB.o.ext HX1.o;have u0:=rf 0;have u1:=rf 1;have u2:=rf 2;have u3:=rf 3;have u4:=rf 4;obtain⟨W3,hW3,hB3,hH3,hS3,hX3⟩:=QK (HRB.o.ext HX1.o) (.int .i64 0) (.int .i64 0) (.int .i64 0) (.slice none 0 0) (.slice none 0 0);obtain⟨t0,t1,t2,t3,t4, -⟩:=hB3;have HW3:=hid hW3;have HX3:=hid (hX3 w (HE0.o.trans HX1.o) (by omega));clear hW3 hH3 hX3 hS3 rf
   go_wp2
   rw[HW3.o];clear r0 r1 r2 r3 r4;refine bodyPost_ret (v:= .tuple #[.agg #[(.int .i64 0),(.int .i64 0),(.int .i64 0),(.slice none 0 0),(.slice none 0 0)],.bool false]) (by simp[results,Tryz.results70,go_sem,t0,t1,t2,t3,t4]) rfl ?_;exact⟨_,false,_,rfl,ZF,HX3.o,.inr ⟨rfl,HNO.o⟩⟩
  have g3:(wd == sz)=true:=by simp[h3]
  have HYES:Hid (o=some (Ty.mk 2 ts tc te tf)):=hid (by rw[<-HOO.o,if_pos ⟨by trivial,h3⟩]);clear h3;obtain⟨r0,r1,r2,r3,r4,rf⟩:=HRB.o.ext HX1.o;have u0:=rf 0;have u1:=rf 1;have u2:=rf 2;have u3:=rf 3;have u4:=rf 4;obtain⟨W3,hW3,hB3,hH3,hS3,hX3⟩:=QK (HRB.o.ext HX1.o) (.int .i64 2) (.int .i64 ts) (.int .i64 tc) (.slice A na ca) (.slice B nb cb);obtain⟨t0,t1,t2,t3,t4, -⟩:=hB3;have HW3:=hid hW3;have HX3:=hid (hX3 w (HE0.o.trans HX1.o) (by omega));clear hW3 hH3 hX3 hS3 rf
  go_wp2
  rw[HW3.o];clear r0 r1 r2 r3 r4;refine bodyPost_ret (v:= .tuple #[.agg #[(.int .i64 2),(.int .i64 ts),(.int .i64 tc),(.slice A na ca),(.slice B nb cb)],.bool true]) (by simp[results,Tryz.results70,go_sem,t0,t1,t2,t3,t4]) rfl ?_;exact⟨_,true,_,rfl,HV.o,HX3.o,.inl ⟨rfl,HYES.o⟩⟩
 case inr.inr=>
  by_cases h1:off<0
  case pos=>
   have HNO:Hid (o=none):=hid (by rw[<-HOO.o,if_neg (by omega)]);go_enter Tryz.func70,Tryz.ntmps70;clear o0 o1 o2 o3 o4;obtain⟨r0,r1,r2,r3,r4,rf⟩:=HRB.o;have u0:=rf 0;have u1:=rf 1;have u2:=rf 2;have u3:=rf 3;have u4:=rf 4;obtain⟨W3,hW3,hB3,hH3,hS3,hX3⟩:=QK (HRB.o) (.int .i64 0) (.int .i64 0) (.int .i64 0) (.slice none 0 0) (.slice none 0 0);obtain⟨t0,t1,t2,t3,t4, -⟩:=hB3;have HW3:=hid hW3;have HX3:=hid (hX3 w HE0.o (by omega));clear hW3 hH3 hX3 hS3 rf
   go_wp2
   rw[HW3.o];clear r0 r1 r2 r3 r4;refine bodyPost_ret (v:= .tuple #[.agg #[(.int .i64 0),(.int .i64 0),(.int .i64 0),(.slice none 0 0),(.slice none 0 0)],.bool false]) (by simp[results,Tryz.results70,go_sem,t0,t1,t2,t3,t4]) rfl ?_;exact⟨_,false,_,rfl,ZF,HX3.o,.inr ⟨rfl,HNO.o⟩⟩
  by_cases h2:off=0
  case neg=>
   have g2:(off == 0)=false:=by simp[h2]
   have HNO:Hid (o=none):=hid (by rw[<-HOO.o,if_neg (by omega)]);go_enter Tryz.func70,Tryz.ntmps70;clear h2;obtain⟨r0,r1,r2,r3,r4,rf⟩:=HRB.o;have u0:=rf 0;have u1:=rf 1;have u2:=rf 2;have u3:=rf 3;have u4:=rf 4;obtain⟨W3,hW3,hB3,hH3,hS3,hX3⟩:=QK (HRB.o) (.int .i64 0) (.int .i64 0) (.int .i64 0) (.slice none 0 0) (.slice none 0 0);obtain⟨t0,t1,t2,t3,t4, -⟩:=hB3;have HW3:=hid hW3;have HX3:=hid (hX3 w HE0.o (by omega));clear hW3 hH3 hX3 hS3 rf
   go_wp2
   rw[HW3.o];clear r0 r1 r2 r3 r4;refine bodyPost_ret (v:= .tuple #[.agg #[(.int .i64 0),(.int .i64 0),(.int .i64 0),(.slice none 0 0),(.slice none 0 0)],.bool false]) (by simp[results,Tryz.results70,go_sem,t0,t1,t2,t3,t4]) rfl ?_;exact⟨_,false,_,rfl,ZF,HX3.o,.inr ⟨rfl,HNO.o⟩⟩
  subst h2;have g2:((0:Int) == 0)=true:=by simp
  go_enter Tryz.func70,Tryz.ntmps70
  go_wp2_with fail
  refine(HSZT.o _ HE0.o).mono ?_;rintro e w1 ⟨rfl,hx1⟩;have HX1:=hid hx1;have o0:=hx1.cell o0;have o1:=hx1.cell o1;have o2:=hx1.cell o2;have o3:=hx1.cell o3;have o4:=hx1.cell o4;clear hx1 hW0;by_cases h3:wd=sz
  case neg=>
   have g3:(wd == sz)=false:=by simp[h3]
   have HNO:Hid (o=none):=hid (by rw[<-HOO.o,if_neg (by omega)]);clear h3;obtain⟨r0,r1,r2,r3,r4,rf⟩:=HRB.o.ext HX1.o;have u0:=rf 0;have u1:=rf 1;have u2:=rf 2;have u3:=rf 3;have u4:=rf 4;obtain⟨W3,hW3,hB3,hH3,hS3,hX3⟩:=QK (HRB.o.ext HX1.o) (.int .i64 0) (.int .i64 0) (.int .i64 0) (.slice none 0 0) (.slice none 0 0);obtain⟨t0,t1,t2,t3,t4, -⟩:=hB3;have HW3:=hid hW3;have HX3:=hid (hX3 w (HE0.o.trans HX1.o) (by omega));clear hW3 hH3 hX3 hS3 rf
   go_wp2
   rw[HW3.o];clear r0 r1 r2 r3 r4;refine bodyPost_ret (v:= .tuple #[.agg #[(.int .i64 0),(.int .i64 0),(.int .i64 0),(.slice none 0 0),(.slice none 0 0)],.bool false]) (by simp[results,Tryz.results70,go_sem,t0,t1,t2,t3,t4]) rfl ?_;exact⟨_,false,_,rfl,ZF,HX3.o,.inr ⟨rfl,HNO.o⟩⟩
  have g3:(wd == sz)=true:=by simp[h3]
  have HYES:Hid (o=some (Ty.mk 3 ts tc te tf)):=hid (by rw[<-HOO.o,if_pos ⟨by trivial,h3⟩]);clear h3;obtain⟨r0,r1,r2,r3,r4,rf⟩:=HRB.o.ext HX1.o;have u0:=rf 0;have u1:=rf 1;have u2:=rf 2;have u3:=rf 3;have u4:=rf 4;obtain⟨W3,hW3,hB3,hH3,hS3,hX3⟩:=QK (HRB.o.ext HX1.o) (.int .i64 3) (.int .i64 ts) (.int .i64 tc) (.slice A na ca) (.slice B nb cb);obtain⟨t0,t1,t2,t3,t4, -⟩:=hB3;have HW3:=hid hW3;have HX3:=hid (hX3 w (HE0.o.trans HX1.o) (by omega));clear hW3 hH3 hX3 hS3 rf
  go_wp2
  rw[HW3.o];clear r0 r1 r2 r3 r4;refine bodyPost_ret (v:= .tuple #[.agg #[(.int .i64 3),(.int .i64 ts),(.int .i64 tc),(.slice A na ca),(.slice B nb cb)],.bool true]) (by simp[results,Tryz.results70,go_sem,t0,t1,t2,t3,t4]) rfl ?_;exact⟨_,true,_,rfl,HV.o,HX3.o,.inl ⟨rfl,HYES.o⟩⟩
theorem a7 (d:Nat)(ih:∀d',d'<d->gd d')(wo w:World)(ts tc:Int)(te:List Ty)(tf:List (Int×Ty))(off wd:Int)(A B:Option Addr)(na ca nb cb:Nat)(hx:Ext wo w)
  (hv:TyV d wo All (.agg #[.int .i64 4,.int .i64 ts,.int .i64 tc,.slice A na ca,.slice B nb cb]) (.mk 4 ts tc te tf)) (hf:Qd (.mk 4 ts tc te tf)=true) (hi:Qy off) (hwd:wd=1\/wd=2\/wd=4):
  Calls Tryz.prog 70 #[.agg #[.int .i64 4,.int .i64 ts,.int .i64 tc,.slice A na ca,.slice B nb cb],.int .i64 off,.int .i64 wd] w (Kd d wo w (faT (.mk 4 ts tc te tf) off wd)):=by
 have hte:∃x,te=[x]/\Qd x=true/\1<=tc:=by
  rcases Z1 hf with(h|h)|⟨s,hs,(h|h)⟩|⟨x,h,hx⟩|⟨x,m,h,hm1,hm2,hx⟩|⟨l,h,hl⟩
  ·cases h
  ·cases h
  ·cases h
  ·cases h
  ·cases h
  ·cases h;exact⟨x,rfl,hx,hm1⟩
  ·cases h
 obtain⟨x,rfl,hfx,htc⟩:=hte;have HSZT:=hid (fun W (hW:Ext w W)=>jw d W _ _ ((hv.ext (hx.trans hW))) hf);obtain⟨A',n',c',B',m',e',hv',hE, -, -⟩:=id hv;injection hv' with hv'
 simp only[Array.mk.injEq,List.cons.injEq,Value.slice.injEq,and_true]at hv';obtain⟨-, -, -,⟨rfl,rfl,rfl⟩,rfl,rfl,rfl⟩:=hv';obtain⟨d',b,of,A1,n1,c1,B1,m1,e1,rfl,rfl,hv1,x0,x1,x2,x3,x4⟩:=hE.ty_at (k:=0) (t:=x) rfl;rw[Nat.zero_mul,Nat.add_zero]at x0 x1 x2 x3 x4;have hlen:na=1:=hE.len;have hna:(0:Int)<(na:Int):=by omega
 have hna2:0<na:=by omega
 have HEL:=hid (fun W (hW:Ext w W)=>And.intro ((hx.trans hW).cell x0) (And.intro ((hx.trans hW).cell x1) (And.intro ((hx.trans hW).cell x2) (And.intro ((hx.trans hW).cell x3) ((hx.trans hW).cell x4)))));have HSX:=hid (fun W (hW:Ext w W)=>jw d' W x _ (hv1.ext (hx.trans hW)) hfx);have HIH:=hid (fun W (hW:Ext w W) o1 (ho1:Qy o1)=>ih d' (by omega) wo W x _ o1 wd (hx.trans hW) hv1 hfx ho1 hwd);have hx0:=Kw x hfx;have hx9:=qB x;have HSE:=hid (nK ts tc x tf);rw[d9];obtain⟨o,hoo⟩:=Qg ((if off<0\/szT (.mk 4 ts tc [x] tf)<=off then none else faT x (off % szT x) wd));rw[hoo];obtain⟨sz,hsz⟩:=Qg (szT (.mk 4 ts tc [x] tf));rw[hsz]at HSZT hoo HSE;obtain⟨sx,hsx⟩:=Qg (szT x);rw[hsx]at HSX hoo HSE hx0 hx9;have HOO:=hid hoo;clear hsz hsx x0 x1 x2 x3 x4 hE hv1 ih hoo hlen;obtain⟨W0,hW0⟩:=Qg ((w.alloc (.cells #[.int .i64 4,.int .i64 ts,.int .i64 tc,.slice (some ⟨b,of,none⟩) na ca,.slice B nb cb] 42)).alloc (.cells #[.int .i64 0,.int .i64 0,.int .i64 0,.slice none 0 0,.slice none 0 0] 42));have HE0:=hid (by rw[<-hW0];exact((Ext.refl w).alloc _).alloc _:Ext w W0)
 have HPA:Hid (Qm W0 w.heap.size (.int .i64 4) (.int .i64 ts) (.int .i64 tc) (.slice (some ⟨b,of,none⟩) na ca) (.slice B nb cb)):=hid (by
  rw[<-hW0];exact(Qm.new w _ _ _ _ _ _).ext ((Ext.refl _).alloc _))
 have HRB:Hid (Qm W0 (w.heap.size+1) (.int .i64 0) (.int .i64 0) (.int .i64 0) (.slice none 0 0) (.slice none 0 0)):=hid (by
  rw[<-hW0];have:=Qm.new (w.alloc (.cells #[.int .i64 4,.int .i64 ts,.int .i64 tc,.slice (some ⟨b,of,none⟩) na ca,.slice B nb cb] 42)) (.int .i64 0) (.int .i64 0) (.int .i64 0) (.slice none 0 0) (.slice none 0 0) 42
  rwa [show(w.alloc (.cells #[.int .i64 4,.int .i64 ts,.int .i64 tc,.slice (some ⟨b,of,none⟩) na ca,.slice B nb cb] 42)).heap.size=w.heap.size+1 by simp]at this)
 have HSZ:Hid (W0.heap.size=w.heap.size+2):=hid (by rw[<-hW0];simp);have HV:=hid hv;have HXO:=hid hx;obtain⟨o0,o1,o2,o3,o4, -⟩:=HPA.o;clear hv hx;by_cases h1:off<0
 case pos=>
  have HNO:Hid (o=none):=hid (by rw[<-HOO.o,if_pos (.inl h1)]);go_enter Tryz.func70,Tryz.ntmps70;clear o0 o1 o2 o3 o4;obtain⟨r0,r1,r2,r3,r4,rf⟩:=HRB.o;have u0:=rf 0;have u1:=rf 1;have u2:=rf 2;have u3:=rf 3;have u4:=rf 4;obtain⟨W3,hW3,hB3,hH3,hS3,hX3⟩:=QK (HRB.o) (.int .i64 0) (.int .i64 0) (.int .i64 0) (.slice none 0 0) (.slice none 0 0);obtain⟨t0,t1,t2,t3,t4, -⟩:=hB3;have HW3:=hid hW3;have HX3:=hid (hX3 w HE0.o (by omega));clear hW3 hH3 hX3 hS3 rf
  go_wp2
  rw[HW3.o];clear r0 r1 r2 r3 r4;refine bodyPost_ret (v:= .tuple #[.agg #[(.int .i64 0),(.int .i64 0),(.int .i64 0),(.slice none 0 0),(.slice none 0 0)],.bool false]) (by simp[results,Tryz.results70,go_sem,t0,t1,t2,t3,t4]) rfl ?_;exact⟨_,false,_,rfl,ZF,HX3.o,.inr ⟨rfl,HNO.o⟩⟩
 go_enter Tryz.func70,Tryz.ntmps70
 go_wp2_with fail
 refine(HSZT.o _ HE0.o).mono ?_;rintro e w1 ⟨rfl,hx1⟩;have HX1:=hid hx1;have HP1:=hid (HPA.o.ext hx1);have HR1:=hid (HRB.o.ext hx1);have HE1:=hid (HE0.o.trans hx1);clear hx1 o0 o1 o2 o3 o4 hW0;by_cases h2:off<sz
 case neg=>
  have HNO:Hid (o=none):=hid (by rw[<-HOO.o,if_pos (.inr (by omega))]);obtain⟨r0,r1,r2,r3,r4,rf⟩:=HR1.o;have u0:=rf 0;have u1:=rf 1;have u2:=rf 2;have u3:=rf 3;have u4:=rf 4;obtain⟨W3,hW3,hB3,hH3,hS3,hX3⟩:=QK (HR1.o) (.int .i64 0) (.int .i64 0) (.int .i64 0) (.slice none 0 0) (.slice none 0 0);obtain⟨t0,t1,t2,t3,t4, -⟩:=hB3;have HW3:=hid hW3;have HX3:=hid (hX3 w HE1.o (by omega));clear hW3 hH3 hX3 hS3 rf
  go_wp2
  rw[HW3.o];clear r0 r1 r2 r3 r4;refine bodyPost_ret (v:= .tuple #[.agg #[(.int .i64 0),(.int .i64 0),(.int .i64 0),(.slice none 0 0),(.slice none 0 0)],.bool false]) (by simp[results,Tryz.results70,go_sem,t0,t1,t2,t3,t4]) rfl ?_;exact⟨_,false,_,rfl,ZF,HX3.o,.inr ⟨rfl,HNO.o⟩⟩
 have hsx0:0<sx:=by
  have:=HSE.o;have h3:sx≠0:=fun e=>by rw[e,Int.mul_zero]at this;omega
  omega
 obtain⟨om,hom⟩:=Qg (off % sx);have htm:Int.tmod off sx=om:=by rw[<-hom];exact Int.tmod_eq_emod_of_nonneg (by omega)
 have hom1:0<=om:=by rw[<-hom];exact Int.emod_nonneg _ (by omega)
 have hom2:om<sx:=by rw[<-hom];exact Int.emod_lt_of_pos _ hsx0
 have hoi:Qy om:=by unfold Qy;omega
 have HO1:Hid (faT x om wd=o):=hid (by rw[<-HOO.o,if_neg (by omega),hom]);have hsn:sx≠0:=by omega
 have hsn2:(sx == 0)=false:=by simp;omega
 obtain⟨V,hV⟩:∃V,V=w1:=⟨_,rfl⟩;obtain rfl:=hV;have HLT:Hid (w.heap.size+1<V.heap.size):=hid (by have:=HR1.o.lt;omega);have o3:=HP1.o.2.2.2.1;clear hom;go_upto_region 14 with fail
 have HSK:=hid (fun(W:World) (hh:Ext V W)=>(show W.cell? ⟨w.heap.size,3,none⟩=some (.slice (some ⟨b,of,none⟩) na ca)/\W.cell? ⟨b,of,none⟩=some (.int .i64 x.kind)/\W.cell? ⟨b,of+1,none⟩=some (.int .i64 x.size)/\W.cell? ⟨b,of+2,none⟩=some (.int .i64 x.count)/\W.cell? ⟨b,of+3,none⟩=some (.slice A1 n1 c1)/\W.cell? ⟨b,of+4,none⟩=some (.slice B1 m1 e1) from⟨(HP1.o.ext hh).2.2.2.1,HEL.o _ (HE1.o.trans hh)⟩));have HXg1q_0:=hid ((Ext.refl V).drew);refine rgS 16 rfl rfl HSK.o (Ext.refl _).drew (fun hSg1q0=>?_);refine Qp 0 1 2 3 4 5 ?_;refine QB 6 7 8 11 ?_;refine wpAnyH_ready (rs:=[9]) (by kernel_rfl) (by simp) ?_;refine(AllReadyH.consL rfl (fun K hK=>?g1qb9x11) AllReadyH.nil)
 case' g1qb9x11=>
  go_simp;go_at_call 94;refine(HSX.o _ (HE1.o.trans HXg1q_0.o)).mono ?_;rintro e w6 ⟨rfl,hEg1q1⟩;have HXg1q_1:=hid (HXg1q_0.o.trans hEg1q1);clear hEg1q1;refine rgK hK (HSK.o _ HXg1q_1.o) (fun hSg1q1=>?_);clear hK K;refine rgT 10 ?_;refine wpAnyH_ready (rs:=[12]) (by kernel_rfl) (by simp) ?_;refine(AllReadyH.consL rfl (fun K hK=>?g1qb12x13) AllReadyH.nil)
  case' g1qb12x13=>
   go_simp;go_at_call 70;refine(HIH.o _ (HE1.o.trans HXg1q_1.o) _ hoi).mono ?_;rintro e w7 ⟨v6,b6,x6,rfl,hv6,hEg1q2,ho6⟩;have HVW:=hid hv6;rw[HO1.o]at ho6;have HO6:=hid ho6;obtain⟨A6,n6,c6,B6,m6,e6,rfl, -⟩:=hv6;clear ho6;have HXg1q_2:=hid (HXg1q_1.o.trans hEg1q2);clear hEg1q2;refine rgK hK (HSK.o _ HXg1q_2.o) (fun hSg1q2=>?_);clear hK K;refine QJ 13 14 ?_;refine wpAnyH_ready (rs:=[15]) (by kernel_rfl) (by simp) ?_;refine(AllReadyH.consL rfl (fun K hK=>?g1qb15x16) AllReadyH.nil)
   case' g1qb15x16=>
    obtain⟨W3,hW3,hB3,hH3,hS3,hX3⟩:=QK (HR1.o.ext HXg1q_2.o) (.int .i64 x6.kind) (.int .i64 x6.size) (.int .i64 x6.count) (.slice A6 n6 c6) (.slice B6 m6 e6);have HW3:=hid hW3;have HB3:=hid hB3;have HX3:=hid (hX3 w (HE1.o.trans HXg1q_2.o) (by omega));have HP3:=hid ((World.cell?_of_block (hH3 w.heap.size (by omega))).trans (HP1.o.ext HXg1q_2.o).2.2.2.1);obtain⟨z0,z1,z2,z3,z4,zf⟩:=HR1.o.ext HXg1q_2.o;have f0:=zf 0;have f1:=zf 1;have f2:=zf 2;have f3:=zf 3;have f4:=zf 4;clear hW3 hB3 hH3 hS3 hX3 zf;go_simp;rw[HW3.o];clear z0 z1 z2 z3 z4 f0 f1 f2 f3 f4;refine rgK hK ⟨HP3.o,HEL.o _ HX3.o⟩ (fun hSg1q3=>?_);clear hK K;refine wpAnyH_done (by kernel_rfl) ?_ _;change wpList _ _ _ _ _ _;obtain⟨t0,t1,t2,t3,t4, -⟩:=HB3.o
    go_wp2
    refine bodyPost_ret (v:= .tuple #[.agg #[.int .i64 x6.kind,.int .i64 x6.size,.int .i64 x6.count,.slice A6 n6 c6,.slice B6 m6 e6],.bool b6]) (by simp[results,Tryz.results70,go_sem,t0,t1,t2,t3,t4]) rfl ?_;exact⟨_,b6,x6,rfl,HVW.o.up (by omega),HX3.o,HO6.o⟩
def TyW (d:Nat)(wo w:World)(a:Nat)(t:Ty):Prop:=∃A n c B m e,Qm w a (.int .i64 t.kind) (.int .i64 t.size) (.int .i64 t.count) (.slice A n c) (.slice B m e)/\TyV d wo All (.agg #[.int .i64 t.kind,.int .i64 t.size,.int .i64 t.count,.slice A n c,.slice B m e]) t
theorem u6 {f:List (Int×Ty)}{off wd:Int}{k:Nat}{x:Int×Ty}(h:∀j,k+1<=j->∀g,f[j]? =some g->faT g.2 (off - g.1) wd=none)(hx:f[k]? =some x)(h0:faT x.2 (off - x.1) wd=none):∀j,k<=j->∀g,f[j]? =some g->faT g.2 (off - g.1) wd=none:=by
 intro j hj g hg;by_cases e:j=k
 ·subst e;rw[hx]at hg;cases hg;exact h0
 ·exact h j (by omega) g hg
theorem a8 (d:Nat)(ih:∀d',d'<d->gd d')(wo w:World)(ts tc:Int)(te:List Ty)(tf:List (Int×Ty))(off wd:Int)(A B:Option Addr)(na ca nb cb:Nat)(hx:Ext wo w)
  (hv:TyV d wo All (.agg #[.int .i64 5,.int .i64 ts,.int .i64 tc,.slice A na ca,.slice B nb cb]) (.mk 5 ts tc te tf)) (hf:Qd (.mk 5 ts tc te tf)=true) (hi:Qy off) (hwd:wd=1\/wd=2\/wd=4):
  Calls Tryz.prog 70 #[.agg #[.int .i64 5,.int .i64 ts,.int .i64 tc,.slice A na ca,.slice B nb cb],.int .i64 off,.int .i64 wd] w (Kd d wo w (faT (.mk 5 ts tc te tf) off wd)):=by
 have hff:Zk (-1) tf=true:=by
  rcases Z1 hf with(h|h)|⟨s,hs,(h|h)⟩|⟨x,h,hx⟩|⟨x,m,h,hm1,hm2,hx⟩|⟨l,h,hl⟩
  ·cases h
  ·cases h
  ·cases h
  ·cases h
  ·cases h
  ·cases h
  ·cases h;exact hl
 obtain⟨A',n',c',B',m',e',hv', -,hF, -⟩:=id hv;injection hv' with hv'
 simp only[Array.mk.injEq,List.cons.injEq,Value.slice.injEq,and_true]at hv';obtain⟨-, -, -,⟨rfl,rfl,rfl⟩,rfl,rfl,rfl⟩:=hv';have hF:Sl (fdR (tyR d)) wo All (.slice B nb cb) tf:=hF;have hln:=hF.len;obtain⟨hcb1,hcb2⟩:=hF.cap;rw[nz];obtain⟨o,hoo⟩:=Qg ((if off<0 then none else faF tf off wd));rw[hoo];have HOO:=hid hoo;have HF:=hid hF;have HLN:=hid hln;have HFF:=hid hff;have HIH:=hid ih;have HHI:=hid hi;have HWD:=hid hwd;clear hoo hF hln hff ih hi hwd hf;obtain⟨W0,hW0⟩:=Qg ((w.alloc (.cells #[.int .i64 5,.int .i64 ts,.int .i64 tc,.slice A na ca,.slice B nb cb] 42)).alloc (.cells #[.int .i64 0,.int .i64 0,.int .i64 0,.slice none 0 0,.slice none 0 0] 42));have HE0:=hid (by rw[<-hW0];exact((Ext.refl w).alloc _).alloc _:Ext w W0)
 have HPA:Hid (Qm W0 w.heap.size (.int .i64 5) (.int .i64 ts) (.int .i64 tc) (.slice A na ca) (.slice B nb cb)):=hid (by
  rw[<-hW0];exact(Qm.new w _ _ _ _ _ _).ext ((Ext.refl _).alloc _))
 have HRB:Hid (Qm W0 (w.heap.size+1) (.int .i64 0) (.int .i64 0) (.int .i64 0) (.slice none 0 0) (.slice none 0 0)):=hid (by
  rw[<-hW0];have:=Qm.new (w.alloc (.cells #[.int .i64 5,.int .i64 ts,.int .i64 tc,.slice A na ca,.slice B nb cb] 42)) (.int .i64 0) (.int .i64 0) (.int .i64 0) (.slice none 0 0) (.slice none 0 0) 42
  rwa [show(w.alloc (.cells #[.int .i64 5,.int .i64 ts,.int .i64 tc,.slice A na ca,.slice B nb cb] 42)).heap.size=w.heap.size+1 by simp]at this)
 have HSZ:Hid (W0.heap.size=w.heap.size+2):=hid (by rw[<-hW0];simp);have HV:=hid hv;have HXO:=hid hx;obtain⟨o0,o1,o2,o3,o4, -⟩:=HPA.o;clear hv hx;by_cases h1:off<0
 case pos=>
  have HNO:Hid (o=none):=hid (by rw[<-HOO.o,if_pos h1]);go_enter Tryz.func70,Tryz.ntmps70;clear o0 o1 o2 o3 o4;obtain⟨r0,r1,r2,r3,r4,rf⟩:=HRB.o;have u0:=rf 0;have u1:=rf 1;have u2:=rf 2;have u3:=rf 3;have u4:=rf 4;obtain⟨W3,hW3,hB3,hH3,hS3,hX3⟩:=QK (HRB.o) (.int .i64 0) (.int .i64 0) (.int .i64 0) (.slice none 0 0) (.slice none 0 0);obtain⟨t0,t1,t2,t3,t4, -⟩:=hB3;have HW3:=hid hW3;have HX3:=hid (hX3 w HE0.o (by omega));clear hW3 hH3 hX3 hS3 rf
  go_wp2
  rw[HW3.o];clear r0 r1 r2 r3 r4;refine bodyPost_ret (v:= .tuple #[.agg #[(.int .i64 0),(.int .i64 0),(.int .i64 0),(.slice none 0 0),(.slice none 0 0)],.bool false]) (by simp[results,Tryz.results70,go_sem,t0,t1,t2,t3,t4]) rfl ?_;exact⟨_,false,_,rfl,ZF,HX3.o,.inr ⟨rfl,HNO.o⟩⟩
 have HO1:Hid (faF tf off wd=o):=hid (by rw[<-HOO.o,if_neg h1]);have e0:IntKind.i64.wrap ((nb:Int) - 1)=(nb:Int) - 1:=IntWalk.i64_in _ (by omega);have HP4:=hid o4;go_enter Tryz.func70,Tryz.ntmps70
 go_wp2
 clear o0 o1 o2 o3 o4 hW0 e0
 go_loopw [8,9,10] (fun i s9 s10 wr=>∃(k:Nat) (q:Int),k<=nb/\Hid (q=(k:Int) - 1)/\i= .int .i64 q/\Hid (Ext W0 wr)/\Hid (∀j,k<=j->∀g,tf[j]? =some g->faT g.2 (off - g.1) wd=none)) (fun i _ _ _=>(intOf i+1).toNat)
 case atStart=>exact⟨nb,_,Nat.le_refl _,hid rfl,rfl,hid (Ext.refl _),hid (fun j hj g hg=>by have:=(Qz hg).1;have:=HLN.o;omega)⟩
 case round=>
  obtain⟨k,q,hk,HQ,rfl,HX,HA⟩:=hrel;obtain⟨V,hV⟩:∃V,V=wr:=⟨_,rfl⟩;obtain rfl:=hV;have p4:=HX.o.c HP4.o;by_cases h2:q>=0
  case neg=>
   have HNO:Hid (o=none):=hid (by
    rw[<-HO1.o];refine jC fun g hg=>?_;obtain⟨j,hj⟩:=List.getElem?_of_mem hg;exact HA.o j (by have:=HQ.o;omega) g hj)
   clear p4;obtain⟨r0,r1,r2,r3,r4,rf⟩:=HRB.o.ext HX.o;have u0:=rf 0;have u1:=rf 1;have u2:=rf 2;have u3:=rf 3;have u4:=rf 4;obtain⟨W3,hW3,hB3,hH3,hS3,hX3⟩:=QK (HRB.o.ext HX.o) (.int .i64 0) (.int .i64 0) (.int .i64 0) (.slice none 0 0) (.slice none 0 0);obtain⟨t0,t1,t2,t3,t4, -⟩:=hB3;have HW3:=hid hW3;have HX3:=hid (hX3 w (HE0.o.trans HX.o) (by omega));clear hW3 hH3 hX3 hS3 rf
   go_wp2
   rw[HW3.o];clear r0 r1 r2 r3 r4;refine bodyPost_ret (v:= .tuple #[.agg #[(.int .i64 0),(.int .i64 0),(.int .i64 0),(.slice none 0 0),(.slice none 0 0)],.bool false]) (by simp[results,Tryz.results70,go_sem,t0,t1,t2,t3,t4]) rfl ?_;exact⟨_,false,_,rfl,ZF,HX3.o,.inr ⟨rfl,HNO.o⟩⟩
  obtain⟨k',hk'⟩:∃k':Nat,q=k':=⟨q.toNat,by omega⟩;subst hk';have hkk:k=k'+1:=by have:=HQ.o;omega
  have hkn:k'<nb:=by omega
  have HKK:=hid hkk;subst hkk;obtain⟨x,hxx⟩:∃x,tf[k']? =some x:=⟨_,Qq (by have:=HLN.o;omega)⟩;obtain⟨d1,bx,ox,P1,np1,cp1,P2,np2,cp2,hd,rfl,hv1,hi1,x0,x1,x2,x3,x4,x5⟩:=HF.o.fd_at hxx;have HXX:=hid hxx;have hfm:=XF HFF.o x (Qx hxx);have hwx:=HXO.o.trans (HE0.o.trans HX.o);have x0:=hwx.cell x0;have x1:=hwx.cell x1;have x2:=hwx.cell x2;have x3:=hwx.cell x3;have x4:=hwx.cell x4;have x5:=hwx.cell x5;have i2:(k':Int)<(nb:Int):=by omega
  have e2:IntKind.i64.wrap ((k':Int) - 1)=(k':Int) - 1:=IntWalk.i64_in _ (by omega);have hoff:Qy off:=HHI.o;have e3:IntKind.i64.wrap (off - x.1)=off - x.1:=IntWalk.i64_in _ (by unfold Qy at hoff;omega);have HC:=hid (HIH.o d1 (by omega) wo);have HIO:=hid (show Qy (off - x.1) by unfold Qy at hoff ⊢;omega);have HD:=hid hd;have HVX:=hid hv1;have HFX:=hid hfm.2.2;clear hd hv1 hi1 hxx hfm hoff hkn HQ HKK;by_cases h3:off<x.1
  ·have HN3:Hid (faT x.2 (off - x.1) wd=none):=hid (GP x.2 (by omega));clear x1 x2 x3 x4 x5 e3
   go_wp2
   first
    |go_roundw
    |refine⟨?rel, ?measure⟩
   case rel=>exact⟨k',(k':Int) - 1,by omega,hid rfl,by first|rfl|go_num,HX,hid (u6 HA.o HXX.o HN3.o)⟩
   case measure=>simp [intOf,e2] <;> omega
  ·obtain⟨fo,hfo⟩:=Qg (faT x.2 (off - x.1) wd);have HFO:=hid hfo;have HCC:=hid (fun w' (hw:Ext V w')=>HC.o w' x.2 _ (off - x.1) wd (hwx.trans hw) HVX.o HFX.o HIO.o HWD.o);rw[hfo]at HCC;have HSK:=hid (Ext.hc7 p4 x0 x1 x2 x3 x4 x5);clear hfo HC hwx;go_upto_region 20 with fail
   go_cut [9,10] from 72 to 90 (fun s9 s10 wx=>∃(aF:Nat) (bf:Bool) (fx:Ty),s9= .pointer (some ⟨aF,0,none⟩)/\s10= .bool bf/\Hid (Ext V wx)/\Hid (TyW d1 wo wx aF fx)/\Hid ((bf=true/\fo=some fx)\/(bf=false/\fo=none)))
   case rest=>
    obtain⟨aF,bf,fx,rfl,rfl,HX3,HTF,HFB⟩:=hcut;have HE3:=hid (HE0.o.trans (HX.o.trans HX3.o));have HR3:=hid (HRB.o.ext (HX.o.trans HX3.o));obtain⟨A7,n7,c7,B7,m7,e7,HBF,HVF⟩:=(⟨_,_,_,_,_,_,hid HTF.o.choose_spec.choose_spec.choose_spec.choose_spec.choose_spec.choose_spec.1,hid HTF.o.choose_spec.choose_spec.choose_spec.choose_spec.choose_spec.choose_spec.2⟩:∃A n c B m e,Hid (Qm wc aF (.int .i64 fx.kind) (.int .i64 fx.size) (.int .i64 fx.count) (.slice A n c) (.slice B m e))/\Hid (TyV d1 wo All (.agg #[.int .i64 fx.kind,.int .i64 fx.size,.int .i64 fx.count,.slice A n c,.slice B m e]) fx));clear HTF p4 x0 x1 x2 x3 x4 x5 HSK HCC e3
    cases bf with
    | false=>
     have HN3:Hid (faT x.2 (off - x.1) wd=none):=hid (by
      rw[HFO.o];rcases HFB.o with⟨h,_⟩|⟨_,h⟩
      ·cases h
      ·exact h)
     go_wp2
     first
      |go_roundw
      |refine⟨?rel, ?measure⟩
     case rel=>exact⟨k',(k':Int) - 1,by omega,hid rfl,by first|rfl|go_num,hid (HX.o.trans HX3.o),hid (u6 HA.o HXX.o HN3.o)⟩
     case measure=>simp [intOf,e2] <;> omega
    | true=>
     have HYES:Hid (o=some fx):=hid (by
      rw[<-HO1.o];refine yQ HXX.o (x:=fx) ?_ fun j hj g hg=>HA.o j (by omega) g hg;rw[HFO.o];rcases HFB.o with⟨_,h⟩|⟨h,_⟩
      ·exact h
      ·cases h)
     obtain⟨y0,y1,y2,y3,y4, -⟩:=HBF.o;obtain⟨r0,r1,r2,r3,r4,rf⟩:=HR3.o;have u0:=rf 0;have u1:=rf 1;have u2:=rf 2;have u3:=rf 3;have u4:=rf 4;obtain⟨W3,hW3,hB3,hH3,hS3,hX3⟩:=QK (HR3.o) (.int .i64 fx.kind) (.int .i64 fx.size) (.int .i64 fx.count) (.slice A7 n7 c7) (.slice B7 m7 e7);obtain⟨t0,t1,t2,t3,t4, -⟩:=hB3;have HW3:=hid hW3;have HX3:=hid (hX3 w HE3.o (by omega));clear hW3 hH3 hX3 hS3 rf
     go_wp2
     rw[HW3.o];clear r0 r1 r2 r3 r4;refine bodyPost_ret (v:= .tuple #[.agg #[(.int .i64 fx.kind),(.int .i64 fx.size),(.int .i64 fx.count),(.slice A7 n7 c7),(.slice B7 m7 e7)],.bool true]) (by simp[results,Tryz.results70,go_sem,t0,t1,t2,t3,t4]) rfl ?_;exact⟨_,true,_,rfl,HVF.o.up (by have:=HD.o;omega),HX3.o,.inl ⟨rfl,HYES.o⟩⟩
   have HXg2q_0:=hid ((Ext.refl V).drew);refine rgS 21 rfl rfl HSK.o (Ext.refl _).drew (fun hSg2q0=>?_);refine Qp 0 1 2 3 4 5 ?_;refine Qp 6 7 8 9 10 11 ?_;refine Zd 12 13 14 ?_;refine wpAnyH_ready (rs:=[15,19]) (by kernel_rfl) (by simp) ?_;refine(AllReadyH.consL rfl (fun K hK=>?g2qb15x16) (AllReadyH.consL rfl (fun K hK=>?g2qb19x16) AllReadyH.nil))
   case' g2qb15x16=>
    go_simp;go_at_call 70;refine(HCC.o _ HXg2q_0.o).mono ?_;rintro e w5 ⟨v5,bf,fx,rfl,hv5,hEg2q1,hfo⟩;have HVF:=hid hv5;have HFB:=hid hfo;obtain⟨A5',n5',c5',B5',m5',e5',rfl, -⟩:=hv5;clear hfo;have HXg2q_1:=hid (HXg2q_0.o.trans hEg2q1);clear hEg2q1;refine rgK hK (HSK.o _ HXg2q_1.o) (fun hSg2q1=>?_);clear hK K;refine Zd 16 17 18 ?_;refine wpAnyH_ready (rs:=[19]) (by kernel_rfl) (by simp) ?_;refine(AllReadyH.consL rfl (fun K hK=>?g2qb19x20) AllReadyH.nil)
    case' g2qb19x20=>
     go_simp;obtain⟨wP,aF,hA1,hsz,hEg2q2,hge,hob,hss⟩:=K7 HXg2q_1.o;refine Eq.mpr (congrArg (K _) hA1) ?_
     first|rw[hsz]|(have hq:V.heap.size=aF:=hsz;rw[hq];clear hq)|skip
     have HBP:=hid hob;have HGP:=hid hge;clear hA1 hsz hge hob hss;have HXg2q_2:=hid (HXg2q_1.o.trans hEg2q2);clear hEg2q2;refine rgK hK (HSK.o _ HXg2q_2.o) (fun hSg2q2=>?_);clear hK K;refine wpAnyH_ready (rs:=[20]) (by kernel_rfl) (by simp) ?_;refine(AllReadyH.consL rfl (fun K hK=>?g2qb20x21) AllReadyH.nil)
     case' g2qb20x21=>
      obtain⟨W3,hW3,hB3,hH3,hS3,hX3⟩:=QK HBP.o (.int .i64 fx.kind) (.int .i64 fx.size) (.int .i64 fx.count) (.slice A5' n5' c5') (.slice B5' m5' e5');have HTB:Hid (TyW d1 wo W3 aF fx):=hid ⟨_,_,_,_,_,_,hB3,HVF.o⟩;have HE3:=hid (hX3 V HXg2q_2.o HGP.o);have HW3:=hid hW3;obtain⟨z0,z1,z2,z3,z4,zf⟩:=HBP.o;have f0:=zf 0;have f1:=zf 1;have f2:=zf 2;have f3:=zf 3;have f4:=zf 4;clear hB3 hH3 hS3 hX3 hW3 zf HBP;go_simp;rw[HW3.o];clear z0 z1 z2 z3 z4 f0 f1 f2 f3 f4;refine rgK hK (HSK.o _ HE3.o) (fun hSg2q3=>?_);clear hK K;refine wpAnyH_done (by kernel_rfl) ?_ _;change wpList _ _ _ _ _ _
      go_wp2
      go_meet;exact⟨aF,bf,fx,rfl,rfl,HE3,HTB,HFB⟩
   case' g2qb19x16=>
    go_simp;obtain⟨wP,aF,hA1,hsz,hEg2q1,hge,hob,hss⟩:=K7 HXg2q_0.o;refine Eq.mpr (congrArg (K _) hA1) ?_
    first|rw[hsz]|(have hq:V.heap.size=aF:=hsz;rw[hq];clear hq)|skip
    have HBP:=hid hob;have HGP:=hid hge;clear hA1 hsz hge hob hss;have HXg2q_1:=hid (HXg2q_0.o.trans hEg2q1);clear hEg2q1;refine rgK hK (HSK.o _ HXg2q_1.o) (fun hSg2q1=>?_);clear hK K;refine wpAnyH_ready (rs:=[15]) (by kernel_rfl) (by simp) ?_;refine(AllReadyH.consL rfl (fun K hK=>?g2qb15x22) AllReadyH.nil)
    case' g2qb15x22=>
     go_simp;go_at_call 70;refine(HCC.o _ HXg2q_1.o).mono ?_;rintro e w5 ⟨v5,bf,fx,rfl,hv5,hEg2q2,hfo⟩;have HVF:=hid hv5;have HFB:=hid hfo;obtain⟨A5',n5',c5',B5',m5',e5',rfl, -⟩:=hv5;clear hfo;have HXg2q_2:=hid (HXg2q_1.o.trans hEg2q2);have HBP:=hid (HBP.o.ext hEg2q2);clear hEg2q2;refine rgK hK (HSK.o _ HXg2q_2.o) (fun hSg2q2=>?_);clear hK K;refine Zd 16 17 18 ?_;refine wpAnyH_ready (rs:=[20]) (by kernel_rfl) (by simp) ?_;refine(AllReadyH.consL rfl (fun K hK=>?g2qb20x26) AllReadyH.nil)
     case' g2qb20x26=>
      obtain⟨W3,hW3,hB3,hH3,hS3,hX3⟩:=QK HBP.o (.int .i64 fx.kind) (.int .i64 fx.size) (.int .i64 fx.count) (.slice A5' n5' c5') (.slice B5' m5' e5');have HTB:Hid (TyW d1 wo W3 aF fx):=hid ⟨_,_,_,_,_,_,hB3,HVF.o⟩;have HE3:=hid (hX3 V HXg2q_2.o HGP.o);have HW3:=hid hW3;obtain⟨z0,z1,z2,z3,z4,zf⟩:=HBP.o;have f0:=zf 0;have f1:=zf 1;have f2:=zf 2;have f3:=zf 3;have f4:=zf 4;clear hB3 hH3 hS3 hX3 hW3 zf HBP;go_simp;rw[HW3.o];clear z0 z1 z2 z3 z4 f0 f1 f2 f3 f4;refine rgK hK (HSK.o _ HE3.o) (fun hSg2q3=>?_);clear hK K;refine wpAnyH_done (by kernel_rfl) ?_ _;change wpList _ _ _ _ _ _
      go_wp2
      go_meet;exact⟨aF,bf,fx,rfl,rfl,HE3,HTB,HFB⟩
theorem iw:∀d,gd d:=by
 intro d
 induction d using Nat.strongRecOn with
 |_ d ih=>
  intro wo w t v off wd hx hv hf hi hwd;obtain⟨A,na,ca,B,nb,cb,rfl, -⟩:=id hv;rcases Z1 hf with(rfl|rfl)|⟨s,hs,(rfl|rfl)⟩|⟨x,rfl,hfx⟩|⟨x,n,rfl,h1,h2,hfx⟩|⟨l,rfl,hl⟩
  ·exact uj d wo w 0 0 0 [] [] off wd A B na ca nb cb hx hv (.inl rfl) hi
  ·exact uj d wo w 6 0 0 [] [] off wd A B na ca nb cb hx hv (.inr rfl) hi
  ·exact wB d wo w 1 s 0 [] [] off wd A B na ca nb cb hx hv hf (.inl rfl) hi
  ·exact wB d wo w 2 s 0 [] [] off wd A B na ca nb cb hx hv hf (.inr (.inl rfl)) hi
  ·exact wB d wo w 3 0 0 [x] [] off wd A B na ca nb cb hx hv hf (.inr (.inr rfl)) hi
  ·exact a7 d ih wo w 0 n [x] [] off wd A B na ca nb cb hx hv hf hi hwd
  ·exact a8 d ih wo w 0 0 [] l off wd A B na ca nb cb hx hv hf hi hwd
theorem sQ (d:Nat)(wo w:World)(t:Ty)(v:Value)(off wd:Int)(hx:Ext wo w)(hv:TyV d wo All v t)(hi:Qy off):Calls Tryz.prog 42 #[v,.int .i64 off,.int .i64 wd] w (Kd d wo w (Xq t off wd)):=by
 have HXO:=hid hx;clear hx;have HV:=hid hv;obtain⟨A,na,ca,B,nb,cb,rfl, -⟩:=hv;obtain⟨o,hoo⟩:=Qg (Xq t off wd);rw[hoo];have HOO:=hid hoo;clear hoo;obtain⟨W0,hW0⟩:=Qg ((w.alloc (.cells #[.int .i64 t.kind,.int .i64 t.size,.int .i64 t.count,.slice A na ca,.slice B nb cb] 42)).alloc (.cells #[.int .i64 0,.int .i64 0,.int .i64 0,.slice none 0 0,.slice none 0 0] 42));have HE0:=hid (by rw[<-hW0];exact((Ext.refl w).alloc _).alloc _:Ext w W0)
 have HPA:Hid (Qm W0 w.heap.size (.int .i64 t.kind) (.int .i64 t.size) (.int .i64 t.count) (.slice A na ca) (.slice B nb cb)):=hid (by
  rw[<-hW0];exact(Qm.new w _ _ _ _ _ _).ext ((Ext.refl _).alloc _))
 have HRB:Hid (Qm W0 (w.heap.size+1) (.int .i64 0) (.int .i64 0) (.int .i64 0) (.slice none 0 0) (.slice none 0 0)):=hid (by
  rw[<-hW0];have:=Qm.new (w.alloc (.cells #[.int .i64 t.kind,.int .i64 t.size,.int .i64 t.count,.slice A na ca,.slice B nb cb] 42)) (.int .i64 0) (.int .i64 0) (.int .i64 0) (.slice none 0 0) (.slice none 0 0) 42
  rwa [show(w.alloc (.cells #[.int .i64 t.kind,.int .i64 t.size,.int .i64 t.count,.slice A na ca,.slice B nb cb] 42)).heap.size=w.heap.size+1 by simp]at this)
 obtain⟨o0,o1,o2,o3,o4, -⟩:=HPA.o;have HGC:=hid (zk d W0 t _ (HV.o.ext (HXO.o.trans HE0.o)));obtain⟨z,hz⟩:=Qg (Zm t);rw[hz]at HGC;have HZ:=hid hz;clear hz;go_enter Tryz.func42,Tryz.ntmps42
 go_wp2_with fail
 refine HGC.o.mono ?_;rintro e w1 ⟨rfl,hx1⟩;have HX1:=hid hx1;have HE1:=hid (HE0.o.trans HX1.o);have HR1:=hid (HRB.o.ext HX1.o);have o0:=hx1.cell o0;have o1:=hx1.cell o1;have o2:=hx1.cell o2;have o3:=hx1.cell o3;have o4:=hx1.cell o4;clear hx1 hW0;by_cases h1:z=0
 case neg=>
  have g1:((z:Int) != 0)=true:=by simp;omega
  have HNO:Hid (o=none):=hid (by rw[<-HOO.o];unfold Xq;rw[if_neg (fun h=>h1 (by rw[<-HZ.o];exact of_decide_eq_true h.1))]);clear o0 o1 o2 o3 o4 h1;obtain⟨r0,r1,r2,r3,r4,rf⟩:=HR1.o;have u0:=rf 0;have u1:=rf 1;have u2:=rf 2;have u3:=rf 3;have u4:=rf 4;obtain⟨W3,hW3,hB3,hH3,hS3,hX3⟩:=QK (HR1.o) (.int .i64 0) (.int .i64 0) (.int .i64 0) (.slice none 0 0) (.slice none 0 0);obtain⟨t0,t1,t2,t3,t4, -⟩:=hB3;have HW3:=hid hW3;have HX3:=hid (hX3 w HE1.o (by omega));clear hW3 hH3 hX3 hS3 rf
  go_wp2
  rw[HW3.o];clear r0 r1 r2 r3 r4;refine bodyPost_ret (v:= .tuple #[.agg #[(.int .i64 0),(.int .i64 0),(.int .i64 0),(.slice none 0 0),(.slice none 0 0)],.bool false]) (by simp[results,Tryz.results42,go_sem,t0,t1,t2,t3,t4]) rfl ?_;exact⟨_,false,_,rfl,ZF,HX3.o,.inr ⟨rfl,HNO.o⟩⟩
 subst h1;by_cases hw:wd=1\/wd=2\/wd=4
 case neg=>
  have HNO:Hid (o=none):=hid (by rw[<-HOO.o];unfold Xq;rw[if_neg (fun h=>hw h.2)]);have k1:(wd != 1)=true:=by simp;omega
  have k2:(wd != 2)=true:=by simp;omega
  have k4:(wd != 4)=true:=by simp;omega
  clear o0 o1 o2 o3 o4 hw;obtain⟨r0,r1,r2,r3,r4,rf⟩:=HR1.o;have u0:=rf 0;have u1:=rf 1;have u2:=rf 2;have u3:=rf 3;have u4:=rf 4;obtain⟨W3,hW3,hB3,hH3,hS3,hX3⟩:=QK (HR1.o) (.int .i64 0) (.int .i64 0) (.int .i64 0) (.slice none 0 0) (.slice none 0 0);obtain⟨t0,t1,t2,t3,t4, -⟩:=hB3;have HW3:=hid hW3;have HX3:=hid (hX3 w HE1.o (by omega));clear hW3 hH3 hX3 hS3 rf
  go_wp2
  rw[HW3.o];clear r0 r1 r2 r3 r4;refine bodyPost_ret (v:= .tuple #[.agg #[(.int .i64 0),(.int .i64 0),(.int .i64 0),(.slice none 0 0),(.slice none 0 0)],.bool false]) (by simp[results,Tryz.results42,go_sem,t0,t1,t2,t3,t4]) rfl ?_;exact⟨_,false,_,rfl,ZF,HX3.o,.inr ⟨rfl,HNO.o⟩⟩
 have hgd:Zq t=true:=Qv HZ.o;have hG:=VJ.1 hgd;have HFC:=hid (iw d wo w1 t _ off wd (HXO.o.trans HE1.o) HV.o hG.2.1 hi hw);have HFT:Hid (faT t off wd=o):=hid (by rw[<-HOO.o];unfold Xq;rw[if_pos ⟨hgd,hw⟩]);rw[HFT.o]at HFC;clear hG hgd;rcases hw with rfl|rfl|rfl
 case inl=>
  go_wp2_with fail
  refine HFC.o.mono ?_;rintro e w2 ⟨v2,b2,x2,rfl,hv2,hx2,ho2⟩;have HV2:=hid hv2;have HO2:=hid ho2;have HX2:=hid hx2;obtain⟨A2,n2,c2,B2,m2,e2,rfl, -⟩:=hv2;clear hx2 ho2 o0 o1 o2 o3 o4;obtain⟨r0,r1,r2,r3,r4,rf⟩:=HR1.o.ext HX2.o;have u0:=rf 0;have u1:=rf 1;have u2:=rf 2;have u3:=rf 3;have u4:=rf 4;obtain⟨W3,hW3,hB3,hH3,hS3,hX3⟩:=QK (HR1.o.ext HX2.o) (.int .i64 x2.kind) (.int .i64 x2.size) (.int .i64 x2.count) (.slice A2 n2 c2) (.slice B2 m2 e2);obtain⟨t0,t1,t2,t3,t4, -⟩:=hB3;have HW3:=hid hW3;have HX3:=hid (hX3 w (HE1.o.trans HX2.o) (by omega));clear hW3 hH3 hX3 hS3 rf
  go_wp2
  rw[HW3.o];clear r0 r1 r2 r3 r4;refine bodyPost_ret (v:= .tuple #[.agg #[(.int .i64 x2.kind),(.int .i64 x2.size),(.int .i64 x2.count),(.slice A2 n2 c2),(.slice B2 m2 e2)],.bool b2]) (by simp[results,Tryz.results42,go_sem,t0,t1,t2,t3,t4]) rfl ?_;exact⟨_,b2,_,rfl,HV2.o,HX3.o,HO2.o⟩
 case inr.inl=>
  go_wp2_with fail
  refine HFC.o.mono ?_;rintro e w2 ⟨v2,b2,x2,rfl,hv2,hx2,ho2⟩;have HV2:=hid hv2;have HO2:=hid ho2;have HX2:=hid hx2;obtain⟨A2,n2,c2,B2,m2,e2,rfl, -⟩:=hv2;clear hx2 ho2 o0 o1 o2 o3 o4;obtain⟨r0,r1,r2,r3,r4,rf⟩:=HR1.o.ext HX2.o;have u0:=rf 0;have u1:=rf 1;have u2:=rf 2;have u3:=rf 3;have u4:=rf 4;obtain⟨W3,hW3,hB3,hH3,hS3,hX3⟩:=QK (HR1.o.ext HX2.o) (.int .i64 x2.kind) (.int .i64 x2.size) (.int .i64 x2.count) (.slice A2 n2 c2) (.slice B2 m2 e2);obtain⟨t0,t1,t2,t3,t4, -⟩:=hB3;have HW3:=hid hW3;have HX3:=hid (hX3 w (HE1.o.trans HX2.o) (by omega));clear hW3 hH3 hX3 hS3 rf
  go_wp2
  rw[HW3.o];clear r0 r1 r2 r3 r4;refine bodyPost_ret (v:= .tuple #[.agg #[(.int .i64 x2.kind),(.int .i64 x2.size),(.int .i64 x2.count),(.slice A2 n2 c2),(.slice B2 m2 e2)],.bool b2]) (by simp[results,Tryz.results42,go_sem,t0,t1,t2,t3,t4]) rfl ?_;exact⟨_,b2,_,rfl,HV2.o,HX3.o,HO2.o⟩
 case inr.inr=>
  go_wp2_with fail
  refine HFC.o.mono ?_;rintro e w2 ⟨v2,b2,x2,rfl,hv2,hx2,ho2⟩;have HV2:=hid hv2;have HO2:=hid ho2;have HX2:=hid hx2;obtain⟨A2,n2,c2,B2,m2,e2,rfl, -⟩:=hv2;clear hx2 ho2 o0 o1 o2 o3 o4;obtain⟨r0,r1,r2,r3,r4,rf⟩:=HR1.o.ext HX2.o;have u0:=rf 0;have u1:=rf 1;have u2:=rf 2;have u3:=rf 3;have u4:=rf 4;obtain⟨W3,hW3,hB3,hH3,hS3,hX3⟩:=QK (HR1.o.ext HX2.o) (.int .i64 x2.kind) (.int .i64 x2.size) (.int .i64 x2.count) (.slice A2 n2 c2) (.slice B2 m2 e2);obtain⟨t0,t1,t2,t3,t4, -⟩:=hB3;have HW3:=hid hW3;have HX3:=hid (hX3 w (HE1.o.trans HX2.o) (by omega));clear hW3 hH3 hX3 hS3 rf
  go_wp2
  rw[HW3.o];clear r0 r1 r2 r3 r4;refine bodyPost_ret (v:= .tuple #[.agg #[(.int .i64 x2.kind),(.int .i64 x2.size),(.int .i64 x2.count),(.slice A2 n2 c2),(.slice B2 m2 e2)],.bool b2]) (by simp[results,Tryz.results42,go_sem,t0,t1,t2,t3,t4]) rfl ?_;exact⟨_,b2,_,rfl,HV2.o,HX3.o,HO2.o⟩
end Go.Proofs.YtlmipgdnlfjpaaaGreat
