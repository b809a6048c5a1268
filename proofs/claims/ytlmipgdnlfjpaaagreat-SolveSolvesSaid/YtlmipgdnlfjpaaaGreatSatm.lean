/- Lemmas of mine, merged. -/
import Derived.Test.YtlmipgdnlfjpaaaGreatJoiAm
import Derived.Test.YtlmipgdnlfjpaaaGreatSobm
set_option maxRecDepth 100000
set_option maxHeartbeats 16000000
set_option linter.unusedSimpArgs false
set_option linter.unusedVariables false
namespace Go.Proofs.YtlmipgdnlfjpaaaGreat
open Go.RowKit Go.Deco
theorem Gy (d:Nat)(w:World)(va vb:Value)(ha:TyV d w All va (Ty.int 4))(hb:TyV d w All vb (Ty.int 4)):Calls Tryz.prog 66 #[va,vb] w (ZX w true):=by
 obtain⟨A1,n1,c1,B1,m1,e1,rfl, -⟩:=ha;obtain⟨A2,n2,c2,B2,m2,e2,rfl, -⟩:=hb;show Calls Tryz.prog 66 #[.agg #[.int .i64 1,.int .i64 4,.int .i64 0,.slice A1 n1 c1,.slice B1 m1 e1],.agg #[.int .i64 1,.int .i64 4,.int .i64 0,.slice A2 n2 c2,.slice B2 m2 e2]] w _;obtain⟨W0,hW0⟩:=Qg ((w.alloc (.cells #[.int .i64 1,.int .i64 4,.int .i64 0,.slice A1 n1 c1,.slice B1 m1 e1] 42)).alloc (.cells #[.int .i64 1,.int .i64 4,.int .i64 0,.slice A2 n2 c2,.slice B2 m2 e2] 42));have hE0:Ext w W0:=by rw[<-hW0];exact((Ext.refl w).alloc _).alloc _
 have hP:Qm W0 w.heap.size (.int .i64 1) (.int .i64 4) (.int .i64 0) (.slice A1 n1 c1) (.slice B1 m1 e1):=by
  rw[<-hW0];exact(Qm.new w _ _ _ _ _ _).ext ((Ext.refl _).alloc _)
 have hQ:Qm W0 (w.heap.size+1) (.int .i64 1) (.int .i64 4) (.int .i64 0) (.slice A2 n2 c2) (.slice B2 m2 e2):=by
  rw[<-hW0];have:=Qm.new (w.alloc (.cells #[.int .i64 1,.int .i64 4,.int .i64 0,.slice A1 n1 c1,.slice B1 m1 e1] 42)) (.int .i64 1) (.int .i64 4) (.int .i64 0) (.slice A2 n2 c2) (.slice B2 m2 e2) 42
  rwa [show(w.alloc (.cells #[.int .i64 1,.int .i64 4,.int .i64 0,.slice A1 n1 c1,.slice B1 m1 e1] 42)).heap.size=w.heap.size+1 by simp]at this
 have HE0:=hid hE0;obtain⟨p0,p1,p2,p3,p4, -⟩:=hP;obtain⟨q0,q1,q2,q3,q4, -⟩:=hQ;clear hE0;go_enter Tryz.func66,Tryz.ntmps66
 go_wp2
 go_ret;exact⟨rfl,HE0.o⟩
theorem lP (d:Nat)(w:World)(va vb:Value)(ha:TyV d w All va (Ty.int 4))(hb:TyV d w All vb (Ty.int 4)):Calls Tryz.prog 39 #[va,vb] w (ZX w true):=by
 have HA:=hid ha;have HB:=hid hb;obtain⟨A1,n1,c1,B1,m1,e1,rfl, -⟩:=ha;obtain⟨A2,n2,c2,B2,m2,e2,rfl, -⟩:=hb;show Calls Tryz.prog 39 #[.agg #[.int .i64 1,.int .i64 4,.int .i64 0,.slice A1 n1 c1,.slice B1 m1 e1],.agg #[.int .i64 1,.int .i64 4,.int .i64 0,.slice A2 n2 c2,.slice B2 m2 e2]] w _;obtain⟨W0,hW0⟩:=Qg ((w.alloc (.cells #[.int .i64 1,.int .i64 4,.int .i64 0,.slice A1 n1 c1,.slice B1 m1 e1] 42)).alloc (.cells #[.int .i64 1,.int .i64 4,.int .i64 0,.slice A2 n2 c2,.slice B2 m2 e2] 42));have hE0:Ext w W0:=by rw[<-hW0];exact((Ext.refl w).alloc _).alloc _
 have hP:Qm W0 w.heap.size (.int .i64 1) (.int .i64 4) (.int .i64 0) (.slice A1 n1 c1) (.slice B1 m1 e1):=by
  rw[<-hW0];exact(Qm.new w _ _ _ _ _ _).ext ((Ext.refl _).alloc _)
 have hQ:Qm W0 (w.heap.size+1) (.int .i64 1) (.int .i64 4) (.int .i64 0) (.slice A2 n2 c2) (.slice B2 m2 e2):=by
  rw[<-hW0];have:=Qm.new (w.alloc (.cells #[.int .i64 1,.int .i64 4,.int .i64 0,.slice A1 n1 c1,.slice B1 m1 e1] 42)) (.int .i64 1) (.int .i64 4) (.int .i64 0) (.slice A2 n2 c2) (.slice B2 m2 e2) 42
  rwa [show(w.alloc (.cells #[.int .i64 1,.int .i64 4,.int .i64 0,.slice A1 n1 c1,.slice B1 m1 e1] 42)).heap.size=w.heap.size+1 by simp]at this
 have HE0:=hid hE0;obtain⟨p0,p1,p2,p3,p4, -⟩:=hP;obtain⟨q0,q1,q2,q3,q4, -⟩:=hQ;have HC1:=hid (zP d W0 (Ty.int 4) _ (HA.o.ext hE0));have hg:Zq (Ty.int 4)=true:=by decide
 rw[hg]at HC1;clear hE0;go_enter Tryz.func39,Tryz.ntmps39
 go_wp2_with fail
 refine HC1.o.mono ?_;rintro e w1 ⟨rfl,hx1⟩;have HX1:=hid hx1;have p0:=hx1.cell p0;have p1:=hx1.cell p1;have p2:=hx1.cell p2;have p3:=hx1.cell p3;have p4:=hx1.cell p4;have q0:=hx1.cell q0;have q1:=hx1.cell q1;have q2:=hx1.cell q2;have q3:=hx1.cell q3;have q4:=hx1.cell q4;clear hx1 hW0;have HC2:=hid (zP d w1 (Ty.int 4) _ (HB.o.ext (HE0.o.trans HX1.o)));rw[hg]at HC2
 go_wp2_with fail
 refine HC2.o.mono ?_;rintro e w2 ⟨rfl,hx2⟩;have HX2:=hid (HX1.o.trans hx2);have p0:=hx2.cell p0;have p1:=hx2.cell p1;have p2:=hx2.cell p2;have p3:=hx2.cell p3;have p4:=hx2.cell p4;have q0:=hx2.cell q0;have q1:=hx2.cell q1;have q2:=hx2.cell q2;have q3:=hx2.cell q3;have q4:=hx2.cell q4;clear hx2;have HC3:=hid (Gy d w2 _ _ (HA.o.ext (HE0.o.trans HX2.o)) (HB.o.ext (HE0.o.trans HX2.o)))
 go_wp2_with fail
 refine HC3.o.mono ?_;rintro e w3 ⟨rfl,hx3⟩;have HX3:=hid (HX2.o.trans hx3);clear hx3 p0 p1 p2 p3 p4 q0 q1 q2 q3 q4
 go_wp2
 go_ret;exact⟨rfl,HE0.o.trans HX3.o⟩
inductive Tag:Nat->Nat->Prop
 |mk (n d:Nat):Tag n d
theorem tag (n d:Nat){p:Prop}(h:Tag n d->p):p:=h (.mk n d)
theorem vQ {n d:Nat}{p:Prop}(_:Tag n d)(h:Tag 0 (d+n)->p):p:=h (.mk _ _)
theorem G5 {d:Nat}{W0 w:World}{a b:Nat}{SA SB:Nat->Prop}{x y:Ty}{A B A' B':Option Addr}{n c m e n' c' m' e':Nat}(hx:Ext W0 w)(ha:W0.heap.size<=a)(hb:W0.heap.size<=b)(hne:a≠b){o0 o1 o2 o3 o4 q0 q1 q2 q3 q4:Value}(hp:Qm w a o0 o1 o2 o3 o4)(hq:Qm w b q0 q1 q2 q3 q4)
  (hva:TyV d w SA (.agg #[.int .i64 x.kind,.int .i64 x.size,.int .i64 x.count,.slice A n c,.slice B m e]) x) (hvb:TyV d w SB (.agg #[.int .i64 y.kind,.int .i64 y.size,.int .i64 y.count,.slice A' n' c',.slice B' m' e']) y) (hA:∀k,SA k->k≠a/\k≠b) (hB:∀k,SB k->k≠a/\k≠b):
  ∃W3 W4,((((w.setCell ⟨a,0,none⟩ (.int .i64 x.kind)).setCell ⟨a,1,none⟩ (.int .i64 x.size)).setCell ⟨a,2,none⟩ (.int .i64 x.count)).setCell ⟨a,3,none⟩ (.slice A n c)).setCell ⟨a,4,none⟩ (.slice B m e)=W3/\
   ((((W3.setCell ⟨b,0,none⟩ (.int .i64 y.kind)).setCell ⟨b,1,none⟩ (.int .i64 y.size)).setCell ⟨b,2,none⟩ (.int .i64 y.count)).setCell ⟨b,3,none⟩ (.slice A' n' c')).setCell ⟨b,4,none⟩ (.slice B' m' e')=W4/\Ext W0 W4/\TyB d W4 a x/\TyB d W4 b y:=by
 obtain⟨W3,hW3,hB3,hH3,hS3,hX3⟩:=QK hp (.int .i64 x.kind) (.int .i64 x.size) (.int .i64 x.count) (.slice A n c) (.slice B m e);obtain⟨W4,hW4,hB4,hH4,hS4,hX4⟩:=QK (fF hq (hH3 b (fun e=>hne e.symm))) (.int .i64 y.kind) (.int .i64 y.size) (.int .i64 y.count) (.slice A' n' c') (.slice B' m' e');exact⟨W3,W4,hW3,hW4,hX4 W0 (hX3 W0 hx ha) hb,Gp hB3 (hva.keep fun k h _=>hH3 k (hA k h).1) hH4 hne fun k h=>(hA k h).2,A',n',c',B',m',e',hB4,((hvb.keep fun k h _=>hH3 k (hB k h).1).keep fun k h _=>hH4 k (hB k h).2).all⟩
theorem Gq (d:Nat)(w:World)(A B:Option Addr)(n c m e:Nat)(ts:List Ty)(cc:Con)(vc:Value)(hs:Sl (tyR d) w All (.slice A n c) ts)(hb:∀t∈ts,bnT t=true)(hc:Xc d w All vc cc)(hk:cc.kind=1)(ht:cc.type=Ty.int 4)(hx:typeAt ts cc.a=Ty.int 4):
  Calls Tryz.prog 14 #[.agg #[.slice A n c,.slice B m e],vc] w (ZX w true):=by
 have HC:=hid hc;obtain⟨A1,n1,c1,B1,m1,e1,rfl,hcb,hct⟩:=hc;obtain⟨W0,hW0⟩:=Qg ((w.alloc (.cells #[.slice A n c,.slice B m e] 28)).alloc (.cells #[.int .i64 cc.kind,.int .i64 cc.a,.int .i64 cc.b,.int .i64 cc.off,.int .i64 cc.width,.int .i64 cc.type.kind,.int .i64 cc.type.size,.int .i64 cc.type.count,.slice A1 n1 c1,.slice B1 m1 e1] 48));have hE0:Ext w W0:=by rw[<-hW0];exact((Ext.refl w).alloc _).alloc _
 have hP:Q5 W0 w.heap.size (.slice A n c) (.slice B m e):=by rw[<-hW0];exact(Q5.new w _ _ _).ext ((Ext.refl _).alloc _)
 have hQ:Xj W0 (w.heap.size+1) 0 cc A1 n1 c1 B1 m1 e1:=by
  rw[<-hW0];have:=Xj.new (w.alloc (.cells #[.slice A n c,.slice B m e] 28)) cc A1 n1 c1 B1 m1 e1 48
  rwa [show(w.alloc (.cells #[.slice A n c,.slice B m e] 28)).heap.size=w.heap.size+1 by simp]at this
 have HE0:=hid hE0;have HQB:=hid hQ;obtain⟨p0,p1, -⟩:=hP;obtain⟨q0,q1,q2,q3,q4,q5,q6,q7,q8,q9⟩:=hQ;rw[Nat.zero_add]at q1 q2 q3 q4 q5 q6 q7 q8 q9;have HK:=hid (And.intro hk (And.intro ht hx));have HT:=hid (hct.ext hE0);obtain⟨xa,hxa⟩:=Qg (typeAt ts cc.a);obtain⟨xb,hxb⟩:=Qg (typeAt ts cc.b);have HCA:=hid (fun w' (hw:Ext W0 w')=>uc d w' A B n c m e ts cc.a (hs.ext (hE0.trans hw)) hb);have HCB:=hid (fun w' (hw:Ext W0 w')=>uc d w' A B n c m e ts cc.b (hs.ext (hE0.trans hw)) hb);rw[hxa]at HCA;rw[hxb]at HCB;have HXA:=hid (hxa.symm.trans hx);have HOF:=hid hcb.2.2.2.1;have HSK:=hid (Ext.hc4 p0 p1 q1 q2);clear hE0 hs hb hct hcb hxa hxb hk ht hx;go_enter Tryz.func14,Tryz.ntmps14;go_upto_region 1 with fail
 go_cut [5,6] from 9 to 16 (fun s5 s6 wx=>∃(aP aQ:Nat),s5= .pointer (some ⟨aP,0,none⟩)/\s6= .pointer (some ⟨aQ,0,none⟩)/\Hid (Ext W0 wx)/\Hid (TyB d wx aP xa)/\Hid (TyB d wx aQ xb))
 case rest=>
  obtain⟨aP,aQ,rfl,rfl,HX,HTA,HTB⟩:=hcut;obtain⟨W1,hW1⟩:∃W1,W1=wc:=⟨_,rfl⟩;obtain rfl:=hW1;obtain⟨k,ca,cb',off,wd,ct⟩:=cc;simp only at p0 p1 q0 q1 q2 q3 q4 q5 q6 q7 q8 q9 HT HC HCA HCB HK HOF HSK HQB;obtain⟨A5,n5,c5,B5,m5,e5,HBP,HVA⟩:=(⟨_,_,_,_,_,_,hid HTA.o.choose_spec.choose_spec.choose_spec.choose_spec.choose_spec.choose_spec.1,hid HTA.o.choose_spec.choose_spec.choose_spec.choose_spec.choose_spec.choose_spec.2⟩:∃A n c B m e,Hid (Qm W1 aP (.int .i64 xa.kind) (.int .i64 xa.size) (.int .i64 xa.count) (.slice A n c) (.slice B m e))/\Hid (TyV d W1 All (.agg #[.int .i64 xa.kind,.int .i64 xa.size,.int .i64 xa.count,.slice A n c,.slice B m e]) xa));obtain⟨A6,n6,c6,B6,m6,e6,HBQ,HVB⟩:=(⟨_,_,_,_,_,_,hid HTB.o.choose_spec.choose_spec.choose_spec.choose_spec.choose_spec.choose_spec.1,hid HTB.o.choose_spec.choose_spec.choose_spec.choose_spec.choose_spec.choose_spec.2⟩:∃A n c B m e,Hid (Qm W1 aQ (.int .i64 xb.kind) (.int .i64 xb.size) (.int .i64 xb.count) (.slice A n c) (.slice B m e))/\Hid (TyV d W1 All (.agg #[.int .i64 xb.kind,.int .i64 xb.size,.int .i64 xb.count,.slice A n c,.slice B m e]) xb));clear p0 p1 q1 q2 HSK HCA HCB hW0;have q0:=HX.o.c q0;have q3:=HX.o.c q3;have q4:=HX.o.c q4;have q5:=HX.o.c q5;have q6:=HX.o.c q6;have q7:=HX.o.c q7;have q8:=HX.o.c q8;have q9:=HX.o.c q9;obtain⟨a0,a1,a2,a3,a4, -⟩:=HBP.o;obtain⟨b0,b1,b2,b3,b4, -⟩:=HBQ.o;obtain rfl:k=1:=HK.o.1;obtain rfl:ct=Ty.int 4:=HK.o.2.1;obtain rfl:xa=Ty.int 4:=HXA.o;have HC1:=hid (lP d W1 _ _ (HT.o.ext HX.o) HVA.o);clear b0 b1 b2 b3 b4
  go_wp2_with fail
  refine HC1.o.mono ?_;rintro e w5 ⟨rfl,hx5⟩;have HX5:=hid (HX.o.trans hx5);clear hx5 a0 a1 a2 a3 a4 q0 q3 q4 q5 q6 q7 q8 q9
  go_wp2
  go_ret;exact⟨rfl,HE0.o.trans HX5.o⟩
 have HX:=hid ((Ext.refl W0).drew);refine sk 10 (by kernel_rfl) rfl rfl rfl (by kernel_rfl) (by kernel_rfl) (fun w'=>w'.cell? ⟨w.heap.size,0,none⟩=some (.slice A n c)/\w'.cell? ⟨w.heap.size,1,none⟩=some (.slice B m e)/\w'.cell? ⟨w.heap.size+1,1,none⟩=some (.int .i64 cc.a)/\w'.cell? ⟨w.heap.size+1,2,none⟩=some (.int .i64 cc.b)) ⟨p0,p1,q1,q2⟩ (fun hS=>?_);refine Qp 0 1 2 4 5 6 ?_;refine wpAnyH_ready (rs:=[3,8,9]) (by kernel_rfl) (by simp) ?_;refine(AllReadyH.consL rfl (fun K hK=>tag 1 0 ?_) (AllReadyH.consL rfl (fun K hK=>tag 4 0 ?_) (AllReadyH.consL rfl (fun K hK=>tag 8 0 ?_) AllReadyH.nil)))
 all_goals repeat' (first
  |(refine fun(hT:Tag 1 _)=>?_;(
      go_simp;go_at_call 18;refine(HCA.o _ HX.o).mono ?_;rintro e w5 ⟨v5,rfl,hv5,hE⟩;have HVA:=hid (xJ hv5);have HSA:=hid hE.size;obtain⟨A5,n5,c5,B5,m5,e5,rfl, -⟩:=hv5
      (try have HBP:=hid (HBP.o.ext hE))
      (try have HBQ:=hid (HBQ.o.ext hE))
      have HX:=hid (HX.o.trans hE);clear hE;refine rgK hK (HSK.o _ HX.o) (fun hS=>vQ hT ?_)))
  |(refine fun(hT:Tag 2 _)=>?_;(
      go_simp;go_at_call 18;refine(HCB.o _ HX.o).mono ?_;rintro e w6 ⟨v6,rfl,hv6,hE⟩;have HVB:=hid (xJ hv6);have HSB:=hid hE.size;obtain⟨A6,n6,c6,B6,m6,e6,rfl, -⟩:=hv6;have HVA:=hid (HVA.o.ext hE)
      (try have HBP:=hid (HBP.o.ext hE))
      (try have HBQ:=hid (HBQ.o.ext hE))
      have HX:=hid (HX.o.trans hE);clear hE;refine rgK hK (HSK.o _ HX.o) (fun hS=>vQ hT ?_)))
  |(refine fun(hT:Tag 4 _)=>?_;(
      go_simp;obtain⟨wP,aP,hA1,hsz,hE,hge,hob,hss⟩:=K7 HX.o;refine Eq.mpr (congrArg (K _) hA1) ?_
      (first|rw[hsz]|(have hq:W0.heap.size=aP:=hsz;rw[hq];clear hq)|skip)
      have HBP:=hid hob;have HGP:=hid hge;have HSP:=hid (And.intro hsz hss);clear hA1 hsz hge hob hss
      (try have HVA:=hid (HVA.o.ext hE))
      (try have HVB:=hid (HVB.o.ext hE))
      (try have HBQ:=hid (HBQ.o.ext hE))
      have HX:=hid (HX.o.trans hE);clear hE;refine rgK hK (HSK.o _ HX.o) (fun hS=>vQ hT ?_)))
  |(refine fun(hT:Tag 8 _)=>?_;(
      go_simp;obtain⟨wQ,aQ,hA1,hsz,hE,hge,hob,hss⟩:=K7 HX.o;refine Eq.mpr (congrArg (K _) hA1) ?_
      (first|rw[hsz]|(have hq:W0.heap.size=aQ:=hsz;rw[hq];clear hq)|skip)
      have HBQ:=hid hob;have HGQ:=hid hge;have HSQ:=hid (And.intro hsz hss);clear hA1 hsz hge hob hss
      (try have HVA:=hid (HVA.o.ext hE))
      (try have HVB:=hid (HVB.o.ext hE))
      (try have HBP:=hid (HBP.o.ext hE))
      have HX:=hid (HX.o.trans hE);clear hE;refine rgK hK (HSK.o _ HX.o) (fun hS=>vQ hT ?_)))
  |(refine fun(_:Tag 0 1)=>?_;clear hK K;refine wpAnyH_ready (rs:=[7,8,9]) (by kernel_rfl) (by simp) ?_;refine(AllReadyH.consL rfl (fun K hK=>tag 2 1 ?_) (AllReadyH.consL rfl (fun K hK=>tag 4 1 ?_) (AllReadyH.consL rfl (fun K hK=>tag 8 1 ?_) AllReadyH.nil))))
  |(refine fun(_:Tag 0 3)=>?_;clear hK K;refine wpAnyH_ready (rs:=[8,9]) (by kernel_rfl) (by simp) ?_;refine(AllReadyH.consL rfl (fun K hK=>tag 4 3 ?_) (AllReadyH.consL rfl (fun K hK=>tag 8 3 ?_) AllReadyH.nil)))
  |(refine fun(_:Tag 0 4)=>?_;clear hK K;refine wpAnyH_ready (rs:=[3,9]) (by kernel_rfl) (by simp) ?_;refine(AllReadyH.consL rfl (fun K hK=>tag 1 4 ?_) (AllReadyH.consL rfl (fun K hK=>tag 8 4 ?_) AllReadyH.nil)))
  |(refine fun(_:Tag 0 8)=>?_;clear hK K;refine wpAnyH_ready (rs:=[3,8]) (by kernel_rfl) (by simp) ?_;refine(AllReadyH.consL rfl (fun K hK=>tag 1 8 ?_) (AllReadyH.consL rfl (fun K hK=>tag 4 8 ?_) AllReadyH.nil)))
  |(refine fun(_:Tag 0 5)=>?_;clear hK K;refine wpAnyH_ready (rs:=[7,9]) (by kernel_rfl) (by simp) ?_;refine(AllReadyH.consL rfl (fun K hK=>tag 2 5 ?_) (AllReadyH.consL rfl (fun K hK=>tag 8 5 ?_) AllReadyH.nil)))
  |(refine fun(_:Tag 0 9)=>?_;clear hK K;refine wpAnyH_ready (rs:=[7,8]) (by kernel_rfl) (by simp) ?_;refine(AllReadyH.consL rfl (fun K hK=>tag 2 9 ?_) (AllReadyH.consL rfl (fun K hK=>tag 4 9 ?_) AllReadyH.nil)))
  |(refine fun(_:Tag 0 12)=>?_;clear hK K;refine wpAnyH_ready (rs:=[3]) (by kernel_rfl) (by simp) ?_;refine(AllReadyH.consL rfl (fun K hK=>tag 1 12 ?_) AllReadyH.nil))
  |(refine fun(_:Tag 0 7)=>?_;clear hK K;refine wpAnyH_ready (rs:=[9]) (by kernel_rfl) (by simp) ?_;refine(AllReadyH.consL rfl (fun K hK=>tag 8 7 ?_) AllReadyH.nil))
  |(refine fun(_:Tag 0 11)=>?_;clear hK K;refine wpAnyH_ready (rs:=[8]) (by kernel_rfl) (by simp) ?_;refine(AllReadyH.consL rfl (fun K hK=>tag 4 11 ?_) AllReadyH.nil))
  |(refine fun(_:Tag 0 13)=>?_;clear hK K;refine wpAnyH_ready (rs:=[7]) (by kernel_rfl) (by simp) ?_;refine(AllReadyH.consL rfl (fun K hK=>tag 2 13 ?_) AllReadyH.nil))
  |(refine fun(_:Tag 0 15)=>?_;clear hK K;refine wpAnyH_done (by kernel_rfl) (tag 16 0 ?_) _)
  |(refine fun(hT:Tag 16 _)=>?_;(
      change wpList _ _ _ _ _ _;obtain⟨W3,W4,hW34⟩:=G5 HX.o HGP.o HGQ.o (by have:=HSA.o;have:=HSB.o;have:=HSP.o;have:=HSQ.o;omega) HBP.o HBQ.o HVA.o HVB.o (fun b hb=>by have hb':=hb;have:=HSA.o;have:=HSB.o;have:=HSP.o;have:=HSQ.o;omega) (fun b hb=>by have hb':=hb;have:=HSA.o;have:=HSB.o;have:=HSP.o;have:=HSQ.o;omega);have HW34:=hid hW34;obtain⟨z0,z1,z2,z3,z4,zf⟩:=HBP.o;have f0:=zf 0;have f1:=zf 1;have f2:=zf 2;have f3:=zf 3;have f4:=zf 4;obtain⟨y0,y1,y2,y3,y4,yf⟩:=HBQ.o;have j0:=yf 0;have j1:=yf 1;have j2:=yf 2;have j3:=yf 3;have j4:=yf 4;have hne:aP≠aQ:=by have:=HSA.o;have:=HSB.o;have:=HSP.o;have:=HSQ.o;omega
      have hne2:aQ≠aP:=fun e=>hne e.symm;clear zf yf hW34 HVA HVB HBP HBQ
      go_wp2
      rw[HW34.o.1,HW34.o.2.1];go_meet;exact⟨aP,aQ,rfl,rfl,hid HW34.o.2.2.1,hid HW34.o.2.2.2.1,hid HW34.o.2.2.2.2⟩)))
end Go.Proofs.YtlmipgdnlfjpaaaGreat
