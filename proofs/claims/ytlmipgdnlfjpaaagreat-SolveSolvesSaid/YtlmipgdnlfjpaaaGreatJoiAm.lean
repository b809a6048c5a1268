/- Lemmas of mine, merged. -/
import Derived.Test.YtlmipgdnlfjpaaaGreatTyfm
import Derived.Test.YtlmipgdnlfjpaaaGreatPlam
import Derived.Test.YtlmipgdnlfjpaaaGreatSptm
set_option maxRecDepth 100000
set_option maxHeartbeats 4000000
set_option linter.unusedSimpArgs false
set_option linter.unusedVariables false
namespace Go.Proofs.YtlmipgdnlfjpaaaGreat
open Go.RowKit Go.Deco
def Z9 (w:World)(b:Nat)(v0 v1 v2 v3 v4 v5:Value):Prop:=
 w.cell? ⟨b,0,none⟩=some v0/\w.cell? ⟨b,1,none⟩=some v1/\w.cell? ⟨b,2,none⟩=some v2/\w.cell? ⟨b,3,none⟩=some v3/\w.cell? ⟨b,4,none⟩=some v4/\w.cell? ⟨b,5,none⟩=some v5/\∀i,w.frozen? ⟨b,i,none⟩=false
theorem Z9.lt {w:World}{b:Nat}{v0 v1 v2 v3 v4 v5:Value}(h:Z9 w b v0 v1 v2 v3 v4 v5):b<w.heap.size:=World.block_lt_of_cell? _ _ h.1
theorem Z9.ext {w w':World}{b:Nat}{v0 v1 v2 v3 v4 v5:Value}(h:Z9 w b v0 v1 v2 v3 v4 v5)(he:Ext w w'):Z9 w' b v0 v1 v2 v3 v4 v5:=
 ⟨he.cell h.1,he.cell h.2.1,he.cell h.2.2.1,he.cell h.2.2.2.1,he.cell h.2.2.2.2.1,he.cell h.2.2.2.2.2.1,fun i=>(he.frozen (p:=⟨b,i,none⟩) h.lt).trans (h.2.2.2.2.2.2 i)⟩
theorem Z9.new (w:World)(v0 v1 v2 v3 v4 v5:Value)(t:TypeId):Z9 (w.alloc (.cells #[v0,v1,v2,v3,v4,v5] t)) w.heap.size v0 v1 v2 v3 v4 v5:=⟨by simp[go_sem],by simp[go_sem],by simp[go_sem],by simp[go_sem],by simp[go_sem],by simp[go_sem],fun i=>by simp[go_sem]⟩
def Y0 (a b:Int):Int:=if a<b then -1 else if b<a then 1 else 0
def gj (w:World)(z:Int)(e:Ending)(w':World):Prop:=e= .returned (.int .i64 z)/\Ext w w'
theorem pC (w:World)(a:Int):Calls Tryz.prog 128 #[.int .i64 a] w fun e w'=>e= .returned (.bool false)/\w=w':=by
 have h:(a != a)=false:=by simp
 go_enter Tryz.func128,Tryz.ntmps128
 go_wp2
 go_ret;exact⟨rfl,rfl⟩
theorem iz (w:World)(a b:Int):Calls Tryz.prog 114 #[.int .i64 a,.int .i64 b] w (fun e w'=>e= .returned (.int .i64 (Y0 a b))/\w=w'):=by
 obtain⟨z,hz⟩:=Qg (Y0 a b);rw[hz];unfold Y0 at hz;by_cases h1:a<b
 ·obtain rfl:z= -1:=by rw[<-hz,if_pos h1]
  clear hz;go_enter Tryz.func114,Tryz.ntmps114
  go_wp2_with (go_at_call 128;refine(pC _ _).mono ?_;rintro e w' ⟨rfl,rfl⟩)
  go_ret;exact⟨rfl,rfl⟩
 ·by_cases h2:b<a
  ·obtain rfl:z=1:=by rw[<-hz,if_neg h1,if_pos h2]
   clear hz;go_enter Tryz.func114,Tryz.ntmps114
   go_wp2_with (go_at_call 128;refine(pC _ _).mono ?_;rintro e w' ⟨rfl,rfl⟩)
   go_ret;exact⟨rfl,rfl⟩
  ·obtain rfl:z=0:=by rw[<-hz,if_neg h1,if_neg h2]
   clear hz;go_enter Tryz.func114,Tryz.ntmps114
   go_wp2_with (go_at_call 128;refine(pC _ _).mono ?_;rintro e w' ⟨rfl,rfl⟩)
   go_ret;exact⟨rfl,rfl⟩
theorem tD:∀args w,(callFunc 97 args).run Tryz.prog w= .ok (.enter 97 args) w:=fun args w=>Y6 Tryz.func97 (by kernel_rfl) rfl args w
theorem fP:∀args w,(callFunc 98 args).run Tryz.prog w= .ok (.enter 98 args) w:=fun args w=>Y6 Tryz.func98 (by kernel_rfl) rfl args w
theorem oQ:∀args w,(callFunc 113 args).run Tryz.prog w= .ok (.enter 113 args) w:=fun args w=>Y6 Tryz.func113 (by kernel_rfl) rfl args w
theorem od (w:World)(o k s c o' k' s' c':Int)(A B A' B':Option Addr)(n1 c1 m1 e1 n2 c2 m2 e2:Nat):
  Calls Tryz.prog 97 #[.agg #[.int .i64 o,.int .i64 k,.int .i64 s,.int .i64 c,.slice A n1 c1,.slice B m1 e1],.agg #[.int .i64 o',.int .i64 k',.int .i64 s',.int .i64 c',.slice A' n2 c2,.slice B' m2 e2]] w (gj w (Y0 o o')):=by
 obtain⟨z,hz⟩:=Qg (Y0 o o');have HP:=hid (fun w'=>iz w' o o');rw[hz]at HP ⊢;clear hz;unfold gj;go_enter Tryz.func97,Tryz.ntmps97
 go_wp2_with fail
 refine(HP.o _).mono ?_;rintro e w1 ⟨rfl,rfl⟩
 go_wp2
 go_ret;refine⟨rfl, ?_⟩
 repeat first|exact Ext.refl _|refine Ext.alloc ?_ _
def qY (d:Nat)(w:World)(S:Nat->Prop)(r:Ty)(e:Ending)(w':World):Prop:=∃v,e= .returned v/\TyV d w' (fun b=>S b\/w.heap.size<=b) v r/\Ext w w'
def nB (d:Nat)(w:World)(S:Nat->Prop)(f:Int×Ty)(e:Ending)(w':World):Prop:=∃v,e= .returned (.tuple #[v,.bool true])/\FdV d w' (fun b=>S b\/w.heap.size<=b) v f/\Ext w w'
theorem aV (w:World)(o k s c:Int)(A B:Option Addr)(n1 c1 m1 e1:Nat):
  Calls Tryz.prog 98 #[.agg #[.int .i64 o,.int .i64 k,.int .i64 s,.int .i64 c,.slice A n1 c1,.slice B m1 e1],.pointer none] w
   (fun e w'=>e= .returned (.tuple #[.agg #[.int .i64 o,.int .i64 k,.int .i64 s,.int .i64 c,.slice A n1 c1,.slice B m1 e1],.bool false])/\Ext w w'):=by
 obtain⟨W0,hW0⟩:=Qg ((w.alloc (.cells #[.int .i64 o,.int .i64 k,.int .i64 s,.int .i64 c,.slice A n1 c1,.slice B m1 e1] 59)).alloc (.cells #[.int .i64 0,.int .i64 0,.int .i64 0,.int .i64 0,.slice none 0 0,.slice none 0 0] 59));have HE0:Hid (Ext w W0):=hid (by rw[<-hW0];exact((Ext.refl w).alloc _).alloc _);have hB:Z9 W0 w.heap.size (.int .i64 o) (.int .i64 k) (.int .i64 s) (.int .i64 c) (.slice A n1 c1) (.slice B m1 e1):=by rw[<-hW0];exact(Z9.new w _ _ _ _ _ _ _).ext ((Ext.refl _).alloc _)
 have hR:Z9 W0 (w.heap.size+1) (.int .i64 0) (.int .i64 0) (.int .i64 0) (.int .i64 0) (.slice none 0 0) (.slice none 0 0):=by
  rw[<-hW0];have:=Z9.new (w.alloc (.cells #[.int .i64 o,.int .i64 k,.int .i64 s,.int .i64 c,.slice A n1 c1,.slice B m1 e1] 59)) (.int .i64 0) (.int .i64 0) (.int .i64 0) (.int .i64 0) (.slice none 0 0) (.slice none 0 0) 59
  rwa [show(w.alloc (.cells #[.int .i64 o,.int .i64 k,.int .i64 s,.int .i64 c,.slice A n1 c1,.slice B m1 e1] 59)).heap.size=w.heap.size+1 by simp]at this
 obtain⟨q0,q1,q2,q3,q4,q5,qf⟩:=hB;obtain⟨r0,r1,r2,r3,r4,r5,rf⟩:=hR;have u0:=rf 0;have u1:=rf 1;have u2:=rf 2;have u3:=rf 3;have u4:=rf 4;have u5:=rf 5;have hc:=jv r0 r1 r2 r3 r4 r5 (.int .i64 o) (.int .i64 k) (.int .i64 s) (.int .i64 c) (.slice A n1 c1) (.slice B m1 e1);have hx:=xv HE0.o (b:=w.heap.size+1) (by omega) (.int .i64 o) (.int .i64 k) (.int .i64 s) (.int .i64 c) (.slice A n1 c1) (.slice B m1 e1);obtain⟨W3,hW3⟩:=Qg ((((((W0.setCell ⟨w.heap.size+1,0,none⟩ (.int .i64 o)).setCell ⟨w.heap.size+1,1,none⟩ (.int .i64 k)).setCell ⟨w.heap.size+1,2,none⟩ (.int .i64 s)).setCell ⟨w.heap.size+1,3,none⟩ (.int .i64 c)).setCell ⟨w.heap.size+1,4,none⟩ (.slice A n1 c1)).setCell ⟨w.heap.size+1,5,none⟩ (.slice B m1 e1));rw[hW3]at hc hx;obtain⟨t0,t1,t2,t3,t4,t5⟩:=hc;have HX3:=hid hx;have HW3:=hid hW3;clear hx hW3 qf rf;go_enter Tryz.func98,Tryz.ntmps98
 go_wp2
 rw[HW3.o];clear hW0 r0 r1 r2 r3 r4 r5;refine bodyPost_ret (v:= .tuple #[.agg #[.int .i64 o,.int .i64 k,.int .i64 s,.int .i64 c,.slice A n1 c1,.slice B m1 e1],.bool false]) (by simp[results,Tryz.results98,go_sem,t0,t1,t2,t3,t4,t5]) rfl ?_;exact⟨rfl,HX3.o⟩
theorem aJ (d:Nat)(w:World)(S:Nat->Prop)(o k s c o' k' s' c':Int)(A B A' B':Option Addr)(n1 c1 m1 e1 n2 c2 m2 e2 g q:Nat)(r:Ty)(ho:Qy o)(hS:∀b,S b->b<w.heap.size)
  (y1:w.cell? ⟨g,q+1,none⟩=some (.int .i64 k')) (y2:w.cell? ⟨g,q+2,none⟩=some (.int .i64 s')) (y3:w.cell? ⟨g,q+3,none⟩=some (.int .i64 c')) (y4:w.cell? ⟨g,q+4,none⟩=some (.slice A' n2 c2)) (y5:w.cell? ⟨g,q+5,none⟩=some (.slice B' m2 e2))
  (hj:∀w',Ext w w'->Calls Tryz.prog 71 #[.agg #[.int .i64 k,.int .i64 s,.int .i64 c,.slice A n1 c1,.slice B m1 e1],.agg #[.int .i64 k',.int .i64 s',.int .i64 c',.slice A' n2 c2,.slice B' m2 e2]] w' (qY d w' S r)):
  Calls Tryz.prog 98 #[.agg #[.int .i64 o,.int .i64 k,.int .i64 s,.int .i64 c,.slice A n1 c1,.slice B m1 e1],.pointer (some ⟨g,q,none⟩)] w (nB d w S (o,r)):=by
 obtain⟨W0,hW0⟩:=Qg ((w.alloc (.cells #[.int .i64 o,.int .i64 k,.int .i64 s,.int .i64 c,.slice A n1 c1,.slice B m1 e1] 59)).alloc (.cells #[.int .i64 0,.int .i64 0,.int .i64 0,.int .i64 0,.slice none 0 0,.slice none 0 0] 59));have HE0:Hid (Ext w W0):=hid (by rw[<-hW0];exact((Ext.refl w).alloc _).alloc _);have hB:Z9 W0 w.heap.size (.int .i64 o) (.int .i64 k) (.int .i64 s) (.int .i64 c) (.slice A n1 c1) (.slice B m1 e1):=by rw[<-hW0];exact(Z9.new w _ _ _ _ _ _ _).ext ((Ext.refl _).alloc _)
 have hR:Z9 W0 (w.heap.size+1) (.int .i64 0) (.int .i64 0) (.int .i64 0) (.int .i64 0) (.slice none 0 0) (.slice none 0 0):=by
  rw[<-hW0];have:=Z9.new (w.alloc (.cells #[.int .i64 o,.int .i64 k,.int .i64 s,.int .i64 c,.slice A n1 c1,.slice B m1 e1] 59)) (.int .i64 0) (.int .i64 0) (.int .i64 0) (.int .i64 0) (.slice none 0 0) (.slice none 0 0) 59
  rwa [show(w.alloc (.cells #[.int .i64 o,.int .i64 k,.int .i64 s,.int .i64 c,.slice A n1 c1,.slice B m1 e1] 59)).heap.size=w.heap.size+1 by simp]at this
 have HNQ:Hid (w.heap.size≠w.heap.size+1):=hid (by omega);have HNG:Hid (g≠w.heap.size+1):=hid (by have:=World.block_lt_of_cell? _ _ y1;have h:g<w.heap.size:=this;omega);have y1:=HE0.o.c y1;have y2:=HE0.o.c y2;have y3:=HE0.o.c y3;have y4:=HE0.o.c y4;have y5:=HE0.o.c y5;have HJ:=hid (fun w' (hw:Ext W0 w')=>hj w' (HE0.o.trans hw));have HR:=hid hR;have HO:=hid ho;have HS:=hid hS;obtain⟨q0,q1,q2,q3,q4,q5,qf⟩:=hB;clear hR hj qf ho hS;go_enter Tryz.func98,Tryz.ntmps98
 go_wp2_with fail
 refine rgH (Ext.hc11 q0 q1 q2 q3 q4 q5 y1 y2 y3 y4 y5) (Ext.refl _).drew (fun hSg1q0=>?_);refine Qp 0 1 2 3 4 5 ?_;refine QJ 6 7 ?_;refine rgC 8 (fun K hK=>?_);go_simp;go_at_call 71;refine(HJ.o _ (Ext.refl W0).drew).mono ?_;rintro e w5 ⟨_,rfl,⟨A5,n5,c5,B5,m5,e5,rfl,hv5⟩,hx5⟩;have HX5:=hid hx5.drew_left;have HV5:=hid hv5;clear hx5 hv5;refine rgK hK ⟨HX5.o.c q0,HX5.o.c q1,HX5.o.c q2,HX5.o.c q3,HX5.o.c q4,HX5.o.c q5,HX5.o.c y1,HX5.o.c y2,HX5.o.c y3,HX5.o.c y4,HX5.o.c y5⟩ (fun hSg1q1=>?_);clear hK K;refine rgT 9 ?_;refine rgC 10 (fun K hK=>?_);obtain⟨r0,r1,r2,r3,r4,r5,rf⟩:=HR.o.ext HX5.o;have u0:=rf 0;have u1:=rf 1;have u2:=rf 2;have u3:=rf 3;have u4:=rf 4;have u5:=rf 5;have hc:=jv r0 r1 r2 r3 r4 r5 (.int .i64 o) (.int .i64 r.kind) (.int .i64 r.size) (.int .i64 r.count) (.slice A5 n5 c5) (.slice B5 m5 e5);have hx:=xv (HE0.o.trans HX5.o) (b:=w.heap.size+1) (by omega) (.int .i64 o) (.int .i64 r.kind) (.int .i64 r.size) (.int .i64 r.count) (.slice A5 n5 c5) (.slice B5 m5 e5);have hh:=fun {z:Nat} (hk:z≠w.heap.size+1)=>mF w5 (w.heap.size+1) (.int .i64 o) (.int .i64 r.kind) (.int .i64 r.size) (.int .i64 r.count) (.slice A5 n5 c5) (.slice B5 m5 e5) hk;obtain⟨W3,hW3⟩:=Qg ((((((w5.setCell ⟨w.heap.size+1,0,none⟩ (.int .i64 o)).setCell ⟨w.heap.size+1,1,none⟩ (.int .i64 r.kind)).setCell ⟨w.heap.size+1,2,none⟩ (.int .i64 r.size)).setCell ⟨w.heap.size+1,3,none⟩ (.int .i64 r.count)).setCell ⟨w.heap.size+1,4,none⟩ (.slice A5 n5 c5)).setCell ⟨w.heap.size+1,5,none⟩ (.slice B5 m5 e5));rw[hW3]at hc hx;have HH:Hid (∀z,z≠w.heap.size+1->W3.heap[z]? =w5.heap[z]?):=hid (fun z hk=>by rw[<-hW3];exact hh hk);obtain⟨t0,t1,t2,t3,t4,t5⟩:=hc;have HX3:=hid hx;have HW3:=hid hW3;clear hx hW3 rf hh;have HK:Hid (∀(z i:Nat) (u:Value),z≠w.heap.size+1->w5.cell? ⟨z,i,none⟩=some u->W3.cell? ⟨z,i,none⟩=some u):=hid (fun z i u hz hu=>(World.cell?_of_block (HH.o z hz)).trans hu);go_simp;rw[HW3.o];refine rgK hK ⟨HK.o _ _ _ HNQ.o (HX5.o.c q0),HK.o _ _ _ HNQ.o (HX5.o.c q1),HK.o _ _ _ HNQ.o (HX5.o.c q2),HK.o _ _ _ HNQ.o (HX5.o.c q3),HK.o _ _ _ HNQ.o (HX5.o.c q4),HK.o _ _ _ HNQ.o (HX5.o.c q5),HK.o _ _ _ HNG.o (HX5.o.c y1),HK.o _ _ _ HNG.o (HX5.o.c y2),HK.o _ _ _ HNG.o (HX5.o.c y3),HK.o _ _ _ HNG.o (HX5.o.c y4),HK.o _ _ _ HNG.o (HX5.o.c y5)⟩ (fun hSg1q2=>?_);clear hK K;refine rgT 11 ?_;refine wpAnyH_done (by kernel_rfl) ?_ _
 go_wp2
 clear hW0 r0 r1 r2 r3 r4 r5;refine bodyPost_ret (v:= .tuple #[.agg #[.int .i64 o,.int .i64 r.kind,.int .i64 r.size,.int .i64 r.count,.slice A5 n5 c5,.slice B5 m5 e5],.bool true]) (by simp[results,Tryz.results98,go_sem,t0,t1,t2,t3,t4,t5]) rfl ?_;refine⟨_,rfl,⟨A5,n5,c5,B5,m5,e5,rfl,HO.o, ?_⟩,HX3.o⟩;refine(TyV.keep (fun b hb _=>HH.o b ?_) ⟨A5,n5,c5,B5,m5,e5,rfl,HV5.o⟩).mono fun b hb _=>?_
 ·rcases hb with hb|hb
  ·have:=HS.o b hb;omega
  ·have hb':W0.heap.size<=b:=hb;have:=HR.o.lt;omega
 ·rcases hb with hb|hb
  ·exact .inl hb
  ·exact .inr (Nat.le_trans HE0.o.size hb)
end Go.Proofs.YtlmipgdnlfjpaaaGreat
