/- Merged by program from texts of my own. -/
import Derived.Test.YtlmipgdnlfjpaaaGreatJbdm
namespace Go.Proofs.YtlmipgdnlfjpaaaGreat
open Go.RowKit Go.Deco
set_option linter.unusedSimpArgs false
set_option linter.unusedVariables false
theorem call_sub1:∀args w,(callFunc 90 args).run Tryz.prog w= .ok (.enter 90 args) w:=fun args w=>callFunc_enter Tryz.func90 (by kernel_rfl) rfl args w
def SubOk (d:Nat):Prop:=∀(w:World) (a b:Ty) (va vb:Value),TyV d w All va a→TyV d w All vb b→FW a→FW b→Calls Tryz.prog 66 #[va,vb] w (TBool w (subT a b))
theorem subT_eq {k s c k' s' c':Int}{e e':List Ty}{f f':List (Int×Ty)}:subT (.mk k s c e f) (.mk k' s' c' e' f')=if k=0∨k'=6 then true else if k≠k' then false
  else if k=1∨k=2 then decide (s=s')
  else if k=3 then subE e e'
  else if k=4 then decide (c'≤c) && subE e e'
  else f'.all fun g=>subF f g.1 g.2:=by rw[subT];rfl
def subX (o:Int)(u:Ty)(x:Int×Ty):Bool:=decide (x.1=o) && subT x.2 u
set_option maxRecDepth 100000 in
set_option maxHeartbeats 2000000 in
theorem sub1_any (d:Nat)(hS:SubOk d)(w:World)(x:Int×Ty)(vx:Value)(hx:FdV d w All vx x)(hfx:FW x.2)(o:Int)(u:Ty)(A B:Option Addr)(n c m e g:Nat)(hb:Box6 w g (.int .i64 o) (.int .i64 u.kind) (.int .i64 u.size) (.int .i64 u.count) (.slice A n c) (.slice B m e))
  (hu:TyV d w All (.agg #[.int .i64 u.kind,.int .i64 u.size,.int .i64 u.count,.slice A n c,.slice B m e]) u) (hfu:FW u):
  Calls Tryz.prog 90 #[vx,.pointer (some ⟨g,0,none⟩)] w (TBool w (subX o u x)):=by
 obtain⟨A1,n1,c1,B1,m1,e1,rfl,hi,hv1⟩:=hx;obtain⟨W0,hW0⟩:∃W0,w.alloc (.cells #[.int .i64 x.1,.int .i64 x.2.kind,.int .i64 x.2.size,.int .i64 x.2.count,.slice A1 n1 c1,.slice B1 m1 e1] 59)=W0:=⟨_,rfl⟩;have hE0:Ext w W0:=by rw[←hW0];exact(Ext.refl w).alloc _
 have hP:Box6 W0 w.heap.size (.int .i64 x.1) (.int .i64 x.2.kind) (.int .i64 x.2.size) (.int .i64 x.2.count) (.slice A1 n1 c1) (.slice B1 m1 e1):=by rw[←hW0];exact Box6.new w _ _ _ _ _ _ _
 obtain⟨p0,p1,p2,p3,p4,p5, -⟩:=hP;obtain⟨q0,q1,q2,q3,q4,q5, -⟩:=hb.ext hE0;have HE0:=hid hE0;have HC:=hid (hS W0 x.2 u _ _ (hv1.ext hE0) (hu.ext hE0) hfx hfu);obtain⟨z,hz⟩:∃z,subX o u x=z:=⟨_,rfl⟩;obtain⟨y,hy⟩:∃y,subT x.2 u=y:=⟨_,rfl⟩;rw[hz];rw[hy]at HC;unfold subX at hz;rw[hy]at hz;have HZ:=hid hz;clear hi hv1 hu hfx hfu hb hE0 hz hy hS;by_cases h1:x.1=o
 case neg=>
  have g1:(x.1 == o)=false:=by simp[h1]
  obtain rfl:z=false:=by rw[←HZ.out,decide_eq_false h1];rfl
  clear h1;go_enter Tryz.func90,Tryz.ntmps90
  go_wp2
  go_ret;exact⟨rfl,HE0.out⟩
 have g1:(x.1 == o)=true:=by simp[h1]
 obtain rfl:z=y:=by rw[←HZ.out,decide_eq_true h1];rfl
 clear h1;go_enter Tryz.func90,Tryz.ntmps90
 go_wp2_with fail
 refine HC.out.mono ?_;rintro e w1 ⟨rfl,hx1⟩;have HX1:=hid hx1;clear hx1
 go_wp2
 go_ret;exact⟨rfl,HE0.out.trans HX1.out⟩
def FoundX (w:World)(b:Bool)(e:Ending)(w':World):Prop:=∃r:Int,e= .returned (.int .i64 r)∧decide (r≥0)=b∧Ext w w'
set_option maxRecDepth 100000 in
set_option maxHeartbeats 2000000 in
theorem indexX_any (d:Nat)(w:World)(AL:Option Addr)(nl cl:Nat)(l:List (Int×Ty))(hl:Sl (fdR (tyR (d+1))) w All (.slice AL nl cl) l)(hfl:∀x∈l,FW x.2∧SubOk d)(o:Int)(u:Ty)(A B:Option Addr)(n c m e g:Nat)
  (hb:Box6 w g (.int .i64 o) (.int .i64 u.kind) (.int .i64 u.size) (.int .i64 u.count) (.slice A n c) (.slice B m e))
  (hu:TyV d w All (.agg #[.int .i64 u.kind,.int .i64 u.size,.int .i64 u.count,.slice A n c,.slice B m e]) u) (hfu:FW u):
  Calls Tryz.prog 111 #[.slice AL nl cl,.func (.func 90) #[] #[.pointer (some ⟨g,0,none⟩)]] w (FoundX w (l.any (subX o u))):=by
 have hln:=hl.len;obtain⟨hnc,hcm⟩:=hl.cap;have hen:=call_sub1;obtain⟨z,hz⟩:∃z,l.any (subX o u)=z:=⟨_,rfl⟩;rw[hz];have HZ:=hid hz;have HS:=hid hl;have HL:=hid hln;have HB:=hid hb;have HU:=hid hu;have HFU:=hid hfu;have HFL:=hid hfl;clear hz hl hln hb hu hfu hfl;unfold FoundX;go_enter Tryz.func111,Tryz.ntmps111
 go_wp2
 go_loopw [8] (fun i wr=>∃k:Nat,k≤nl∧i= .int .i64 k∧Hid (Ext w wr)∧Hid ((l.take k).any (subX o u)=false)) (fun i _=>nl - (intOf i).toNat)
 case atStart=>exact⟨0,by omega,rfl,hid (Ext.refl w),hid (by simp)⟩
 case round=>
  obtain⟨k,hk,rfl,HX,HA⟩:=hrel;by_cases h1:k<nl
  ·obtain⟨x,hx⟩:∃x,l[k]? =some x:=⟨_,List.getElem?_eq_getElem (by have:=HL.out;omega)⟩;obtain⟨d',b,off,A1,n1,c1,B1,m1,e1,hd,rfl,hv1,hi1,x0,x1,x2,x3,x4,x5⟩:=(HS.out.ext HX.out).fd_at hx;obtain rfl:d=d':=by omega
   have hfx:=HFL.out x (List.mem_of_getElem? hx);have HC:=hid (sub1_any d hfx.2 wr x _ ⟨A1,n1,c1,B1,m1,e1,rfl,hi1,hv1⟩ hfx.1 o u A B n c m e g (HB.out.ext HX.out) (HU.out.ext HX.out) HFU.out);obtain⟨r,hr⟩:∃r,subX o u x=r:=⟨_,rfl⟩;rw[hr]at HC;have HXX:=hid hx;have HR:Hid (subX o u x=r):=hid hr;clear hd hv1 hi1 hx hr hfx
   go_wp2_with fail
   refine(HC.out).mono ?_;rintro e w1 ⟨rfl,hx1⟩;have HX1:=hid (HX.out.trans hx1);clear hx1 x0 x1 x2 x3 x4 x5
   cases r with
   |true=>
    go_wp2
    go_ret;refine⟨_,rfl, ?_,HX1.out⟩;rw[←HZ.out,List.any_eq_true.2 ⟨x,List.mem_of_getElem? HXX.out,HR.out⟩];exact decide_eq_true (by omega)
   | false=>
    go_wp2
    first
     |go_roundw
     |refine⟨?rel, ?measure⟩
    case rel=>exact⟨k+1,by omega,by go_num,HX1,hid (by rw[take_snoc' HXX.out,List.any_append,HA.out];simp[HR.out])⟩
    case measure=>simp [intOf];omega
  ·obtain rfl:k=nl:=by omega
   have ha:=HA.out;rw[List.take_of_length_le (by have:=HL.out;omega)]at ha;have HA2:=hid ha;clear ha
   go_wp2
   go_ret;refine⟨_,rfl, ?_,HX.out⟩;rw[←HZ.out,HA2.out];rfl
set_option maxRecDepth 100000 in
set_option maxHeartbeats 2000000 in
theorem containsX_any (d:Nat)(w:World)(AL:Option Addr)(nl cl:Nat)(l:List (Int×Ty))(hl:Sl (fdR (tyR (d+1))) w All (.slice AL nl cl) l)(hfl:∀x∈l,FW x.2∧SubOk d)(o:Int)(u:Ty)(A B:Option Addr)(n c m e g:Nat)
  (hb:Box6 w g (.int .i64 o) (.int .i64 u.kind) (.int .i64 u.size) (.int .i64 u.count) (.slice A n c) (.slice B m e))
  (hu:TyV d w All (.agg #[.int .i64 u.kind,.int .i64 u.size,.int .i64 u.count,.slice A n c,.slice B m e]) u) (hfu:FW u):
  Calls Tryz.prog 89 #[.slice AL nl cl,.func (.func 90) #[] #[.pointer (some ⟨g,0,none⟩)]] w (TBool w (l.any (subX o u))):=by
 have HC:=hid (indexX_any d w AL nl cl l hl hfl o u A B n c m e g hb hu hfu);obtain⟨z,hz⟩:∃z,l.any (subX o u)=z:=⟨_,rfl⟩;rw[hz]at HC ⊢;clear hl hz hfl hb hu hfu;go_enter Tryz.func89,Tryz.ntmps89
 go_wp2_with fail
 refine(HC.out).mono ?_;rintro e w1 ⟨r,rfl,hr,hx1⟩;have HX1:=hid hx1;clear hx1
 go_wp2
 go_ret;exact⟨rfl,HX1.out⟩
theorem any_sub {l:List (Int×Ty)}{o:Int}{u:Ty}(h:AscF l):l.any (subX o u)=subF l o u:=anyF_sub h
end Go.Proofs.YtlmipgdnlfjpaaaGreat
namespace Go.Proofs.YtlmipgdnlfjpaaaGreat
open Go.RowKit Go.Deco
set_option linter.unusedSimpArgs false
set_option linter.unusedVariables false
theorem box6_set {w:World}{b:Nat}{o0 o1 o2 o3 o4 o5:Value}(h:Box6 w b o0 o1 o2 o3 o4 o5)(v0 v1 v2 v3 v4 v5:Value):
  ∃W3,(((((w.setCell ⟨b,0,none⟩ v0).setCell ⟨b,1,none⟩ v1).setCell ⟨b,2,none⟩ v2).setCell ⟨b,3,none⟩ v3).setCell ⟨b,4,none⟩ v4).setCell ⟨b,5,none⟩ v5=W3∧Box6 W3 b v0 v1 v2 v3 v4 v5∧(∀k,k≠b→W3.heap[k]? =w.heap[k]?)∧W3.heap.size=w.heap.size∧∀a,Ext a w→a.heap.size≤b→Ext a W3:=by
 obtain⟨h0,h1,h2,h3,h4,h5,hf⟩:=h;refine⟨_,rfl, ?_,fun k hk=>set6_heap w b v0 v1 v2 v3 v4 v5 hk,by simp,fun a ha hb=>set6_ext ha hb v0 v1 v2 v3 v4 v5⟩;obtain⟨t0,t1,t2,t3,t4,t5⟩:=set6_cells h0 h1 h2 h3 h4 h5 v0 v1 v2 v3 v4 v5;exact⟨t0,t1,t2,t3,t4,t5,fun i=>by simp only[World.frozen?_setCell];exact hf i⟩
set_option maxRecDepth 100000 in
set_option maxHeartbeats 8000000 in
theorem sub_all:∀d,SubOk d:=by
 intro d
 induction d using Nat.strongRecOn with
 | _ d ih=>
  intro w a b va vb ha hb fa fb;obtain⟨A1,n1,c1,B1,m1,e1,rfl,hE1,hF1, -⟩:=ha;obtain⟨A2,n2,c2,B2,m2,e2,rfl,hE2,hF2, -⟩:=hb;obtain⟨z,hz⟩:∃z,subT a b=z:=⟨_,rfl⟩;rw[hz];have HFA:=hid fa;have HFB:=hid fb;obtain⟨k,s,c,e,f⟩:=a;obtain⟨k',s',c',e',f'⟩:=b;rw[subT_eq]at hz;simp only[Ty.kind,Ty.size,Ty.count,Ty.elem,Ty.fields]at hE1 hF1 hE2 hF2 hz ⊢;have HZ:=hid hz;obtain⟨W0,hW0⟩:∃W0,(w.alloc (.cells #[.int .i64 k,.int .i64 s,.int .i64 c,.slice A1 n1 c1,.slice B1 m1 e1] 42)).alloc (.cells #[.int .i64 k',.int .i64 s',.int .i64 c',.slice A2 n2 c2,.slice B2 m2 e2] 42)=W0:=⟨_,rfl⟩;have hE0:Ext w W0:=by rw[←hW0];exact((Ext.refl w).alloc _).alloc _
  have hP:Box5 W0 w.heap.size (.int .i64 k) (.int .i64 s) (.int .i64 c) (.slice A1 n1 c1) (.slice B1 m1 e1):=by
   rw[←hW0];exact(Box5.new w _ _ _ _ _ _).ext ((Ext.refl _).alloc _)
  have hQ:Box5 W0 (w.heap.size+1) (.int .i64 k') (.int .i64 s') (.int .i64 c') (.slice A2 n2 c2) (.slice B2 m2 e2):=by
   rw[←hW0];have:=Box5.new (w.alloc (.cells #[.int .i64 k,.int .i64 s,.int .i64 c,.slice A1 n1 c1,.slice B1 m1 e1] 42)) (.int .i64 k') (.int .i64 s') (.int .i64 c') (.slice A2 n2 c2) (.slice B2 m2 e2) 42
   rwa [show(w.alloc (.cells #[.int .i64 k,.int .i64 s,.int .i64 c,.slice A1 n1 c1,.slice B1 m1 e1] 42)).heap.size=w.heap.size+1 by simp]at this
  have HE0:=hid hE0;have HPB:=hid hP;have HQB:=hid hQ;have HS1:=hid hE1;have HS2:=hid hE2;have HT1:=hid hF1;have HT2:=hid hF2;have HIH:=hid ih;clear hz hE0 hE1 hE2 hF1 hF2 ih fa fb;obtain⟨p0,p1,p2,p3,p4, -⟩:=hP;obtain⟨q0,q1,q2,q3,q4, -⟩:=hQ;by_cases h1:k=0
  ·have g1:(k == 0)=true:=by simp[h1]
   obtain rfl:z=true:=by rw[←HZ.out,if_pos (.inl h1)]
   clear h1;go_enter Tryz.func66,Tryz.ntmps66
   go_wp2
   go_ret;exact⟨rfl,HE0.out⟩
  have g1:(k == 0)=false:=by simp[h1]
  by_cases h2:k'=6
  ·have g2:(k' == 6)=true:=by simp[h2]
   obtain rfl:z=true:=by rw[←HZ.out,if_pos (.inr h2)]
   clear h1 h2;go_enter Tryz.func66,Tryz.ntmps66
   go_wp2
   go_ret;exact⟨rfl,HE0.out⟩
  have g2:(k' == 6)=false:=by simp[h2]
  by_cases h3:k=k'
  case neg=>
   have g3:(k != k')=true:=by simp[h3]
   obtain rfl:z=false:=by rw[←HZ.out,if_neg (by simp[h1,h2]),if_pos h3]
   clear h1 h2 h3;go_enter Tryz.func66,Tryz.ntmps66
   go_wp2
   go_ret;exact⟨rfl,HE0.out⟩
  subst h3;have g3:(k != k)=false:=by simp
  have HZ2:=hid HZ.out;rw[if_neg (show ¬(k=0∨k=6) by simp[h1,h2]),if_neg (show ¬k≠k by simp)]at HZ2;by_cases h4:k=1
  ·have g4:(k == 1)=true:=by simp[h4]
   obtain rfl:decide (s=s')=z:=by rw[←HZ2.out,if_pos (.inl h4)]
   clear h1 h2 h4;have HD:Hid ((s == s')=decide (s=s')):=hid rfl;go_enter Tryz.func66,Tryz.ntmps66
   go_wp2
   go_ret;exact⟨ret_bool HD.out,HE0.out⟩
  have g4:(k == 1)=false:=by simp[h4]
  by_cases h5:k=2
  ·have g5:(k == 2)=true:=by simp[h5]
   obtain rfl:decide (s=s')=z:=by rw[←HZ2.out,if_pos (.inr h5)]
   clear h1 h2 h4 h5;have HD:Hid ((s == s')=decide (s=s')):=hid rfl;go_enter Tryz.func66,Tryz.ntmps66
   go_wp2
   go_ret;exact⟨ret_bool HD.out,HE0.out⟩
  have g5:(k == 2)=false:=by simp[h5]
  rw[if_neg (show ¬(k=1∨k=2) by simp[h4,h5])]at HZ2;by_cases h6:k=3
  ·obtain⟨x,hx⟩:=(fw_parts HFA.out).2.2.2.2 (.inl h6);obtain⟨y,hy⟩:=(fw_parts HFB.out).2.2.2.2 (.inl h6);subst h6 hx hy;obtain⟨d1,b1,o1',P1,p1',c1',P2,p2',c2',hd,rfl,hv1,x0,x1,x2,x3,x4⟩:=HS1.out.ty_at (k:=0) rfl;obtain⟨d2,b2,o2',Q1,q1',f1',Q2,q2',f2',hd2,rfl,hv2,y0,y1,y2,y3,y4⟩:=HS2.out.ty_at (k:=0) rfl;obtain rfl:d1=d2:=by omega
   rw[Nat.zero_mul,Nat.add_zero]at x0 x1 x2 x3 x4 y0 y1 y2 y3 y4;have hn1:=HS1.out.len;have hn2:=HS2.out.len;simp only[List.length_singleton]at hn1 hn2;subst hn1 hn2;have fx:=(fw_parts HFA.out).1 x (List.mem_cons_self ..);have fy:=(fw_parts HFB.out).1 y (List.mem_cons_self ..);have HC1:=hid (fun w' (hw:Ext w w')=>HIH.out d1 (by omega) w' x y _ _ (hv1.ext hw) (hv2.ext hw) fx fy);obtain⟨t,ht⟩:∃t,subT x y=t:=⟨_,rfl⟩;rw[ht]at HC1;have HT:=hid ht;have x0:=HE0.out.cell x0;have x1:=HE0.out.cell x1;have x2:=HE0.out.cell x2;have x3:=HE0.out.cell x3;have x4:=HE0.out.cell x4;have y0:=HE0.out.cell y0;have y1:=HE0.out.cell y1;have y2:=HE0.out.cell y2;have y3:=HE0.out.cell y3;have y4:=HE0.out.cell y4;clear hv1 hv2 fx fy hd hd2 ht;obtain rfl:t=z:=by rw[←HZ2.out,←HT.out];simp[subE]
   clear h1 h2 h4 h5;go_enter Tryz.func66,Tryz.ntmps66;go_upto_region 11 with fail
   refine wp_region_held_drew (S:=(fun w'=>w'.cell? ⟨w.heap.size,3,none⟩=some (.slice (some ⟨b1,o1',none⟩) 1 c1)∧w'.cell? ⟨b1,o1',none⟩=some (.int .i64 x.kind)∧w'.cell? ⟨b1,o1'+1,none⟩=some (.int .i64 x.size)∧w'.cell? ⟨b1,o1'+2,none⟩=some (.int .i64 x.count)∧w'.cell? ⟨b1,o1'+3,none⟩=some (.slice P1 p1' c1')∧w'.cell? ⟨b1,o1'+4,none⟩=some (.slice P2 p2' c2')∧w'.cell? ⟨w.heap.size+1,3,none⟩=some (.slice (some ⟨b2,o2',none⟩) 1 c2)∧w'.cell? ⟨b2,o2',none⟩=some (.int .i64 y.kind)∧w'.cell? ⟨b2,o2'+1,none⟩=some (.int .i64 y.size)∧w'.cell? ⟨b2,o2'+2,none⟩=some (.int .i64 y.count)∧w'.cell? ⟨b2,o2'+3,none⟩=some (.slice Q1 q1' f1')∧w'.cell? ⟨b2,o2'+4,none⟩=some (.slice Q2 q2' f2')∧w'.cell? ⟨w.heap.size,2,none⟩=some (.int .i64 c)∧w'.cell? ⟨w.heap.size+1,2,none⟩=some (.int .i64 c'))) (by kernel_rfl) ⟨p3,x0,x1,x2,x3,x4,q3,y0,y1,y2,y3,y4,p2,q2⟩ (fun hSg1q0=>?_);refine rgT6 0 1 2 3 4 5 ?_;refine rgT2 6 7 ?_;refine rgC 8 (fun K hK=>?_);go_simp;go_at_call 66;refine(HC1.out _ HE0.out.drew).mono ?_;rintro e w5 ⟨rfl,hx5⟩;have HX5:=hid hx5.drew_left;clear hx5;refine rgK hK ⟨HX5.out.cell p3,HX5.out.cell x0,HX5.out.cell x1,HX5.out.cell x2,HX5.out.cell x3,HX5.out.cell x4,HX5.out.cell q3,HX5.out.cell y0,HX5.out.cell y1,HX5.out.cell y2,HX5.out.cell y3,HX5.out.cell y4,HX5.out.cell p2,HX5.out.cell q2⟩ (fun hSg1q1=>?_);clear hK K;refine rgT 9 ?_;refine wpAnyH_done (by kernel_rfl) ?_ _;clear hW0
   go_wp2
   go_ret;exact⟨rfl,HE0.out.trans HX5.out⟩
  have g6:(k == 3)=false:=by simp[h6]
  by_cases h7:k=4
  ·obtain⟨x,hx⟩:=(fw_parts HFA.out).2.2.2.2 (.inr h7);obtain⟨y,hy⟩:=(fw_parts HFB.out).2.2.2.2 (.inr h7);subst h7 hx hy;obtain⟨d1,b1,o1',P1,p1',c1',P2,p2',c2',hd,rfl,hv1,x0,x1,x2,x3,x4⟩:=HS1.out.ty_at (k:=0) rfl;obtain⟨d2,b2,o2',Q1,q1',f1',Q2,q2',f2',hd2,rfl,hv2,y0,y1,y2,y3,y4⟩:=HS2.out.ty_at (k:=0) rfl;obtain rfl:d1=d2:=by omega
   rw[Nat.zero_mul,Nat.add_zero]at x0 x1 x2 x3 x4 y0 y1 y2 y3 y4;have hn1:=HS1.out.len;have hn2:=HS2.out.len;simp only[List.length_singleton]at hn1 hn2;subst hn1 hn2;have fx:=(fw_parts HFA.out).1 x (List.mem_cons_self ..);have fy:=(fw_parts HFB.out).1 y (List.mem_cons_self ..);have HC1:=hid (fun w' (hw:Ext w w')=>HIH.out d1 (by omega) w' x y _ _ (hv1.ext hw) (hv2.ext hw) fx fy);obtain⟨t,ht⟩:∃t,subT x y=t:=⟨_,rfl⟩;rw[ht]at HC1;have HT:=hid ht;have x0:=HE0.out.cell x0;have x1:=HE0.out.cell x1;have x2:=HE0.out.cell x2;have x3:=HE0.out.cell x3;have x4:=HE0.out.cell x4;have y0:=HE0.out.cell y0;have y1:=HE0.out.cell y1;have y2:=HE0.out.cell y2;have y3:=HE0.out.cell y3;have y4:=HE0.out.cell y4;clear hv1 hv2 fx fy hd hd2 ht;clear h1 h2 h4 h5 h6;by_cases h8:c'≤c
   ·have g8:c≥c':=h8;have g9:decide (c≥c')=true:=decide_eq_true h8;obtain rfl:t=z:=by rw[←HZ2.out,←HT.out];simp[subE,h8]
    clear h8;go_enter Tryz.func66,Tryz.ntmps66;go_upto_region 13 with fail
    refine wp_region_held_drew (S:=(fun w'=>w'.cell? ⟨w.heap.size,3,none⟩=some (.slice (some ⟨b1,o1',none⟩) 1 c1)∧w'.cell? ⟨b1,o1',none⟩=some (.int .i64 x.kind)∧w'.cell? ⟨b1,o1'+1,none⟩=some (.int .i64 x.size)∧w'.cell? ⟨b1,o1'+2,none⟩=some (.int .i64 x.count)∧w'.cell? ⟨b1,o1'+3,none⟩=some (.slice P1 p1' c1')∧w'.cell? ⟨b1,o1'+4,none⟩=some (.slice P2 p2' c2')∧w'.cell? ⟨w.heap.size+1,3,none⟩=some (.slice (some ⟨b2,o2',none⟩) 1 c2)∧w'.cell? ⟨b2,o2',none⟩=some (.int .i64 y.kind)∧w'.cell? ⟨b2,o2'+1,none⟩=some (.int .i64 y.size)∧w'.cell? ⟨b2,o2'+2,none⟩=some (.int .i64 y.count)∧w'.cell? ⟨b2,o2'+3,none⟩=some (.slice Q1 q1' f1')∧w'.cell? ⟨b2,o2'+4,none⟩=some (.slice Q2 q2' f2')∧w'.cell? ⟨w.heap.size,2,none⟩=some (.int .i64 c)∧w'.cell? ⟨w.heap.size+1,2,none⟩=some (.int .i64 c'))) (by kernel_rfl) ⟨p3,x0,x1,x2,x3,x4,q3,y0,y1,y2,y3,y4,p2,q2⟩ (fun hSg2q0=>?_);refine rgT6 0 1 2 3 4 5 ?_;refine rgT6 6 7 8 9 10 11 ?_;refine rgT2 12 13 ?_;refine rgC 14 (fun K hK=>?_);go_simp;go_at_call 66;refine(HC1.out _ HE0.out.drew).mono ?_;rintro e w5 ⟨rfl,hx5⟩;have HX5:=hid hx5.drew_left;clear hx5;refine rgK hK ⟨HX5.out.cell p3,HX5.out.cell x0,HX5.out.cell x1,HX5.out.cell x2,HX5.out.cell x3,HX5.out.cell x4,HX5.out.cell q3,HX5.out.cell y0,HX5.out.cell y1,HX5.out.cell y2,HX5.out.cell y3,HX5.out.cell y4,HX5.out.cell p2,HX5.out.cell q2⟩ (fun hSg2q1=>?_);clear hK K;refine rgT2 15 16 ?_;refine wpAnyH_done (by kernel_rfl) ?_ _;clear hW0
    go_wp2
    go_ret;exact⟨rfl,HE0.out.trans HX5.out⟩
   ·have g8:¬c≥c':=h8;have g9:decide (c≥c')=false:=decide_eq_false h8;obtain rfl:z=false:=by rw[←HZ2.out];simp[subE,h8]
    clear h8;go_enter Tryz.func66,Tryz.ntmps66;go_upto_region 13 with fail
    refine wp_region_held_drew (S:=(fun w'=>w'.cell? ⟨w.heap.size,3,none⟩=some (.slice (some ⟨b1,o1',none⟩) 1 c1)∧w'.cell? ⟨b1,o1',none⟩=some (.int .i64 x.kind)∧w'.cell? ⟨b1,o1'+1,none⟩=some (.int .i64 x.size)∧w'.cell? ⟨b1,o1'+2,none⟩=some (.int .i64 x.count)∧w'.cell? ⟨b1,o1'+3,none⟩=some (.slice P1 p1' c1')∧w'.cell? ⟨b1,o1'+4,none⟩=some (.slice P2 p2' c2')∧w'.cell? ⟨w.heap.size+1,3,none⟩=some (.slice (some ⟨b2,o2',none⟩) 1 c2)∧w'.cell? ⟨b2,o2',none⟩=some (.int .i64 y.kind)∧w'.cell? ⟨b2,o2'+1,none⟩=some (.int .i64 y.size)∧w'.cell? ⟨b2,o2'+2,none⟩=some (.int .i64 y.count)∧w'.cell? ⟨b2,o2'+3,none⟩=some (.slice Q1 q1' f1')∧w'.cell? ⟨b2,o2'+4,none⟩=some (.slice Q2 q2' f2')∧w'.cell? ⟨w.heap.size,2,none⟩=some (.int .i64 c)∧w'.cell? ⟨w.heap.size+1,2,none⟩=some (.int .i64 c'))) (by kernel_rfl) ⟨p3,x0,x1,x2,x3,x4,q3,y0,y1,y2,y3,y4,p2,q2⟩ (fun hSg3q0=>?_);refine rgT6 0 1 2 3 4 5 ?_;refine rgU4 6 7 8 9 ?_;refine rgU4 10 11 12 13 ?_;refine rgC 14 (fun K hK=>?_);refine cast (if_neg (fun h=>Bool.noConfusion (show false=true from h))).symm ?_;refine rgK hK (by assumption) (fun hSg3q1=>?_);clear hK K;refine rgT2 15 16 ?_;refine wpAnyH_done (by kernel_rfl) ?_ _;clear hW0
    go_wp2
    go_ret;exact⟨rfl,HE0.out.drew⟩
  have g7:(k == 4)=false:=by simp[h7]
  rw[if_neg h6,if_neg h7]at HZ2;have hfa:=fw_parts HFA.out;have hfb:=fw_parts HFB.out;have hlen:=HT2.out.len;obtain⟨hca,hcb⟩:=HT2.out.cap;have HLN:=hid hlen;have HFD:=hid hfa;have HFE:=hid hfb;have HP3:=hid p4;clear h1 h2 h4 h5 h6 h7 hfa hfb hlen;go_enter Tryz.func66,Tryz.ntmps66
  go_wp2
  clear p0 p1 p2 p3 p4 q0 q1 q2 q3 q4 g1 g2 g3 g4 g5 g6 g7 hW0
  go_loopw [63] (fun i wr=>∃j:Nat,j≤m2∧i= .int .i64 j∧Hid (Ext W0 wr)∧Hid ((f'.take j).all (fun g=>subF f g.1 g.2)=true)) (fun i _=>m2 - (intOf i).toNat)
  case atStart=>exact⟨0,by omega,rfl,hid (Ext.refl _),hid rfl⟩
  case round=>
   obtain⟨j,hj,rfl,HX,HA⟩:=hrel;by_cases h1:j<m2
   ·obtain⟨u,hu⟩:∃u,f'[j]? =some u:=⟨_,List.getElem?_eq_getElem (by have:=HLN.out;omega)⟩;obtain⟨d1,bx,ox,P1,np1,cp1,P2,np2,cp2,hd,rfl,hv1,hi1,x0,x1,x2,x3,x4,x5⟩:=(HT2.out.ext (HE0.out.trans HX.out)).fd_at hu;obtain⟨W1,hW1⟩:∃W1,wr.alloc (.cells #[.int .i64 0,.int .i64 0,.int .i64 0,.int .i64 0,.slice none 0 0,.slice none 0 0] 59)=W1:=⟨_,rfl⟩;have hB1:Box6 W1 wr.heap.size (.int .i64 0) (.int .i64 0) (.int .i64 0) (.int .i64 0) (.slice none 0 0) (.slice none 0 0):=by rw[←hW1];exact Box6.new wr _ _ _ _ _ _ _
    have hE1:Ext wr W1:=by rw[←hW1];exact(Ext.refl _).alloc _
    obtain⟨W2,hW2,hB2,hH2,hS2,hX2⟩:=box6_set hB1 (.int .i64 u.1) (.int .i64 u.2.kind) (.int .i64 u.2.size) (.int .i64 u.2.count) (.slice P1 np1 cp1) (.slice P2 np2 cp2);have hE2:Ext wr W2:=hX2 wr hE1 (Nat.le_refl _);have HX2:=hid hE2;have HW2:=hid hW2;have HB2:=hid hB2;have hmem:=List.mem_of_getElem? hu;have HUU:=hid hu;have HEX:=hid (HE0.out.trans (HX.out.trans hE2));have HC:=hid (containsX_any d1 W2 B1 m1 e1 f (by rw[←hd];exact HT1.out.ext HEX.out) (fun x hx=>⟨HFD.out.2.1 x hx,HIH.out d1 (by omega)⟩) u.1 u.2 P1 P2 np1 cp1 np2 cp2 wr.heap.size hB2 (hv1.ext hE2) (HFE.out.2.1 u hmem));rw[any_sub HFD.out.2.2.1]at HC;obtain⟨r,hr⟩:∃r,subF f u.1 u.2=r:=⟨_,rfl⟩;rw[hr]at HC;have HR:=hid hr;obtain⟨z0,z1,z2,z3,z4,z5,zf⟩:=hB1;have y0:=zf 0;have y1:=zf 1;have y2:=zf 2;have y3:=zf 3;have y4:=zf 4;have y5:=zf 5;clear hW2 hB2 hH2 hS2 hX2 hE2 hE1 hu hr hd hv1 hi1 hmem zf;go_upto_region 17 with fail
    rw[HW2.out];clear z0 z1 z2 z3 z4 z5 y0 y1 y2 y3 y4 y5 x0 x1 x2 x3 x4 x5 hW1;have p4:=HX2.out.cell (HX.out.cell HP3.out)
    go_wp2_with fail
    refine HC.out.mono ?_;rintro e w5 ⟨rfl,hx5⟩;have HX5:=hid (HX.out.trans (HX2.out.trans hx5));clear hx5 p4
    cases r with
    | true=>
     go_wp2
     first
      |go_roundw
      |refine⟨?rel, ?measure⟩
     case rel=>exact⟨j+1,by omega,by go_num,HX5,hid (allT_step HUU.out HR.out HA.out)⟩
     case measure=>simp [intOf];omega
    |false=>
     obtain rfl:z=false:=by rw[←HZ2.out];exact allT_hit HUU.out HR.out
     go_wp2
     go_ret;exact⟨rfl,HE0.out.trans HX5.out⟩
   ·obtain rfl:j=m2:=by omega
    have ha:=HA.out;rw[List.take_of_length_le (by have:=HLN.out;omega)]at ha;obtain rfl:z=true:=by rw[←HZ2.out,ha]
    clear ha
    go_wp2
    go_ret;exact⟨rfl,HE0.out.trans HX.out⟩
set_option maxRecDepth 100000 in
set_option maxHeartbeats 8000000 in
theorem subg_any (d:Nat)(w:World)(a b:Ty)(va vb:Value)(ha:TyV d w All va a)(hb:TyV d w All vb b):Calls Tryz.prog 39 #[va,vb] w (TBool w (subG a b)):=by
 have HA:=hid ha;have HB:=hid hb;obtain⟨A1,n1,c1,B1,m1,e1,rfl, -⟩:=ha;obtain⟨A2,n2,c2,B2,m2,e2,rfl, -⟩:=hb;obtain⟨z,hz⟩:∃z,subG a b=z:=⟨_,rfl⟩;rw[hz];unfold subG at hz;have HZ:=hid hz;obtain⟨W0,hW0⟩:∃W0,(w.alloc (.cells #[.int .i64 a.kind,.int .i64 a.size,.int .i64 a.count,.slice A1 n1 c1,.slice B1 m1 e1] 42)).alloc (.cells #[.int .i64 b.kind,.int .i64 b.size,.int .i64 b.count,.slice A2 n2 c2,.slice B2 m2 e2] 42)=W0:=⟨_,rfl⟩;have hE0:Ext w W0:=by rw[←hW0];exact((Ext.refl w).alloc _).alloc _
 have hP:Box5 W0 w.heap.size (.int .i64 a.kind) (.int .i64 a.size) (.int .i64 a.count) (.slice A1 n1 c1) (.slice B1 m1 e1):=by
  rw[←hW0];exact(Box5.new w _ _ _ _ _ _).ext ((Ext.refl _).alloc _)
 have hQ:Box5 W0 (w.heap.size+1) (.int .i64 b.kind) (.int .i64 b.size) (.int .i64 b.count) (.slice A2 n2 c2) (.slice B2 m2 e2):=by
  rw[←hW0];have:=Box5.new (w.alloc (.cells #[.int .i64 a.kind,.int .i64 a.size,.int .i64 a.count,.slice A1 n1 c1,.slice B1 m1 e1] 42)) (.int .i64 b.kind) (.int .i64 b.size) (.int .i64 b.count) (.slice A2 n2 c2) (.slice B2 m2 e2) 42
  rwa [show(w.alloc (.cells #[.int .i64 a.kind,.int .i64 a.size,.int .i64 a.count,.slice A1 n1 c1,.slice B1 m1 e1] 42)).heap.size=w.heap.size+1 by simp]at this
 have HE0:=hid hE0;have HPB:=hid hP;have HQB:=hid hQ;obtain⟨ga,hga⟩:∃g,goodT a=g:=⟨_,rfl⟩;obtain⟨gb,hgb⟩:∃g,goodT b=g:=⟨_,rfl⟩;have HGA:=hid hga;have HGB:=hid hgb;have HC1:=hid (good_any d W0 a _ (HA.out.ext hE0));rw[hga]at HC1;clear hz hE0 hP hQ hga hgb;obtain⟨p0,p1,p2,p3,p4, -⟩:=HPB.out;obtain⟨q0,q1,q2,q3,q4, -⟩:=HQB.out;go_enter Tryz.func39,Tryz.ntmps39
 go_wp2_with fail
 refine HC1.out.mono ?_;rintro e w1 ⟨rfl,hx1⟩;have HX1:=hid hx1;clear hx1 hW0
 cases ga with
 |false=>
  obtain rfl:z=false:=by rw[←HZ.out,HGA.out];rfl
  clear p0 p1 p2 p3 p4 q0 q1 q2 q3 q4
  go_wp2
  go_ret;exact⟨rfl,HE0.out.trans HX1.out⟩
 | true=>
  have q0:=HX1.out.cell q0;have q1:=HX1.out.cell q1;have q2:=HX1.out.cell q2;have q3:=HX1.out.cell q3;have q4:=HX1.out.cell q4;have HC2:=hid (good_any d w1 b _ (HB.out.ext (HE0.out.trans HX1.out)));rw[HGB.out]at HC2
  go_wp2_with fail
  refine HC2.out.mono ?_;rintro e w2 ⟨rfl,hx2⟩;have HX2:=hid (HX1.out.trans hx2);clear hx2
  cases gb with
  |false=>
   obtain rfl:z=false:=by rw[←HZ.out,HGA.out,HGB.out];rfl
   clear p0 p1 p2 p3 p4 q0 q1 q2 q3 q4
   go_wp2
   go_ret;exact⟨rfl,HE0.out.trans HX2.out⟩
  |true=>
   have fa:FW a:=(goodT_iff.1 HGA.out).2;have fb:FW b:=(goodT_iff.1 HGB.out).2;have HJ:=hid (sub_all d w2 a b _ _ (HA.out.ext (HE0.out.trans HX2.out)) (HB.out.ext (HE0.out.trans HX2.out)) fa fb);obtain⟨y,hy⟩:∃y,subT a b=y:=⟨_,rfl⟩;rw[hy]at HJ;obtain rfl:z=y:=by rw[←HZ.out,HGA.out,HGB.out,hy];rfl
   have p0:=HX2.out.cell HPB.out.1;have p1:=HX2.out.cell HPB.out.2.1;have p2:=HX2.out.cell HPB.out.2.2.1;have p3:=HX2.out.cell HPB.out.2.2.2.1;have p4:=HX2.out.cell HPB.out.2.2.2.2.1;have q0:=HX2.out.cell HQB.out.1;have q1:=HX2.out.cell HQB.out.2.1;have q2:=HX2.out.cell HQB.out.2.2.1;have q3:=HX2.out.cell HQB.out.2.2.2.1;have q4:=HX2.out.cell HQB.out.2.2.2.2.1;clear fa fb hy
   go_wp2_with fail
   refine HJ.out.mono ?_;rintro e w3 ⟨rfl,hx3⟩;have HX3:=hid (HX2.out.trans hx3);clear hx3 p0 p1 p2 p3 p4 q0 q1 q2 q3 q4
   go_wp2
   go_ret;exact⟨rfl,HE0.out.trans HX3.out⟩
end Go.Proofs.YtlmipgdnlfjpaaaGreat
