/- Merged by program from texts of my own. -/
import Derived.Test.YtlmipgdnlfjpaaaGreatThem
import Derived.Test.YtlmipgdnlfjpaaaGreatRuAm
namespace Go.Proofs.YtlmipgdnlfjpaaaGreat
open Go.RowKit Go.Deco Go.Maps
set_option linter.unusedSimpArgs false
set_option linter.unusedVariables false
def FewTIs (l:List Ty)(w:World)(e:Ending)(w':World):Prop:=∃b:Bool,e= .returned (.bool b)∧Ext w w'∧(b=true→l.length≤16)
set_option maxRecDepth 100000 in
set_option maxHeartbeats 4000000 in
theorem fewt_any (d:Nat)(w:World)(A:Option Addr)(m me:Nat)(l:List Ty)(hs:Sl (tyR d) w All (.slice A m me) l):Calls Tryz.prog 13 #[.slice A m me] w (FewTIs l w):=by
 have hln:=hs.len;obtain⟨hc1,hc2⟩:=hs.cap;have HS:=hid hs;have HL:=hid hln;clear hs hln;go_enter Tryz.func13,Tryz.ntmps13
 go_wp2
 go_loopw [3] (fun i wr=>∃j:Nat,j≤m∧j≤20∧i= .int .i64 j∧Hid (Ext w wr)) (fun i _=>20 - (intOf i).toNat)
 case atStart=>exact⟨0,by omega,by omega,rfl,hid (Ext.refl _)⟩
 case round=>
  obtain⟨j,hj,hj2,rfl,HX⟩:=hrel;by_cases h1:j<m
  ·by_cases h2:j<20
   ·obtain⟨c,hc⟩:∃c,l[j]? =some c:=⟨_,List.getElem?_eq_getElem (by have:=HL.out;omega)⟩;obtain⟨d1,bx,ox,P1,np1,cp1,P2,np2,cp2,hd,rfl,hv1,x0,x1,x2,x3,x4⟩:=(HS.out.ext HX.out).ty_at hc;have HCC:=hid (count_lim 40 (by omega) d1 wr c _ hv1);have i1:(j:Int)<(m:Int):=by omega
    have i2:(j:Int)<20:=by omega
    clear hd hv1 hc
    go_wp2_with fail
    refine HCC.out.mono ?_;rintro e w5 ⟨z,rfl,hx5,hcz⟩;have HX5:=hid (HX.out.trans hx5);clear hx5 hcz x0 x1 x2 x3 x4;by_cases h3:z > 40
    ·go_wp2
     go_ret;exact⟨false,rfl,HX5.out,fun e=>by cases e⟩
    ·go_wp2
     first
      |go_roundw
      |refine⟨?rel, ?measure⟩
     case rel=>exact⟨j+1,by omega,by omega,by go_num,HX5⟩
     case measure=>simp [intOf];omega
   ·obtain rfl:j=20:=by omega
    have i1:(20:Int)<(m:Int):=by omega
    have i2:¬(m:Int)≤16:=by omega
    go_wp2
    go_ret;exact⟨false,rfl,HX.out,fun e=>by cases e⟩
  ·obtain rfl:j=m:=by omega
   have i1:¬(j:Int)<(j:Int):=by omega
   by_cases h2:j≤16
   ·have i2:(j:Int)≤16:=by omega
    go_wp2
    go_ret;exact⟨true,rfl,HX.out,fun _=>by have:=HL.out;omega⟩
   ·have i2:¬(j:Int)≤16:=by omega
    go_wp2
    go_ret;exact⟨false,rfl,HX.out,fun e=>by cases e⟩
set_option maxRecDepth 100000 in
set_option maxHeartbeats 4000000 in
theorem fromref_any (w:World)(A B:Option Addr)(n c m e:Nat):
  Calls Tryz.prog 15 #[.agg #[.slice A n c,.slice B m e]] w (fun x w'=>x= .returned (.agg #[.slice A n c,.slice B m e])∧Ext w w'):=by
 obtain⟨W0,hW0⟩:∃W0,(w.alloc (.cells #[.slice A n c,.slice B m e] 34)).alloc (.cells #[.slice none 0 0,.slice none 0 0] 28)=W0:=⟨_,rfl⟩;have hE0:Ext w W0:=by rw[←hW0];exact((Ext.refl w).alloc _).alloc _
 have hP:Box2 W0 w.heap.size (.slice A n c) (.slice B m e):=by rw[←hW0];exact(Box2.new w _ _ _).ext ((Ext.refl _).alloc _)
 have hR:Box2 W0 (w.heap.size+1) (.slice none 0 0) (.slice none 0 0):=by
  rw[←hW0];have:=Box2.new (w.alloc (.cells #[.slice A n c,.slice B m e] 34)) (.slice none 0 0) (.slice none 0 0) 28
  rwa [show(w.alloc (.cells #[.slice A n c,.slice B m e] 34)).heap.size=w.heap.size+1 by simp]at this
 obtain⟨W1,hW1,hB1,hH1,hS1,hX1⟩:=box2_set hR (.slice A n c) (.slice B m e);have HX1:=hid (hX1 w hE0 (by omega));have HW1:=hid hW1;obtain⟨t0,t1, -⟩:=hB1;obtain⟨p0,p1, -⟩:=hP;obtain⟨r0,r1,rf⟩:=hR;have f0:=rf 0;have f1:=rf 1;clear hE0 hW1 hH1 hS1 hX1 rf;go_enter Tryz.func15,Tryz.ntmps15
 go_wp2
 rw[HW1.out];clear r0 r1 p0 p1 hW0;refine bodyPost_ret (v:= .agg #[.slice A n c,.slice B m e]) (by simp[results,Tryz.results15,go_sem,t0,t1]) rfl ?_;exact⟨rfl,HX1.out⟩
theorem con_one {d:Nat}{w wo:World}{cc:Con}{A B:Option Addr}{n e m f:Nat}(hx:Ext wo w)(h:ConV d wo All (.agg #[.int .i64 cc.kind,.int .i64 cc.a,.int .i64 cc.b,.int .i64 cc.off,.int .i64 cc.width,.int .i64 cc.type.kind,.int .i64 cc.type.size,.int .i64 cc.type.count,.slice A n e,.slice B m f]) cc)(t:TypeId):
  Sl (conR (tyR (d+1))) (w.alloc (.cells #[.int .i64 cc.kind,.int .i64 cc.a,.int .i64 cc.b,.int .i64 cc.off,.int .i64 cc.width,.int .i64 cc.type.kind,.int .i64 cc.type.size,.int .i64 cc.type.count,.slice A n e,.slice B m f] t)) All (.slice (some ⟨w.heap.size,0,none⟩) 1 1) [cc]:=by
 refine sl_of_chunks (l:=[cc]) trivial (xs:=[.int .i64 cc.kind,.int .i64 cc.a,.int .i64 cc.b,.int .i64 cc.off,.int .i64 cc.width,.int .i64 cc.type.kind,.int .i64 cc.type.size,.int .i64 cc.type.count,.slice A n e,.slice B m f]) (Chunks.single (con_rel.2 (h.ext (hx.trans ((Ext.refl w).alloc _))))) (fun j u hu=>?_) (by simp) (by simp[maxLen]);have:=new_cells w [.int .i64 cc.kind,.int .i64 cc.a,.int .i64 cc.b,.int .i64 cc.off,.int .i64 cc.width,.int .i64 cc.type.kind,.int .i64 cc.type.size,.int .i64 cc.type.count,.slice A n e,.slice B m f] t j u hu;have e:(⟨w.heap.size,0,none⟩:Addr).add j=⟨w.heap.size,0+j,none⟩:=by unfold Addr.add;split <;> simp_all
 rwa [e]at this
theorem newCon {d:Nat}{wo w:World}{cc:Con}{A B:Option Addr}{n e m f:Nat}(hx:Ext wo w)(h:ConV d wo All (.agg #[.int .i64 cc.kind,.int .i64 cc.a,.int .i64 cc.b,.int .i64 cc.off,.int .i64 cc.width,.int .i64 cc.type.kind,.int .i64 cc.type.size,.int .i64 cc.type.count,.slice A n e,.slice B m f]) cc):
  ∃wA sz,w.alloc (.cells #[.int .i64 cc.kind,.int .i64 cc.a,.int .i64 cc.b,.int .i64 cc.off,.int .i64 cc.width,.int .i64 cc.type.kind,.int .i64 cc.type.size,.int .i64 cc.type.count,.slice A n e,.slice B m f] 44)=wA∧w.heap.size=sz∧Ext w wA∧Sl (conR (tyR (d+1))) wA All (.slice (some ⟨sz,0,none⟩) 1 1) [cc]:=
 ⟨_,_,rfl,rfl,(Ext.refl w).alloc _,con_one hx h _⟩
set_option maxRecDepth 100000 in
set_option maxHeartbeats 16000000 in
theorem checks_any (d:Nat) (w:World) (A B:Option Addr) (n c m e:Nat) (ts:List Ty) (cc:Con) (vc:Value) (v:Int) (hs:Sl (tyR d) w All (.slice A n c) ts) (hb:∀t∈ts,bnT t=true) (hc:ConV d w All vc cc):
  Calls Tryz.prog 4 #[.agg #[.slice A n c,.slice B m e],vc,.int .i64 v] w (TBool w true):=by
 have HS:=hid hs;have HB:=hid hb;have HC:=hid hc;obtain⟨A1,n1,c1,B1,m1,e1,rfl, -⟩:=hc;obtain⟨W0,hW0⟩:∃W0,(w.alloc (.cells #[.slice A n c,.slice B m e] 34)).alloc (.cells #[.int .i64 cc.kind,.int .i64 cc.a,.int .i64 cc.b,.int .i64 cc.off,.int .i64 cc.width,.int .i64 cc.type.kind,.int .i64 cc.type.size,.int .i64 cc.type.count,.slice A1 n1 c1,.slice B1 m1 e1] 44)=W0:=⟨_,rfl⟩;have hE0:Ext w W0:=by rw[←hW0];exact((Ext.refl w).alloc _).alloc _
 have hP:Box2 W0 w.heap.size (.slice A n c) (.slice B m e):=by rw[←hW0];exact(Box2.new w _ _ _).ext ((Ext.refl _).alloc _)
 have hQ:Box10 W0 (w.heap.size+1) 0 cc A1 n1 c1 B1 m1 e1:=by
  rw[←hW0];have:=Box10.new (w.alloc (.cells #[.slice A n c,.slice B m e] 34)) cc A1 n1 c1 B1 m1 e1 44
  rwa [show(w.alloc (.cells #[.slice A n c,.slice B m e] 34)).heap.size=w.heap.size+1 by simp]at this
 have HE0:=hid hE0;have HPB:=hid hP;have HQB:=hid hQ;have HFT:=hid (fewt_any d W0 A n c ts (hs.ext hE0));clear hs hb hE0 hP hQ;obtain⟨p0,p1, -⟩:=HPB.out;obtain⟨q0,q1,q2,q3,q4,q5,q6,q7,q8,q9⟩:=HQB.out;rw[Nat.zero_add]at q1 q2 q3 q4 q5 q6 q7 q8 q9;go_enter Tryz.func4,Tryz.ntmps4
 go_wp2_with fail
 refine HFT.out.mono ?_;rintro e w1 ⟨b1,rfl,hx1, -⟩;have HX1:=hid hx1;have HE1:=hid (HE0.out.trans hx1);have p0:=hx1.cell p0;have p1:=hx1.cell p1;have q0:=hx1.cell q0;have q1:=hx1.cell q1;have q2:=hx1.cell q2;have q3:=hx1.cell q3;have q4:=hx1.cell q4;have q5:=hx1.cell q5;have q6:=hx1.cell q6;have q7:=hx1.cell q7;have q8:=hx1.cell q8;have q9:=hx1.cell q9;clear hx1 hW0;cases b1
 case false=>
  clear p0 p1 q0 q1 q2 q3 q4 q5 q6 q7 q8 q9
  go_wp2_with fail
  refine(ex_any _).mono ?_;rintro e wz ⟨rfl,hxz⟩;have HXZ:=hid ((HE1.out).trans hxz);clear hxz
  go_wp2
  go_ret;exact⟨rfl,HXZ.out⟩
 have HF1:=hid (few_any (d+1) _ _ 1 1 [cc] (con_one HE1.out HC.out 44))
 go_wp2_with fail
 refine HF1.out.mono ?_;rintro e w2 ⟨b2,rfl,hx2, -⟩;have HX2:=hid (((Ext.refl w1).alloc _).trans hx2);have HE2:=hid (HE1.out.trans HX2.out);have p0:=HX2.out.cell p0;have p1:=HX2.out.cell p1;have q0:=HX2.out.cell q0;have q1:=HX2.out.cell q1;have q2:=HX2.out.cell q2;have q3:=HX2.out.cell q3;have q4:=HX2.out.cell q4;have q5:=HX2.out.cell q5;have q6:=HX2.out.cell q6;have q7:=HX2.out.cell q7;have q8:=HX2.out.cell q8;have q9:=HX2.out.cell q9;clear hx2;cases b2
 case false=>
  clear p0 p1 q0 q1 q2 q3 q4 q5 q6 q7 q8 q9
  go_wp2_with fail
  refine(ex_any _).mono ?_;rintro e wz ⟨rfl,hxz⟩;have HXZ:=hid ((HE2.out).trans hxz);clear hxz
  go_wp2
  go_ret;exact⟨rfl,HXZ.out⟩
 by_cases h20:(m:Int) > 20
 ·clear p0 q0 q1 q2 q3 q4 q5 q6 q7 q8 q9
  go_wp2_with fail
  refine(ex_any _).mono ?_;rintro e wz ⟨rfl,hxz⟩;have HXZ:=hid ((HE2.out).trans hxz);clear hxz
  go_wp2
  go_ret;exact⟨rfl,HXZ.out⟩
 obtain⟨z,hz⟩:∃z,satC ts cc=z:=⟨_,rfl⟩;have HST1:=hid (fun(w':World) (hh:Ext w2 w') d2 (hd2:d≤d2) vc2 (hvc:ConV d2 w' All vc2 cc)=>sat_any d2 w' A B n c m e ts cc vc2 ((HS.out.ext (HE2.out.trans hh)).ty_up hd2) HB.out hvc);have HST2:=hid (fun(w':World) (hh:Ext w2 w')=>sat33_any d w' A B n c m e ts cc _ (HS.out.ext (HE2.out.trans hh)) (HC.out.ext (HE2.out.trans hh)));rw[hz]at HST2;simp only[hz]at HST1;obtain⟨t,ht⟩:∃t,typeAt ts v=t:=⟨_,rfl⟩;have HT1:=hid (fun(w':World) (hh:Ext w2 w')=>typeof_any d w' A B n c m e ts v (HS.out.ext (HE2.out.trans hh)) HB.out);have HT2:=hid (fun(w':World) (hh:Ext w2 w')=>typeof33_any d w2 w' A B n c m e ts v hh (HS.out.ext HE2.out));rw[ht]at HT1 HT2;have HCO:=hid (fun(w':World) (s:Nat) (hl:Sl (conR (tyR (d+1))) w' All (.slice (some ⟨s,0,none⟩) 1 1) [cc])=>cons_any (d+1) w' (some ⟨s,0,none⟩) 1 1 [cc] hl (by omega));have hzz:(z == z)=true:=by cases z <;> rfl
 have HSK:=hid (fun(w':World) (hx:Ext w2 w')=>(show w'.cell? ⟨w.heap.size,0,none⟩=some (.slice A n c)∧w'.cell? ⟨w.heap.size,1,none⟩=some (.slice B m e)∧w'.cell? ⟨w.heap.size+1,0,none⟩=some (.int .i64 cc.kind)∧w'.cell? ⟨w.heap.size+1,1,none⟩=some (.int .i64 cc.a)∧w'.cell? ⟨w.heap.size+1,2,none⟩=some (.int .i64 cc.b)∧w'.cell? ⟨w.heap.size+1,3,none⟩=some (.int .i64 cc.off)∧w'.cell? ⟨w.heap.size+1,4,none⟩=some (.int .i64 cc.width)∧w'.cell? ⟨w.heap.size+1,5,none⟩=some (.int .i64 cc.type.kind)∧w'.cell? ⟨w.heap.size+1,6,none⟩=some (.int .i64 cc.type.size)∧w'.cell? ⟨w.heap.size+1,7,none⟩=some (.int .i64 cc.type.count)∧w'.cell? ⟨w.heap.size+1,8,none⟩=some (.slice A1 n1 c1)∧w'.cell? ⟨w.heap.size+1,9,none⟩=some (.slice B1 m1 e1) from⟨hx.cell p0,hx.cell p1,hx.cell q0,hx.cell q1,hx.cell q2,hx.cell q3,hx.cell q4,hx.cell q5,hx.cell q6,hx.cell q7,hx.cell q8,hx.cell q9⟩));clear hz ht;go_upto_region 3 with fail
 clear p0 p1 q0 q1 q2 q3 q4 q5 q6 q7 q8 q9;have HXg1q_0:=hid ((Ext.refl w2).drew);refine wp_region_held_drew (S:=(fun w'=>w'.cell? ⟨w.heap.size,0,none⟩=some (.slice A n c)∧w'.cell? ⟨w.heap.size,1,none⟩=some (.slice B m e)∧w'.cell? ⟨w.heap.size+1,0,none⟩=some (.int .i64 cc.kind)∧w'.cell? ⟨w.heap.size+1,1,none⟩=some (.int .i64 cc.a)∧w'.cell? ⟨w.heap.size+1,2,none⟩=some (.int .i64 cc.b)∧w'.cell? ⟨w.heap.size+1,3,none⟩=some (.int .i64 cc.off)∧w'.cell? ⟨w.heap.size+1,4,none⟩=some (.int .i64 cc.width)∧w'.cell? ⟨w.heap.size+1,5,none⟩=some (.int .i64 cc.type.kind)∧w'.cell? ⟨w.heap.size+1,6,none⟩=some (.int .i64 cc.type.size)∧w'.cell? ⟨w.heap.size+1,7,none⟩=some (.int .i64 cc.type.count)∧w'.cell? ⟨w.heap.size+1,8,none⟩=some (.slice A1 n1 c1)∧w'.cell? ⟨w.heap.size+1,9,none⟩=some (.slice B1 m1 e1))) (by kernel_rfl) (HSK.out _ (Ext.refl _).drew) (fun hSg1q0=>?_);refine rgT4 0 2 8 9 ?_;refine wpAnyH_ready (rs:=[1,3]) (by kernel_rfl) (by simp) ?_;refine(AllReadyH.consL rfl (fun K hK=>?g1qb1x5) (AllReadyH.consL rfl (fun K hK=>?g1qb3x5) AllReadyH.nil))
 case' g1qb1x5=>
  go_simp;go_at_call 15;refine(fromref_any _ A B n c m e).mono ?_;rintro e w5 ⟨rfl,hEg1q1⟩;have HXg1q_1:=hid (HXg1q_0.out.trans hEg1q1);clear hEg1q1;refine rgK hK (HSK.out _ HXg1q_1.out) (fun hSg1q1=>?_);clear hK K;refine wpAnyH_ready (rs:=[3]) (by kernel_rfl) (by simp) ?_;refine(AllReadyH.consL rfl (fun K hK=>?g1qb3x6) AllReadyH.nil)
  case' g1qb3x6=>
   go_simp;obtain⟨wP,sP,hA1,hsz,hEg1q2,hcl⟩:=newCon (HE2.out.trans HXg1q_1.out) HC.out;refine Eq.mpr (congrArg (K _) hA1) ?_
   first|rw[hsz]|(have hq:w2.heap.size=sP:=hsz;rw[hq];clear hq)|skip
   have HCL:=hid hcl;clear hA1 hsz hcl;have HXg1q_2:=hid (HXg1q_1.out.trans hEg1q2);clear hEg1q2;refine rgK hK (HSK.out _ HXg1q_2.out) (fun hSg1q2=>?_);clear hK K;refine wpAnyH_ready (rs:=[4]) (by kernel_rfl) (by simp) ?_;refine(AllReadyH.consL rfl (fun K hK=>?g1qb4x7) AllReadyH.nil)
   case' g1qb4x7=>
    go_simp;go_at_call 9;refine(HCO.out _ _ HCL.out).mono ?_;rintro e w5 ⟨A5,k5,rfl,hl5,hEg1q3⟩;obtain⟨d5,b5,o5,P5,np5,cp5,P6,np6,cp6,hd5,rfl,hv5,hbx5, -⟩:=hl5.con_at (k:=0) (c:=cc) rfl;rw[Nat.zero_mul,Nat.add_zero]at hbx5;have HCS:=hid hv5;have HBX:=hid hbx5;have HD5:=hid hd5;clear hl5 hv5 hbx5 hd5;have HXg1q_3:=hid (HXg1q_2.out.trans hEg1q3);have HCL:=hid (HCL.out.ext hEg1q3);clear hEg1q3;refine rgK hK (HSK.out _ HXg1q_3.out) (fun hSg1q3=>?_);clear hK K;refine rgT 5 ?_;refine wpAnyH_ready (rs:=[6]) (by kernel_rfl) (by simp) ?_;refine(AllReadyH.consL rfl (fun K hK=>?g1qb6x9) AllReadyH.nil)
    case' g1qb6x9=>
     have hEg1q4:Ext w5 w5:=Ext.refl w5;obtain⟨x0,x1,x2,x3,x4,x5,x6,x7,x8,x9⟩:=HBX.out;go_simp;clear x0 x1 x2 x3 x4 x5 x6 x7 x8 x9;have HXg1q_4:=hid (HXg1q_3.out.trans hEg1q4);have HCL:=hid (HCL.out.ext hEg1q4);have HCS:=hid (HCS.out.ext hEg1q4);have HBX:=hid (HBX.out.ext hEg1q4);clear hEg1q4;refine rgK hK (HSK.out _ HXg1q_4.out) (fun hSg1q4=>?_);clear hK K;refine wpAnyH_ready (rs:=[7]) (by kernel_rfl) (by simp) ?_;refine(AllReadyH.consL rfl (fun K hK=>?g1qb7x10) AllReadyH.nil)
     case' g1qb7x10=>
      go_simp;go_at_call 14;refine(HST1.out _ HXg1q_4.out _ (by have:=HD5.out;omega) _ HCS.out).mono ?_;rintro e w5 ⟨rfl,hEg1q5⟩;have HXg1q_5:=hid (HXg1q_4.out.trans hEg1q5);have HCL:=hid (HCL.out.ext hEg1q5);have HCS:=hid (HCS.out.ext hEg1q5);have HBX:=hid (HBX.out.ext hEg1q5);clear hEg1q5;refine rgK hK (HSK.out _ HXg1q_5.out) (fun hSg1q5=>?_);clear hK K;refine wpAnyH_ready (rs:=[10]) (by kernel_rfl) (by simp) ?_;refine(AllReadyH.consL rfl (fun K hK=>?g1qb10x11) AllReadyH.nil)
      case' g1qb10x11=>
       go_simp;go_at_call 16;refine(HST2.out _ HXg1q_5.out).mono ?_;rintro e w5 ⟨rfl,hEg1q6⟩;have HXg1q_6:=hid (HXg1q_5.out.trans hEg1q6);have HCL:=hid (HCL.out.ext hEg1q6);have HCS:=hid (HCS.out.ext hEg1q6);have HBX:=hid (HBX.out.ext hEg1q6);clear hEg1q6;refine rgK hK (HSK.out _ HXg1q_6.out) (fun hSg1q6=>?_);clear hK K;refine rgT6 11 12 13 15 17 18 ?_;refine wpAnyH_ready (rs:=[14]) (by kernel_rfl) (by simp) ?_;refine(AllReadyH.consL rfl (fun K hK=>?g1qb14x18) AllReadyH.nil)
       case' g1qb14x18=>
        go_simp;go_at_call 15;refine(fromref_any _ A B n c m e).mono ?_;rintro e w5 ⟨rfl,hEg1q7⟩;have HXg1q_7:=hid (HXg1q_6.out.trans hEg1q7);have HCL:=hid (HCL.out.ext hEg1q7);have HCS:=hid (HCS.out.ext hEg1q7);have HBX:=hid (HBX.out.ext hEg1q7);clear hEg1q7;refine rgK hK (HSK.out _ HXg1q_7.out) (fun hSg1q7=>?_);clear hK K;refine wpAnyH_ready (rs:=[16]) (by kernel_rfl) (by simp) ?_;refine(AllReadyH.consL rfl (fun K hK=>?g1qb16x19) AllReadyH.nil)
        case' g1qb16x19=>
         go_simp;go_at_call 18;refine(HT1.out _ HXg1q_7.out).mono ?_;rintro e w5 ⟨v5,rfl,hv5,hEg1q8⟩;have HVA:=hid hv5.all;have HXg1q_8:=hid (HXg1q_7.out.trans hEg1q8);have HCL:=hid (HCL.out.ext hEg1q8);have HCS:=hid (HCS.out.ext hEg1q8);have HBX:=hid (HBX.out.ext hEg1q8);clear hEg1q8;refine rgK hK (HSK.out _ HXg1q_8.out) (fun hSg1q8=>?_);clear hK K;refine wpAnyH_ready (rs:=[19]) (by kernel_rfl) (by simp) ?_;refine(AllReadyH.consL rfl (fun K hK=>?g1qb19x20) AllReadyH.nil)
         case' g1qb19x20=>
          go_simp;go_at_call 19;refine(HT2.out _ HXg1q_8.out).mono ?_;rintro e w5 ⟨v6,rfl,hv6,hEg1q9⟩;have HVB:=hid hv6;have HXg1q_9:=hid (HXg1q_8.out.trans hEg1q9);have HCL:=hid (HCL.out.ext hEg1q9);have HCS:=hid (HCS.out.ext hEg1q9);have HBX:=hid (HBX.out.ext hEg1q9);have HVA:=hid (HVA.out.ext hEg1q9);clear hEg1q9;refine rgK hK (HSK.out _ HXg1q_9.out) (fun hSg1q9=>?_);clear hK K;refine wpAnyH_ready (rs:=[20]) (by kernel_rfl) (by simp) ?_;refine(AllReadyH.consL rfl (fun K hK=>?g1qb20x21) AllReadyH.nil)
          case' g1qb20x21=>
           go_simp;go_at_call 17;refine(same31_any d _ t t _ _ HVA.out (HVB.out.ext HXg1q_9.out)).mono ?_;rintro e w5 ⟨rfl,hEg1q10⟩;rw[sameT_self];have HXg1q_10:=hid (HXg1q_9.out.trans hEg1q10);have HCL:=hid (HCL.out.ext hEg1q10);have HCS:=hid (HCS.out.ext hEg1q10);have HBX:=hid (HBX.out.ext hEg1q10);have HVA:=hid (HVA.out.ext hEg1q10);clear hEg1q10;refine rgK hK (HSK.out _ HXg1q_10.out) (fun hSg1q10=>?_);clear hK K;refine rgT2 21 22 ?_;refine wpAnyH_ready (rs:=[23]) (by kernel_rfl) (by simp) ?_;refine(AllReadyH.consL rfl (fun K hK=>?g1qb23x24) AllReadyH.nil)
           case' g1qb23x24=>
            go_simp;go_at_call 7;refine(ex_any _).mono ?_;rintro e w5 ⟨rfl,hEg1q11⟩;have HXg1q_11:=hid (HXg1q_10.out.trans hEg1q11);have HCL:=hid (HCL.out.ext hEg1q11);have HCS:=hid (HCS.out.ext hEg1q11);have HBX:=hid (HBX.out.ext hEg1q11);have HVA:=hid (HVA.out.ext hEg1q11);clear hEg1q11;refine rgK hK (HSK.out _ HXg1q_11.out) (fun hSg1q11=>?_);clear hK K;refine rgT2 24 25 ?_;refine wpAnyH_done (by kernel_rfl) ?_ _
            go_wp2
            go_ret;exact⟨rfl,HE2.out.trans HXg1q_11.out⟩
 case' g1qb3x5=>
  go_simp;obtain⟨wP,sP,hA1,hsz,hEg1q1,hcl⟩:=newCon (HE2.out.trans HXg1q_0.out) HC.out;refine Eq.mpr (congrArg (K _) hA1) ?_
  first|rw[hsz]|(have hq:w2.heap.size=sP:=hsz;rw[hq];clear hq)|skip
  have HCL:=hid hcl;clear hA1 hsz hcl;have HXg1q_1:=hid (HXg1q_0.out.trans hEg1q1);clear hEg1q1;refine rgK hK (HSK.out _ HXg1q_1.out) (fun hSg1q1=>?_);clear hK K;refine wpAnyH_ready (rs:=[1]) (by kernel_rfl) (by simp) ?_;refine(AllReadyH.consL rfl (fun K hK=>?g1qb1x27) AllReadyH.nil)
  case' g1qb1x27=>
   go_simp;go_at_call 15;refine(fromref_any _ A B n c m e).mono ?_;rintro e w5 ⟨rfl,hEg1q2⟩;have HXg1q_2:=hid (HXg1q_1.out.trans hEg1q2);have HCL:=hid (HCL.out.ext hEg1q2);clear hEg1q2;refine rgK hK (HSK.out _ HXg1q_2.out) (fun hSg1q2=>?_);clear hK K;refine wpAnyH_ready (rs:=[4]) (by kernel_rfl) (by simp) ?_;refine(AllReadyH.consL rfl (fun K hK=>?g1qb4x28) AllReadyH.nil)
   case' g1qb4x28=>
    go_simp;go_at_call 9;refine(HCO.out _ _ HCL.out).mono ?_;rintro e w5 ⟨A5,k5,rfl,hl5,hEg1q3⟩;obtain⟨d5,b5,o5,P5,np5,cp5,P6,np6,cp6,hd5,rfl,hv5,hbx5, -⟩:=hl5.con_at (k:=0) (c:=cc) rfl;rw[Nat.zero_mul,Nat.add_zero]at hbx5;have HCS:=hid hv5;have HBX:=hid hbx5;have HD5:=hid hd5;clear hl5 hv5 hbx5 hd5;have HXg1q_3:=hid (HXg1q_2.out.trans hEg1q3);have HCL:=hid (HCL.out.ext hEg1q3);clear hEg1q3;refine rgK hK (HSK.out _ HXg1q_3.out) (fun hSg1q3=>?_);clear hK K;refine rgT 5 ?_;refine wpAnyH_ready (rs:=[6]) (by kernel_rfl) (by simp) ?_;refine(AllReadyH.consL rfl (fun K hK=>?g1qb6x30) AllReadyH.nil)
    case' g1qb6x30=>
     have hEg1q4:Ext w5 w5:=Ext.refl w5;obtain⟨x0,x1,x2,x3,x4,x5,x6,x7,x8,x9⟩:=HBX.out;go_simp;clear x0 x1 x2 x3 x4 x5 x6 x7 x8 x9;have HXg1q_4:=hid (HXg1q_3.out.trans hEg1q4);have HCL:=hid (HCL.out.ext hEg1q4);have HCS:=hid (HCS.out.ext hEg1q4);have HBX:=hid (HBX.out.ext hEg1q4);clear hEg1q4;refine rgK hK (HSK.out _ HXg1q_4.out) (fun hSg1q4=>?_);clear hK K;refine wpAnyH_ready (rs:=[7]) (by kernel_rfl) (by simp) ?_;refine(AllReadyH.consL rfl (fun K hK=>?g1qb7x31) AllReadyH.nil)
     case' g1qb7x31=>
      go_simp;go_at_call 14;refine(HST1.out _ HXg1q_4.out _ (by have:=HD5.out;omega) _ HCS.out).mono ?_;rintro e w5 ⟨rfl,hEg1q5⟩;have HXg1q_5:=hid (HXg1q_4.out.trans hEg1q5);have HCL:=hid (HCL.out.ext hEg1q5);have HCS:=hid (HCS.out.ext hEg1q5);have HBX:=hid (HBX.out.ext hEg1q5);clear hEg1q5;refine rgK hK (HSK.out _ HXg1q_5.out) (fun hSg1q5=>?_);clear hK K;refine wpAnyH_ready (rs:=[10]) (by kernel_rfl) (by simp) ?_;refine(AllReadyH.consL rfl (fun K hK=>?g1qb10x32) AllReadyH.nil)
      case' g1qb10x32=>
       go_simp;go_at_call 16;refine(HST2.out _ HXg1q_5.out).mono ?_;rintro e w5 ⟨rfl,hEg1q6⟩;have HXg1q_6:=hid (HXg1q_5.out.trans hEg1q6);have HCL:=hid (HCL.out.ext hEg1q6);have HCS:=hid (HCS.out.ext hEg1q6);have HBX:=hid (HBX.out.ext hEg1q6);clear hEg1q6;refine rgK hK (HSK.out _ HXg1q_6.out) (fun hSg1q6=>?_);clear hK K;refine rgT6 11 12 13 15 17 18 ?_;refine wpAnyH_ready (rs:=[14]) (by kernel_rfl) (by simp) ?_;refine(AllReadyH.consL rfl (fun K hK=>?g1qb14x39) AllReadyH.nil)
       case' g1qb14x39=>
        go_simp;go_at_call 15;refine(fromref_any _ A B n c m e).mono ?_;rintro e w5 ⟨rfl,hEg1q7⟩;have HXg1q_7:=hid (HXg1q_6.out.trans hEg1q7);have HCL:=hid (HCL.out.ext hEg1q7);have HCS:=hid (HCS.out.ext hEg1q7);have HBX:=hid (HBX.out.ext hEg1q7);clear hEg1q7;refine rgK hK (HSK.out _ HXg1q_7.out) (fun hSg1q7=>?_);clear hK K;refine wpAnyH_ready (rs:=[16]) (by kernel_rfl) (by simp) ?_;refine(AllReadyH.consL rfl (fun K hK=>?g1qb16x40) AllReadyH.nil)
        case' g1qb16x40=>
         go_simp;go_at_call 18;refine(HT1.out _ HXg1q_7.out).mono ?_;rintro e w5 ⟨v5,rfl,hv5,hEg1q8⟩;have HVA:=hid hv5.all;have HXg1q_8:=hid (HXg1q_7.out.trans hEg1q8);have HCL:=hid (HCL.out.ext hEg1q8);have HCS:=hid (HCS.out.ext hEg1q8);have HBX:=hid (HBX.out.ext hEg1q8);clear hEg1q8;refine rgK hK (HSK.out _ HXg1q_8.out) (fun hSg1q8=>?_);clear hK K;refine wpAnyH_ready (rs:=[19]) (by kernel_rfl) (by simp) ?_;refine(AllReadyH.consL rfl (fun K hK=>?g1qb19x41) AllReadyH.nil)
         case' g1qb19x41=>
          go_simp;go_at_call 19;refine(HT2.out _ HXg1q_8.out).mono ?_;rintro e w5 ⟨v6,rfl,hv6,hEg1q9⟩;have HVB:=hid hv6;have HXg1q_9:=hid (HXg1q_8.out.trans hEg1q9);have HCL:=hid (HCL.out.ext hEg1q9);have HCS:=hid (HCS.out.ext hEg1q9);have HBX:=hid (HBX.out.ext hEg1q9);have HVA:=hid (HVA.out.ext hEg1q9);clear hEg1q9;refine rgK hK (HSK.out _ HXg1q_9.out) (fun hSg1q9=>?_);clear hK K;refine wpAnyH_ready (rs:=[20]) (by kernel_rfl) (by simp) ?_;refine(AllReadyH.consL rfl (fun K hK=>?g1qb20x42) AllReadyH.nil)
          case' g1qb20x42=>
           go_simp;go_at_call 17;refine(same31_any d _ t t _ _ HVA.out (HVB.out.ext HXg1q_9.out)).mono ?_;rintro e w5 ⟨rfl,hEg1q10⟩;rw[sameT_self];have HXg1q_10:=hid (HXg1q_9.out.trans hEg1q10);have HCL:=hid (HCL.out.ext hEg1q10);have HCS:=hid (HCS.out.ext hEg1q10);have HBX:=hid (HBX.out.ext hEg1q10);have HVA:=hid (HVA.out.ext hEg1q10);clear hEg1q10;refine rgK hK (HSK.out _ HXg1q_10.out) (fun hSg1q10=>?_);clear hK K;refine rgT2 21 22 ?_;refine wpAnyH_ready (rs:=[23]) (by kernel_rfl) (by simp) ?_;refine(AllReadyH.consL rfl (fun K hK=>?g1qb23x45) AllReadyH.nil)
           case' g1qb23x45=>
            go_simp;go_at_call 7;refine(ex_any _).mono ?_;rintro e w5 ⟨rfl,hEg1q11⟩;have HXg1q_11:=hid (HXg1q_10.out.trans hEg1q11);have HCL:=hid (HCL.out.ext hEg1q11);have HCS:=hid (HCS.out.ext hEg1q11);have HBX:=hid (HBX.out.ext hEg1q11);have HVA:=hid (HVA.out.ext hEg1q11);clear hEg1q11;refine rgK hK (HSK.out _ HXg1q_11.out) (fun hSg1q11=>?_);clear hK K;refine rgT2 24 25 ?_;refine wpAnyH_done (by kernel_rfl) ?_ _
            go_wp2
            go_ret;exact⟨rfl,HE2.out.trans HXg1q_11.out⟩
end Go.Proofs.YtlmipgdnlfjpaaaGreat
