/- Merged by program from texts of my own. -/
import Derived.Test.YtlmipgdnlfjpaaaGreatSoBm
import Derived.Test.YtlmipgdnlfjpaaaGreatFatm
namespace Go.Proofs.YtlmipgdnlfjpaaaGreat
open Go.RowKit Go.Deco
set_option linter.unusedSimpArgs false
set_option linter.unusedVariables false
theorem newT {a w:World}(h:Ext a w):∃wA sz,w.alloc (.cells #[.int .i64 0,.int .i64 0,.int .i64 0,.slice none 0 0,.slice none 0 0] 42)=wA∧w.heap.size=sz∧Ext w wA∧a.heap.size≤sz∧Box5 wA sz (.int .i64 0) (.int .i64 0) (.int .i64 0) (.slice none 0 0) (.slice none 0 0)∧wA.heap.size=sz+1:=
 ⟨_,_,rfl,rfl,(Ext.refl w).alloc _,h.size,Box5.new w _ _ _ _ _ _,by simp⟩
theorem tyv_lt {d:Nat}{w:World}{S:Nat→Prop}{v:Value}{t:Ty}(h:TyV d w S v t):TyV d w (fun b=>S b∧b<w.heap.size) v t:=h.mono fun b hb hi=>⟨hb,hi.lt⟩
def TyB (d:Nat)(w:World)(a:Nat)(t:Ty):Prop:=∃A n c B m e,Box5 w a (.int .i64 t.kind) (.int .i64 t.size) (.int .i64 t.count) (.slice A n c) (.slice B m e)∧TyV d w All (.agg #[.int .i64 t.kind,.int .i64 t.size,.int .i64 t.count,.slice A n c,.slice B m e]) t
theorem TyB.ext {d:Nat}{w w':World}{a:Nat}{t:Ty}(h:TyB d w a t)(he:Ext w w'):TyB d w' a t:=by
 obtain⟨A,n,c,B,m,e,h1,h2⟩:=h;exact⟨A,n,c,B,m,e,h1.ext he,h2.ext he⟩
theorem box5_block {w w':World}{b:Nat}{v0 v1 v2 v3 v4:Value}(h:Box5 w b v0 v1 v2 v3 v4)(he:w'.heap[b]? =w.heap[b]?):Box5 w' b v0 v1 v2 v3 v4:=
 ⟨(World.cell?_of_block he).trans h.1,(World.cell?_of_block he).trans h.2.1,(World.cell?_of_block he).trans h.2.2.1,(World.cell?_of_block he).trans h.2.2.2.1,(World.cell?_of_block he).trans h.2.2.2.2.1,fun i=>(World.frozen?_of_block (a:=⟨b,i,none⟩) he).trans (h.2.2.2.2.2 i)⟩
theorem tyb_put {d:Nat}{w0 w:World}{a:Nat}{S:Nat→Prop}{t:Ty}{A B:Option Addr}{n c m e:Nat}{o0 o1 o2 o3 o4:Value}(hb:Box5 w a o0 o1 o2 o3 o4)(hv:TyV d w S (.agg #[.int .i64 t.kind,.int .i64 t.size,.int .i64 t.count,.slice A n c,.slice B m e]) t)(hS:∀b,S b→b≠a)(hx:Ext w0 w)(ha:w0.heap.size≤a):
  ∃W3,((((w.setCell ⟨a,0,none⟩ (.int .i64 t.kind)).setCell ⟨a,1,none⟩ (.int .i64 t.size)).setCell ⟨a,2,none⟩ (.int .i64 t.count)).setCell ⟨a,3,none⟩ (.slice A n c)).setCell ⟨a,4,none⟩ (.slice B m e)=W3∧TyB d W3 a t∧Ext w0 W3∧∀k,k≠a→W3.heap[k]? =w.heap[k]? :=by
 obtain⟨W3,hW3,hB3,hH3,hS3,hX3⟩:=box5_set hb (.int .i64 t.kind) (.int .i64 t.size) (.int .i64 t.count) (.slice A n c) (.slice B m e);exact⟨W3,hW3,⟨A,n,c,B,m,e,hB3,(hv.keep fun b h _=>hH3 b (hS b h)).all⟩,hX3 w0 hx ha,hH3⟩
theorem tyb_keep {d:Nat}{w w':World}{a:Nat}{S:Nat→Prop}{t:Ty}{A B:Option Addr}{n c m e:Nat}(hb:Box5 w a (.int .i64 t.kind) (.int .i64 t.size) (.int .i64 t.count) (.slice A n c) (.slice B m e))(hv:TyV d w S (.agg #[.int .i64 t.kind,.int .i64 t.size,.int .i64 t.count,.slice A n c,.slice B m e]) t)
  {g:Nat} (hk:∀k,k≠g→w'.heap[k]? =w.heap[k]?) (ha:a≠g) (hS:∀b,S b→b≠g):TyB d w' a t:=
 ⟨A,n,c,B,m,e,box5_block hb (hk a ha),(hv.keep fun b h _=>hk b (hS b h)).all⟩
theorem sat_no {ak:Int}{ae:List Ty}{F:Ty→Bool}:¬(ak=3∧∃x,ae=[x])→(match ak,ae with
  |3,[x]=>F x
  |_,_=>false)=false:=by
 intro h
 split <;> simp_all
set_option maxRecDepth 100000 in
set_option maxHeartbeats 16000000 in
theorem sat_any (d:Nat)(w:World)(A B:Option Addr)(n c m e:Nat)(ts:List Ty)(cc:Con)(vc:Value)(hs:Sl (tyR d) w All (.slice A n c) ts)(hb:∀t∈ts,bnT t=true)(hc:ConV d w All vc cc):
  Calls Tryz.prog 14 #[.agg #[.slice A n c,.slice B m e],vc] w (TBool w (satC ts cc)):=by
 have HC:=hid hc;obtain⟨A1,n1,c1,B1,m1,e1,rfl,hcb,hct⟩:=hc;obtain⟨W0,hW0⟩:∃W0,(w.alloc (.cells #[.slice A n c,.slice B m e] 28)).alloc (.cells #[.int .i64 cc.kind,.int .i64 cc.a,.int .i64 cc.b,.int .i64 cc.off,.int .i64 cc.width,.int .i64 cc.type.kind,.int .i64 cc.type.size,.int .i64 cc.type.count,.slice A1 n1 c1,.slice B1 m1 e1] 48)=W0:=⟨_,rfl⟩;have hE0:Ext w W0:=by rw[←hW0];exact((Ext.refl w).alloc _).alloc _
 have hP:Box2 W0 w.heap.size (.slice A n c) (.slice B m e):=by rw[←hW0];exact(Box2.new w _ _ _).ext ((Ext.refl _).alloc _)
 have hQ:Box10 W0 (w.heap.size+1) 0 cc A1 n1 c1 B1 m1 e1:=by
  rw[←hW0];have:=Box10.new (w.alloc (.cells #[.slice A n c,.slice B m e] 28)) cc A1 n1 c1 B1 m1 e1 48
  rwa [show(w.alloc (.cells #[.slice A n c,.slice B m e] 28)).heap.size=w.heap.size+1 by simp]at this
 have HE0:=hid hE0;have HQB:=hid hQ;obtain⟨p0,p1, -⟩:=hP;obtain⟨q0,q1,q2,q3,q4,q5,q6,q7,q8,q9⟩:=hQ;rw[Nat.zero_add]at q1 q2 q3 q4 q5 q6 q7 q8 q9;obtain⟨z,hz⟩:∃z,satC ts cc=z:=⟨_,rfl⟩;rw[hz];unfold satC at hz;have HT:=hid (hct.ext hE0);obtain⟨xa,hxa⟩:∃x,typeAt ts cc.a=x:=⟨_,rfl⟩;obtain⟨xb,hxb⟩:∃x,typeAt ts cc.b=x:=⟨_,rfl⟩;have HCA:=hid (fun w' (hw:Ext W0 w')=>typeof_any d w' A B n c m e ts cc.a (hs.ext (hE0.trans hw)) hb);have HCB:=hid (fun w' (hw:Ext W0 w')=>typeof_any d w' A B n c m e ts cc.b (hs.ext (hE0.trans hw)) hb);rw[hxa]at HCA hz;rw[hxb]at HCB hz;have HZ:=hid hz;have HOF:=hid hcb.2.2.2.1;have HSK:=hid (fun(w':World) (hx:Ext W0 w')=>(show w'.cell? ⟨w.heap.size,0,none⟩=some (.slice A n c)∧w'.cell? ⟨w.heap.size,1,none⟩=some (.slice B m e)∧w'.cell? ⟨w.heap.size+1,1,none⟩=some (.int .i64 cc.a)∧w'.cell? ⟨w.heap.size+1,2,none⟩=some (.int .i64 cc.b) from⟨hx.cell p0,hx.cell p1,hx.cell q1,hx.cell q2⟩));clear hE0 hs hb hct hcb hz hxa hxb;go_enter Tryz.func14,Tryz.ntmps14;go_upto_region 1 with fail
 go_cut [5,6] from 9 to 16 (fun s5 s6 wx=>∃(aP aQ:Nat),s5= .pointer (some ⟨aP,0,none⟩)∧s6= .pointer (some ⟨aQ,0,none⟩)∧Hid (Ext W0 wx)∧Hid (TyB d wx aP xa)∧Hid (TyB d wx aQ xb))
 case rest=>
  obtain⟨aP,aQ,rfl,rfl,HX,HTA,HTB⟩:=hcut;obtain⟨W1,hW1⟩:∃W1,W1=wc:=⟨_,rfl⟩;obtain rfl:=hW1;obtain⟨k,ca,cb',off,wd,ct⟩:=cc;simp only at p0 p1 q0 q1 q2 q3 q4 q5 q6 q7 q8 q9 HT HC HCA HCB HZ HOF HSK HQB;obtain⟨A5,n5,c5,B5,m5,e5,HBP,HVA⟩:=(⟨_,_,_,_,_,_,hid HTA.out.choose_spec.choose_spec.choose_spec.choose_spec.choose_spec.choose_spec.1,hid HTA.out.choose_spec.choose_spec.choose_spec.choose_spec.choose_spec.choose_spec.2⟩:∃A n c B m e,Hid (Box5 W1 aP (.int .i64 xa.kind) (.int .i64 xa.size) (.int .i64 xa.count) (.slice A n c) (.slice B m e))∧Hid (TyV d W1 All (.agg #[.int .i64 xa.kind,.int .i64 xa.size,.int .i64 xa.count,.slice A n c,.slice B m e]) xa));obtain⟨A6,n6,c6,B6,m6,e6,HBQ,HVB⟩:=(⟨_,_,_,_,_,_,hid HTB.out.choose_spec.choose_spec.choose_spec.choose_spec.choose_spec.choose_spec.1,hid HTB.out.choose_spec.choose_spec.choose_spec.choose_spec.choose_spec.choose_spec.2⟩:∃A n c B m e,Hid (Box5 W1 aQ (.int .i64 xb.kind) (.int .i64 xb.size) (.int .i64 xb.count) (.slice A n c) (.slice B m e))∧Hid (TyV d W1 All (.agg #[.int .i64 xb.kind,.int .i64 xb.size,.int .i64 xb.count,.slice A n c,.slice B m e]) xb));clear p0 p1 q1 q2 HSK HCA HCB hW0;have q0:=HX.out.cell q0;have q3:=HX.out.cell q3;have q4:=HX.out.cell q4;have q5:=HX.out.cell q5;have q6:=HX.out.cell q6;have q7:=HX.out.cell q7;have q8:=HX.out.cell q8;have q9:=HX.out.cell q9;obtain⟨a0,a1,a2,a3,a4, -⟩:=HBP.out;obtain⟨b0,b1,b2,b3,b4, -⟩:=HBQ.out;by_cases h0:k=0
  ·have g0:(k == 0)=true:=by simp[h0]
   have hz2:=HZ.out;rw[if_pos h0]at hz2;have HC1:=hid (subg_any d W1 xa xb _ _ HVA.out HVB.out);rw[hz2]at HC1;clear h0 hz2
   go_wp2_with fail
   refine HC1.out.mono ?_;rintro e w5 ⟨rfl,hx5⟩;have HX5:=hid (HX.out.trans hx5);clear hx5 a0 a1 a2 a3 a4 b0 b1 b2 b3 b4 q0 q3 q4 q5 q6 q7 q8 q9
   go_wp2
   go_ret;exact⟨rfl,HE0.out.trans HX5.out⟩
  have g0:(k == 0)=false:=by simp[h0]
  by_cases h1:k=1
  ·have g1:(k == 1)=true:=by simp[h1]
   have hz2:=HZ.out;rw[if_neg h0,if_pos h1]at hz2;have HC1:=hid (subg_any d W1 ct xa _ _ (HT.out.ext HX.out) HVA.out);rw[hz2]at HC1;clear h0 h1 hz2
   go_wp2_with fail
   refine HC1.out.mono ?_;rintro e w5 ⟨rfl,hx5⟩;have HX5:=hid (HX.out.trans hx5);clear hx5 a0 a1 a2 a3 a4 b0 b1 b2 b3 b4 q0 q3 q4 q5 q6 q7 q8 q9
   go_wp2
   go_ret;exact⟨rfl,HE0.out.trans HX5.out⟩
  have g1:(k == 1)=false:=by simp[h1]
  by_cases h4:k=4
  ·have g4:(k == 4)=true:=by simp[h4]
   obtain rfl:z=true:=by rw[←HZ.out,if_neg h0,if_neg h1,if_pos h4]
   clear h0 h1 h4
   go_wp2
   go_ret;exact⟨rfl,HE0.out.trans HX.out⟩
  have g4:(k == 4)=false:=by simp[h4]
  have HZ2:=hid HZ.out;rw[if_neg h0,if_neg h1,if_neg h4]at HZ2;by_cases h23:k=2∨k=3
  case neg=>
   have g2:(k == 2)=false:=by simp;omega
   have g3:(k == 3)=false:=by simp;omega
   obtain rfl:z=false:=by rw[←HZ2.out,if_neg h23]
   clear h0 h1 h4 h23
   go_wp2
   go_ret;exact⟨rfl,HE0.out.trans HX.out⟩
  rw[if_pos h23]at HZ2;clear h0 h1 h4;rcases h23 with rfl|rfl
  case inl=>
   simp only[show ¬((2:Int)=3) by omega,or_false,if_true]at HZ2;obtain⟨ak,hak⟩:∃k,xa.kind=k:=⟨_,rfl⟩;obtain⟨ae,hae⟩:∃e,xa.elem=e:=⟨_,rfl⟩;rw[hak,hae]at HZ2;rw[hak]at a0
   have hel:Sl (tyR d) W1 All (.slice A5 n5 c5) ae:=by
    obtain⟨_,_,_,_,_,_,hv,h,_⟩:=HVA.out;injection hv with hv
    have:=congrArg Array.toList hv;simp at this;obtain⟨⟨rfl,rfl,rfl⟩, -⟩:=this
    rwa [hae]at h
   clear hak hae;have hln:=hel.len;obtain⟨he1,he2⟩:=hel.cap;have HEL:=hid hel;have HLN:=hid hln;clear hel hln HVA HTA HTB HBP;by_cases h6:ak=6
   ·have g6:(ak == 6)=true:=by simp[h6]
    obtain rfl:z=true:=by rw[←HZ2.out,if_pos h6]
    clear h6
    go_wp2
    go_ret;exact⟨rfl,HE0.out.trans HX.out⟩
   have g6:(ak == 6)=false:=by simp[h6]
   rw[if_neg h6]at HZ2;by_cases h3:ak=3
   case neg=>
    have g3:(ak != 3)=true:=by simp[h3]
    obtain rfl:z=false:=by rw[←HZ2.out];exact sat_no (fun h=>h3 h.1)
    clear h6 h3
    go_wp2
    go_ret;exact⟨rfl,HE0.out.trans HX.out⟩
   subst h3;by_cases h5:n5=1
   case neg=>
    have g5:((n5:Int) != 1)=true:=by simp;omega
    obtain rfl:z=false:=by rw[←HZ2.out];exact sat_no (fun h=>by obtain⟨x,hx⟩:=h.2;have:=HLN.out;rw[hx]at this;simp at this;exact h5 this)
    clear h6 h5
    go_wp2
    go_ret;exact⟨rfl,HE0.out.trans HX.out⟩
   subst h5
   obtain⟨x,rfl⟩:∃x,ae=[x]:=by
    have:=HLN.out
    match ae,this with
    |[x],_=>exact⟨x,rfl⟩
   simp only at HZ2;obtain⟨d1,bx,ox,P1,np1,cp1,P2,np2,cp2,hd,rfl,hv1,x0,x1,x2,x3,x4⟩:=HEL.out.ty_at (k:=0) rfl;rw[Nat.zero_mul,Nat.add_zero]at x0 x1 x2 x3 x4;subst hd;obtain⟨fo,hfo⟩:∃fo,fieldT x off wd=fo:=⟨_,rfl⟩;rw[hfo]at HZ2;have HFC:=hid (fun w' (hw:Ext W1 w')=>fieldat_any d1 w' x _ off wd (hv1.ext hw) HOF.out);rw[hfo]at HFC;have HSK:=hid (fun(w':World) (hx:Ext W1 w')=>(show w'.cell? ⟨aP,3,none⟩=some (.slice (some ⟨bx,ox,none⟩) 1 c5)∧w'.cell? ⟨bx,ox,none⟩=some (.int .i64 x.kind)∧w'.cell? ⟨bx,ox+1,none⟩=some (.int .i64 x.size)∧w'.cell? ⟨bx,ox+2,none⟩=some (.int .i64 x.count)∧w'.cell? ⟨bx,ox+3,none⟩=some (.slice P1 np1 cp1)∧w'.cell? ⟨bx,ox+4,none⟩=some (.slice P2 np2 cp2)∧w'.cell? ⟨w.heap.size+1,3,none⟩=some (.int .i64 off)∧w'.cell? ⟨w.heap.size+1,4,none⟩=some (.int .i64 wd) from⟨hx.cell a3,hx.cell x0,hx.cell x1,hx.cell x2,hx.cell x3,hx.cell x4,hx.cell q3,hx.cell q4⟩));clear h6 hfo hv1;go_upto_region 16 with fail
   go_cut [7,8] from 47 to 58 (fun s7 s8 wx=>∃(aF:Nat) (bf:Bool) (fx:Ty),s7= .pointer (some ⟨aF,0,none⟩)∧s8= .bool bf∧Hid (Ext W1 wx)∧Hid (TyB d1 wx aF fx)∧Hid ((bf=true∧fo=some fx)∨(bf=false∧fo=none)))
   case rest=>
    obtain⟨aF,bf,fx,rfl,rfl,HX3,HTF,HFO⟩:=hcut;obtain⟨W4,hW4⟩:∃W4,W4=wc:=⟨_,rfl⟩;obtain rfl:=hW4;have HX4:=hid HX3.out;obtain⟨A7,n7,c7,B7,m7,e7,HBF,HVF⟩:=(⟨_,_,_,_,_,_,hid HTF.out.choose_spec.choose_spec.choose_spec.choose_spec.choose_spec.choose_spec.1,hid HTF.out.choose_spec.choose_spec.choose_spec.choose_spec.choose_spec.choose_spec.2⟩:∃A n c B m e,Hid (Box5 W4 aF (.int .i64 fx.kind) (.int .i64 fx.size) (.int .i64 fx.count) (.slice A n c) (.slice B m e))∧Hid (TyV d1 W4 All (.agg #[.int .i64 fx.kind,.int .i64 fx.size,.int .i64 fx.count,.slice A n c,.slice B m e]) fx));have HSK4:=hid (HX4.out.cell q4);have q0:=HX4.out.cell q0;clear a0 a1 a2 a3 a4 x0 x1 x2 x3 x4 q3 q4 q5 q6 q7 q8 q9 HTF HX3 HSK HFC;have q4:=HSK4.out
    cases bf with
    | false=>
     obtain rfl:z=false:=by
      rcases HFO.out with⟨h,_⟩|⟨_,h⟩
      ·cases h
      ·rw[←HZ2.out,h]
     clear b0 b1 b2 b3 b4
     go_wp2
     go_ret;exact⟨rfl,HE0.out.trans (HX.out.trans HX4.out)⟩
    | true=>
     obtain rfl:fo=some fx:=by
      rcases HFO.out with⟨_,h⟩|⟨h,_⟩
      ·exact h
      ·cases h
     simp only at HZ2;by_cases h8:wd=4
     case neg=>
      have g8:(wd != 4)=true:=by simp[h8]
      obtain rfl:z=true:=by rw[←HZ2.out,if_pos h8]
      clear h8 b0 b1 b2 b3 b4
      go_wp2
      go_ret;exact⟨rfl,HE0.out.trans (HX.out.trans HX4.out)⟩
     have g8:(wd != 4)=false:=by simp[h8]
     rw[if_neg (by simp[h8])]at HZ2;have HC1:=hid (subg_any (d1+1) W4 fx xb _ _ (HVF.out.up (Nat.le_succ _)) ((HVB.out.ext HX4.out)));rw[HZ2.out]at HC1;obtain⟨y0,y1,y2,y3,y4, -⟩:=HBF.out;have b0:=HX4.out.cell b0;have b1:=HX4.out.cell b1;have b2:=HX4.out.cell b2;have b3:=HX4.out.cell b3;have b4:=HX4.out.cell b4;clear h8
     go_wp2_with fail
     refine HC1.out.mono ?_;rintro e w5 ⟨rfl,hx5⟩;have HX5:=hid (HX.out.trans (HX4.out.trans hx5));clear hx5 b0 b1 b2 b3 b4 q0 q4 y0 y1 y2 y3 y4
     go_wp2
     go_ret;exact⟨rfl,HE0.out.trans HX5.out⟩
   have HXg1q_0:=hid ((Ext.refl W1).drew);refine wp_region_split 14 (by kernel_rfl) rfl rfl (by kernel_rfl) (fun w'=>w'.cell? ⟨aP,3,none⟩=some (.slice (some ⟨bx,ox,none⟩) 1 c5)∧w'.cell? ⟨bx,ox,none⟩=some (.int .i64 x.kind)∧w'.cell? ⟨bx,ox+1,none⟩=some (.int .i64 x.size)∧w'.cell? ⟨bx,ox+2,none⟩=some (.int .i64 x.count)∧w'.cell? ⟨bx,ox+3,none⟩=some (.slice P1 np1 cp1)∧w'.cell? ⟨bx,ox+4,none⟩=some (.slice P2 np2 cp2)∧w'.cell? ⟨w.heap.size+1,3,none⟩=some (.int .i64 off)∧w'.cell? ⟨w.heap.size+1,4,none⟩=some (.int .i64 wd)) ⟨a3,x0,x1,x2,x3,x4,q3,q4⟩ (fun hSg1q0=>?_);refine rgT6 0 1 2 3 4 5 ?_;refine rgT2 6 7 ?_;refine wpAnyH_ready (rs:=[8,12]) (by kernel_rfl) (by simp) ?_;refine(AllReadyH.consL rfl (fun K hK=>?g1qb8x9) (AllReadyH.consL rfl (fun K hK=>?g1qb12x9) AllReadyH.nil))
   case' g1qb8x9=>
    go_simp;go_at_call 40;refine(HFC.out _ HXg1q_0.out).mono ?_;rintro e w5 ⟨v5,bf,fx,rfl,hv5,hEg1q1,hfo⟩;have HSA:=hid (hEg1q1).size;have HVF:=hid (tyv_lt hv5);have HFO:=hid hfo;obtain⟨A5',n5',c5',B5',m5',e5',rfl, -⟩:=hv5;clear hfo;have HXg1q_1:=hid (HXg1q_0.out.trans hEg1q1);clear hEg1q1;refine rgK hK (HSK.out _ HXg1q_1.out) (fun hSg1q1=>?_);clear hK K;refine rgT3 9 10 11 ?_;refine wpAnyH_ready (rs:=[12]) (by kernel_rfl) (by simp) ?_;refine(AllReadyH.consL rfl (fun K hK=>?g1qb12x13) AllReadyH.nil)
    case' g1qb12x13=>
     go_simp;obtain⟨wP,aF,hA1,hsz,hEg1q2,hge,hob,hss⟩:=newT HXg1q_1.out;refine Eq.mpr (congrArg (K _) hA1) ?_
     first|rw[hsz]|(have hq:W1.heap.size=aF:=hsz;rw[hq];clear hq)|skip
     have HBP:=hid hob;have HGP:=hid hge;have HSP:=hid (And.intro hsz hss);clear hA1 hsz hge hob hss;have HXg1q_2:=hid (HXg1q_1.out.trans hEg1q2);have HVF:=hid (HVF.out.ext hEg1q2);clear hEg1q2;refine rgK hK (HSK.out _ HXg1q_2.out) (fun hSg1q2=>?_);clear hK K;refine wpAnyH_ready (rs:=[13]) (by kernel_rfl) (by simp) ?_;refine(AllReadyH.consL rfl (fun K hK=>?g1qb13x14) AllReadyH.nil)
     case' g1qb13x14=>
      have hvf:=HVF.out;obtain⟨W3,hW3,hB3,hE3,hH3⟩:=tyb_put (w0:=W1) HBP.out hvf (fun b hb=>by have hb':=hb;have:=HSA.out;have:=HSP.out;omega) HXg1q_2.out HGP.out;have HTB:=hid hB3;have HE3:=hid hE3;have HW3:=hid hW3;obtain⟨z0,z1,z2,z3,z4,zf⟩:=HBP.out;have f0:=zf 0;have f1:=zf 1;have f2:=zf 2;have f3:=zf 3;have f4:=zf 4;clear hvf hB3 hE3 hH3 hW3 zf HVF HBP;go_simp;rw[HW3.out];clear z0 z1 z2 z3 z4 f0 f1 f2 f3 f4;refine rgK hK (HSK.out _ HE3.out) (fun hSg1q3=>?_);clear hK K;refine wpAnyH_done (by kernel_rfl) ?_ _;change wpList _ _ _ _ _ _
      go_wp2
      go_meet;exact⟨aF,bf,fx,rfl,rfl,HE3,HTB,HFO⟩
   case' g1qb12x9=>
    go_simp;obtain⟨wP,aF,hA1,hsz,hEg1q1,hge,hob,hss⟩:=newT HXg1q_0.out;refine Eq.mpr (congrArg (K _) hA1) ?_
    first|rw[hsz]|(have hq:W1.heap.size=aF:=hsz;rw[hq];clear hq)|skip
    have HBP:=hid hob;have HGP:=hid hge;have HSP:=hid (And.intro hsz hss);clear hA1 hsz hge hob hss;have HXg1q_1:=hid (HXg1q_0.out.trans hEg1q1);clear hEg1q1;refine rgK hK (HSK.out _ HXg1q_1.out) (fun hSg1q1=>?_);clear hK K;refine wpAnyH_ready (rs:=[8]) (by kernel_rfl) (by simp) ?_;refine(AllReadyH.consL rfl (fun K hK=>?g1qb8x15) AllReadyH.nil)
    case' g1qb8x15=>
     go_simp;go_at_call 40;refine(HFC.out _ HXg1q_1.out).mono ?_;rintro e w5 ⟨v5,bf,fx,rfl,hv5,hEg1q2,hfo⟩;have HSA:=hid (hEg1q2).size;have HVF:=hid (tyv_lt hv5);have HFO:=hid hfo;obtain⟨A5',n5',c5',B5',m5',e5',rfl, -⟩:=hv5;clear hfo;have HXg1q_2:=hid (HXg1q_1.out.trans hEg1q2);have HBP:=hid (HBP.out.ext hEg1q2);clear hEg1q2;refine rgK hK (HSK.out _ HXg1q_2.out) (fun hSg1q2=>?_);clear hK K;refine rgT3 9 10 11 ?_;refine wpAnyH_ready (rs:=[13]) (by kernel_rfl) (by simp) ?_;refine(AllReadyH.consL rfl (fun K hK=>?g1qb13x19) AllReadyH.nil)
     case' g1qb13x19=>
      have hvf:=HVF.out;obtain⟨W3,hW3,hB3,hE3,hH3⟩:=tyb_put (w0:=W1) HBP.out hvf (fun b hb=>by have hb':=hb;have:=HSA.out;have:=HSP.out;omega) HXg1q_2.out HGP.out;have HTB:=hid hB3;have HE3:=hid hE3;have HW3:=hid hW3;obtain⟨z0,z1,z2,z3,z4,zf⟩:=HBP.out;have f0:=zf 0;have f1:=zf 1;have f2:=zf 2;have f3:=zf 3;have f4:=zf 4;clear hvf hB3 hE3 hH3 hW3 zf HVF HBP;go_simp;rw[HW3.out];clear z0 z1 z2 z3 z4 f0 f1 f2 f3 f4;refine rgK hK (HSK.out _ HE3.out) (fun hSg1q3=>?_);clear hK K;refine wpAnyH_done (by kernel_rfl) ?_ _;change wpList _ _ _ _ _ _
      go_wp2
      go_meet;exact⟨aF,bf,fx,rfl,rfl,HE3,HTB,HFO⟩
  case inr=>
   simp only[show ¬((3:Int)=2) by omega,or_true,if_true,if_false]at HZ2;obtain⟨ak,hak⟩:∃k,xa.kind=k:=⟨_,rfl⟩;obtain⟨ae,hae⟩:∃e,xa.elem=e:=⟨_,rfl⟩;rw[hak,hae]at HZ2;rw[hak]at a0
   have hel:Sl (tyR d) W1 All (.slice A5 n5 c5) ae:=by
    obtain⟨_,_,_,_,_,_,hv,h,_⟩:=HVA.out;injection hv with hv
    have:=congrArg Array.toList hv;simp at this;obtain⟨⟨rfl,rfl,rfl⟩, -⟩:=this
    rwa [hae]at h
   clear hak hae;have hln:=hel.len;obtain⟨he1,he2⟩:=hel.cap;have HEL:=hid hel;have HLN:=hid hln;clear hel hln HVA HTA HTB HBP;by_cases h6:ak=6
   ·have g6:(ak == 6)=true:=by simp[h6]
    obtain rfl:z=true:=by rw[←HZ2.out,if_pos h6]
    clear h6
    go_wp2
    go_ret;exact⟨rfl,HE0.out.trans HX.out⟩
   have g6:(ak == 6)=false:=by simp[h6]
   rw[if_neg h6]at HZ2;by_cases h3:ak=3
   case neg=>
    have g3:(ak != 3)=true:=by simp[h3]
    obtain rfl:z=false:=by rw[←HZ2.out];exact sat_no (fun h=>h3 h.1)
    clear h6 h3
    go_wp2
    go_ret;exact⟨rfl,HE0.out.trans HX.out⟩
   subst h3;by_cases h5:n5=1
   case neg=>
    have g5:((n5:Int) != 1)=true:=by simp;omega
    obtain rfl:z=false:=by rw[←HZ2.out];exact sat_no (fun h=>by obtain⟨x,hx⟩:=h.2;have:=HLN.out;rw[hx]at this;simp at this;exact h5 this)
    clear h6 h5
    go_wp2
    go_ret;exact⟨rfl,HE0.out.trans HX.out⟩
   subst h5
   obtain⟨x,rfl⟩:∃x,ae=[x]:=by
    have:=HLN.out
    match ae,this with
    |[x],_=>exact⟨x,rfl⟩
   simp only at HZ2;obtain⟨d1,bx,ox,P1,np1,cp1,P2,np2,cp2,hd,rfl,hv1,x0,x1,x2,x3,x4⟩:=HEL.out.ty_at (k:=0) rfl;rw[Nat.zero_mul,Nat.add_zero]at x0 x1 x2 x3 x4;subst hd;obtain⟨fo,hfo⟩:∃fo,fieldT x off wd=fo:=⟨_,rfl⟩;rw[hfo]at HZ2;have HFC:=hid (fun w' (hw:Ext W1 w')=>fieldat_any d1 w' x _ off wd (hv1.ext hw) HOF.out);rw[hfo]at HFC;have HSK:=hid (fun(w':World) (hx:Ext W1 w')=>(show w'.cell? ⟨aP,3,none⟩=some (.slice (some ⟨bx,ox,none⟩) 1 c5)∧w'.cell? ⟨bx,ox,none⟩=some (.int .i64 x.kind)∧w'.cell? ⟨bx,ox+1,none⟩=some (.int .i64 x.size)∧w'.cell? ⟨bx,ox+2,none⟩=some (.int .i64 x.count)∧w'.cell? ⟨bx,ox+3,none⟩=some (.slice P1 np1 cp1)∧w'.cell? ⟨bx,ox+4,none⟩=some (.slice P2 np2 cp2)∧w'.cell? ⟨w.heap.size+1,3,none⟩=some (.int .i64 off)∧w'.cell? ⟨w.heap.size+1,4,none⟩=some (.int .i64 wd) from⟨hx.cell a3,hx.cell x0,hx.cell x1,hx.cell x2,hx.cell x3,hx.cell x4,hx.cell q3,hx.cell q4⟩));clear h6 hfo hv1;go_upto_region 16 with fail
   go_cut [7,8] from 47 to 58 (fun s7 s8 wx=>∃(aF:Nat) (bf:Bool) (fx:Ty),s7= .pointer (some ⟨aF,0,none⟩)∧s8= .bool bf∧Hid (Ext W1 wx)∧Hid (TyB d1 wx aF fx)∧Hid ((bf=true∧fo=some fx)∨(bf=false∧fo=none)))
   case rest=>
    obtain⟨aF,bf,fx,rfl,rfl,HX3,HTF,HFO⟩:=hcut;obtain⟨W4,hW4⟩:∃W4,W4=wc:=⟨_,rfl⟩;obtain rfl:=hW4;have HX4:=hid HX3.out;obtain⟨A7,n7,c7,B7,m7,e7,HBF,HVF⟩:=(⟨_,_,_,_,_,_,hid HTF.out.choose_spec.choose_spec.choose_spec.choose_spec.choose_spec.choose_spec.1,hid HTF.out.choose_spec.choose_spec.choose_spec.choose_spec.choose_spec.choose_spec.2⟩:∃A n c B m e,Hid (Box5 W4 aF (.int .i64 fx.kind) (.int .i64 fx.size) (.int .i64 fx.count) (.slice A n c) (.slice B m e))∧Hid (TyV d1 W4 All (.agg #[.int .i64 fx.kind,.int .i64 fx.size,.int .i64 fx.count,.slice A n c,.slice B m e]) fx));have HSK4:=hid (HX4.out.cell q4);have q0:=HX4.out.cell q0;clear a0 a1 a2 a3 a4 x0 x1 x2 x3 x4 q3 q4 q5 q6 q7 q8 q9 HTF HX3 HSK HFC;have q4:=HSK4.out
    cases bf with
    | false=>
     obtain rfl:z=false:=by
      rcases HFO.out with⟨h,_⟩|⟨_,h⟩
      ·cases h
      ·rw[←HZ2.out,h]
     clear b0 b1 b2 b3 b4
     go_wp2
     go_ret;exact⟨rfl,HE0.out.trans (HX.out.trans HX4.out)⟩
    | true=>
     obtain rfl:fo=some fx:=by
      rcases HFO.out with⟨_,h⟩|⟨h,_⟩
      ·exact h
      ·cases h
     simp only at HZ2;by_cases h8:wd=4
     case neg=>
      have g8:(wd != 4)=true:=by simp[h8]
      obtain rfl:z=true:=by rw[←HZ2.out,if_pos h8]
      clear h8 b0 b1 b2 b3 b4
      go_wp2
      go_ret;exact⟨rfl,HE0.out.trans (HX.out.trans HX4.out)⟩
     have g8:(wd != 4)=false:=by simp[h8]
     rw[if_neg (by simp[h8])]at HZ2;have HC1:=hid (subg_any (d1+1) W4 xb fx _ _ ((HVB.out.ext HX4.out)) (HVF.out.up (Nat.le_succ _)));rw[HZ2.out]at HC1;obtain⟨y0,y1,y2,y3,y4, -⟩:=HBF.out;have b0:=HX4.out.cell b0;have b1:=HX4.out.cell b1;have b2:=HX4.out.cell b2;have b3:=HX4.out.cell b3;have b4:=HX4.out.cell b4;clear h8
     go_wp2_with fail
     refine HC1.out.mono ?_;rintro e w5 ⟨rfl,hx5⟩;have HX5:=hid (HX.out.trans (HX4.out.trans hx5));clear hx5 b0 b1 b2 b3 b4 q0 q4 y0 y1 y2 y3 y4
     go_wp2
     go_ret;exact⟨rfl,HE0.out.trans HX5.out⟩
   have HXg2q_0:=hid ((Ext.refl W1).drew);refine wp_region_split 14 (by kernel_rfl) rfl rfl (by kernel_rfl) (fun w'=>w'.cell? ⟨aP,3,none⟩=some (.slice (some ⟨bx,ox,none⟩) 1 c5)∧w'.cell? ⟨bx,ox,none⟩=some (.int .i64 x.kind)∧w'.cell? ⟨bx,ox+1,none⟩=some (.int .i64 x.size)∧w'.cell? ⟨bx,ox+2,none⟩=some (.int .i64 x.count)∧w'.cell? ⟨bx,ox+3,none⟩=some (.slice P1 np1 cp1)∧w'.cell? ⟨bx,ox+4,none⟩=some (.slice P2 np2 cp2)∧w'.cell? ⟨w.heap.size+1,3,none⟩=some (.int .i64 off)∧w'.cell? ⟨w.heap.size+1,4,none⟩=some (.int .i64 wd)) ⟨a3,x0,x1,x2,x3,x4,q3,q4⟩ (fun hSg2q0=>?_);refine rgT6 0 1 2 3 4 5 ?_;refine rgT2 6 7 ?_;refine wpAnyH_ready (rs:=[8,12]) (by kernel_rfl) (by simp) ?_;refine(AllReadyH.consL rfl (fun K hK=>?g2qb8x9) (AllReadyH.consL rfl (fun K hK=>?g2qb12x9) AllReadyH.nil))
   case' g2qb8x9=>
    go_simp;go_at_call 40;refine(HFC.out _ HXg2q_0.out).mono ?_;rintro e w5 ⟨v5,bf,fx,rfl,hv5,hEg2q1,hfo⟩;have HSA:=hid (hEg2q1).size;have HVF:=hid (tyv_lt hv5);have HFO:=hid hfo;obtain⟨A5',n5',c5',B5',m5',e5',rfl, -⟩:=hv5;clear hfo;have HXg2q_1:=hid (HXg2q_0.out.trans hEg2q1);clear hEg2q1;refine rgK hK (HSK.out _ HXg2q_1.out) (fun hSg2q1=>?_);clear hK K;refine rgT3 9 10 11 ?_;refine wpAnyH_ready (rs:=[12]) (by kernel_rfl) (by simp) ?_;refine(AllReadyH.consL rfl (fun K hK=>?g2qb12x13) AllReadyH.nil)
    case' g2qb12x13=>
     go_simp;obtain⟨wP,aF,hA1,hsz,hEg2q2,hge,hob,hss⟩:=newT HXg2q_1.out;refine Eq.mpr (congrArg (K _) hA1) ?_
     first|rw[hsz]|(have hq:W1.heap.size=aF:=hsz;rw[hq];clear hq)|skip
     have HBP:=hid hob;have HGP:=hid hge;have HSP:=hid (And.intro hsz hss);clear hA1 hsz hge hob hss;have HXg2q_2:=hid (HXg2q_1.out.trans hEg2q2);have HVF:=hid (HVF.out.ext hEg2q2);clear hEg2q2;refine rgK hK (HSK.out _ HXg2q_2.out) (fun hSg2q2=>?_);clear hK K;refine wpAnyH_ready (rs:=[13]) (by kernel_rfl) (by simp) ?_;refine(AllReadyH.consL rfl (fun K hK=>?g2qb13x14) AllReadyH.nil)
     case' g2qb13x14=>
      have hvf:=HVF.out;obtain⟨W3,hW3,hB3,hE3,hH3⟩:=tyb_put (w0:=W1) HBP.out hvf (fun b hb=>by have hb':=hb;have:=HSA.out;have:=HSP.out;omega) HXg2q_2.out HGP.out;have HTB:=hid hB3;have HE3:=hid hE3;have HW3:=hid hW3;obtain⟨z0,z1,z2,z3,z4,zf⟩:=HBP.out;have f0:=zf 0;have f1:=zf 1;have f2:=zf 2;have f3:=zf 3;have f4:=zf 4;clear hvf hB3 hE3 hH3 hW3 zf HVF HBP;go_simp;rw[HW3.out];clear z0 z1 z2 z3 z4 f0 f1 f2 f3 f4;refine rgK hK (HSK.out _ HE3.out) (fun hSg2q3=>?_);clear hK K;refine wpAnyH_done (by kernel_rfl) ?_ _;change wpList _ _ _ _ _ _
      go_wp2
      go_meet;exact⟨aF,bf,fx,rfl,rfl,HE3,HTB,HFO⟩
   case' g2qb12x9=>
    go_simp;obtain⟨wP,aF,hA1,hsz,hEg2q1,hge,hob,hss⟩:=newT HXg2q_0.out;refine Eq.mpr (congrArg (K _) hA1) ?_
    first|rw[hsz]|(have hq:W1.heap.size=aF:=hsz;rw[hq];clear hq)|skip
    have HBP:=hid hob;have HGP:=hid hge;have HSP:=hid (And.intro hsz hss);clear hA1 hsz hge hob hss;have HXg2q_1:=hid (HXg2q_0.out.trans hEg2q1);clear hEg2q1;refine rgK hK (HSK.out _ HXg2q_1.out) (fun hSg2q1=>?_);clear hK K;refine wpAnyH_ready (rs:=[8]) (by kernel_rfl) (by simp) ?_;refine(AllReadyH.consL rfl (fun K hK=>?g2qb8x15) AllReadyH.nil)
    case' g2qb8x15=>
     go_simp;go_at_call 40;refine(HFC.out _ HXg2q_1.out).mono ?_;rintro e w5 ⟨v5,bf,fx,rfl,hv5,hEg2q2,hfo⟩;have HSA:=hid (hEg2q2).size;have HVF:=hid (tyv_lt hv5);have HFO:=hid hfo;obtain⟨A5',n5',c5',B5',m5',e5',rfl, -⟩:=hv5;clear hfo;have HXg2q_2:=hid (HXg2q_1.out.trans hEg2q2);have HBP:=hid (HBP.out.ext hEg2q2);clear hEg2q2;refine rgK hK (HSK.out _ HXg2q_2.out) (fun hSg2q2=>?_);clear hK K;refine rgT3 9 10 11 ?_;refine wpAnyH_ready (rs:=[13]) (by kernel_rfl) (by simp) ?_;refine(AllReadyH.consL rfl (fun K hK=>?g2qb13x19) AllReadyH.nil)
     case' g2qb13x19=>
      have hvf:=HVF.out;obtain⟨W3,hW3,hB3,hE3,hH3⟩:=tyb_put (w0:=W1) HBP.out hvf (fun b hb=>by have hb':=hb;have:=HSA.out;have:=HSP.out;omega) HXg2q_2.out HGP.out;have HTB:=hid hB3;have HE3:=hid hE3;have HW3:=hid hW3;obtain⟨z0,z1,z2,z3,z4,zf⟩:=HBP.out;have f0:=zf 0;have f1:=zf 1;have f2:=zf 2;have f3:=zf 3;have f4:=zf 4;clear hvf hB3 hE3 hH3 hW3 zf HVF HBP;go_simp;rw[HW3.out];clear z0 z1 z2 z3 z4 f0 f1 f2 f3 f4;refine rgK hK (HSK.out _ HE3.out) (fun hSg2q3=>?_);clear hK K;refine wpAnyH_done (by kernel_rfl) ?_ _;change wpList _ _ _ _ _ _
      go_wp2
      go_meet;exact⟨aF,bf,fx,rfl,rfl,HE3,HTB,HFO⟩
 have HXg3q_0:=hid ((Ext.refl W0).drew);refine wp_region_split2 10 (by kernel_rfl) rfl rfl rfl (by kernel_rfl) (by kernel_rfl) (fun w'=>w'.cell? ⟨w.heap.size,0,none⟩=some (.slice A n c)∧w'.cell? ⟨w.heap.size,1,none⟩=some (.slice B m e)∧w'.cell? ⟨w.heap.size+1,1,none⟩=some (.int .i64 cc.a)∧w'.cell? ⟨w.heap.size+1,2,none⟩=some (.int .i64 cc.b)) ⟨p0,p1,q1,q2⟩ (fun hSg3q0=>?_);refine rgT6 0 1 2 4 5 6 ?_;refine wpAnyH_ready (rs:=[3,8,9]) (by kernel_rfl) (by simp) ?_;refine(AllReadyH.consL rfl (fun K hK=>?g3qb3x7) (AllReadyH.consL rfl (fun K hK=>?g3qb8x7) (AllReadyH.consL rfl (fun K hK=>?g3qb9x7) AllReadyH.nil)))
 case' g3qb3x7=>
  go_simp;go_at_call 18;refine(HCA.out _ HXg3q_0.out).mono ?_;rintro e w5 ⟨v5,rfl,hv5,hEg3q1⟩;have HSA:=hid (hEg3q1).size;have HVA:=hid (tyv_lt hv5);obtain⟨A5,n5,c5,B5,m5,e5,rfl, -⟩:=hv5;have HXg3q_1:=hid (HXg3q_0.out.trans hEg3q1);clear hEg3q1;refine rgK hK (HSK.out _ HXg3q_1.out) (fun hSg3q1=>?_);clear hK K;refine wpAnyH_ready (rs:=[7,8,9]) (by kernel_rfl) (by simp) ?_;refine(AllReadyH.consL rfl (fun K hK=>?g3qb7x8) (AllReadyH.consL rfl (fun K hK=>?g3qb8x8) (AllReadyH.consL rfl (fun K hK=>?g3qb9x8) AllReadyH.nil)))
  case' g3qb7x8=>
   go_simp;go_at_call 18;refine(HCB.out _ HXg3q_1.out).mono ?_;rintro e w6 ⟨v6,rfl,hv6,hEg3q2⟩;have HSB:=hid (hEg3q2).size;have HVB:=hid (tyv_lt hv6);obtain⟨A6,n6,c6,B6,m6,e6,rfl, -⟩:=hv6;have HXg3q_2:=hid (HXg3q_1.out.trans hEg3q2);have HVA:=hid (HVA.out.ext hEg3q2);clear hEg3q2;refine rgK hK (HSK.out _ HXg3q_2.out) (fun hSg3q2=>?_);clear hK K;refine wpAnyH_ready (rs:=[8,9]) (by kernel_rfl) (by simp) ?_;refine(AllReadyH.consL rfl (fun K hK=>?g3qb8x9) (AllReadyH.consL rfl (fun K hK=>?g3qb9x9) AllReadyH.nil))
   case' g3qb8x9=>
    go_simp;obtain⟨wP,aP,hA1,hsz,hEg3q3,hge,hob,hss⟩:=newT HXg3q_2.out;refine Eq.mpr (congrArg (K _) hA1) ?_
    first|rw[hsz]|(have hq:W0.heap.size=aP:=hsz;rw[hq];clear hq)|skip
    have HBP:=hid hob;have HGP:=hid hge;have HSP:=hid (And.intro hsz hss);clear hA1 hsz hge hob hss;have HXg3q_3:=hid (HXg3q_2.out.trans hEg3q3);have HVA:=hid (HVA.out.ext hEg3q3);have HVB:=hid (HVB.out.ext hEg3q3);clear hEg3q3;refine rgK hK (HSK.out _ HXg3q_3.out) (fun hSg3q3=>?_);clear hK K;refine wpAnyH_ready (rs:=[9]) (by kernel_rfl) (by simp) ?_;refine(AllReadyH.consL rfl (fun K hK=>?g3qb9x10) AllReadyH.nil)
    case' g3qb9x10=>
     go_simp;obtain⟨wQ,aQ,hA1,hsz,hEg3q4,hge,hob,hss⟩:=newT HXg3q_3.out;refine Eq.mpr (congrArg (K _) hA1) ?_
     first|rw[hsz]|(have hq:W0.heap.size=aQ:=hsz;rw[hq];clear hq)|skip
     have HBQ:=hid hob;have HGQ:=hid hge;have HSQ:=hid (And.intro hsz hss);clear hA1 hsz hge hob hss;have HXg3q_4:=hid (HXg3q_3.out.trans hEg3q4);have HVA:=hid (HVA.out.ext hEg3q4);have HVB:=hid (HVB.out.ext hEg3q4);have HBP:=hid (HBP.out.ext hEg3q4);clear hEg3q4;refine rgK hK (HSK.out _ HXg3q_4.out) (fun hSg3q4=>?_);clear hK K;have HXend:=HXg3q_4;refine wpAnyH_done (by kernel_rfl) ?_ _;change wpList _ _ _ _ _ _;have hva:=HVA.out;have hvb:=HVB.out;obtain⟨W3,hW3,hB3,hH3,hS3,hX3⟩:=box5_set HBP.out (.int .i64 xa.kind) (.int .i64 xa.size) (.int .i64 xa.count) (.slice A5 n5 c5) (.slice B5 m5 e5);have hne:aP≠aQ:=by have:=HSA.out;have:=HSB.out;have:=HSP.out;have:=HSQ.out;omega
     have hva3:=hva.keep (w':=W3) fun b hb _=>hH3 b (by have hb':=hb;have:=HSA.out;have:=HSB.out;have:=HSP.out;have:=HSQ.out;omega);have hvb3:=hvb.keep (w':=W3) fun b hb _=>hH3 b (by have hb':=hb;have:=HSA.out;have:=HSB.out;have:=HSP.out;have:=HSQ.out;omega);have hbq3:=box5_block HBQ.out (hH3 aQ (fun e=>hne e.symm));obtain⟨W4,hW4,hB4,hH4,hS4,hX4⟩:=box5_set hbq3 (.int .i64 xb.kind) (.int .i64 xb.size) (.int .i64 xb.count) (.slice A6 n6 c6) (.slice B6 m6 e6);have HE4:=hid (hX4 W0 (hX3 W0 HXend.out (by have:=HGP.out;omega)) (by have:=HGQ.out;omega));have HTA:=hid (tyb_keep (t:=xa) hB3 hva3 hH4 hne (fun b hb=>by have hb':=hb;have:=HSA.out;have:=HSB.out;have:=HSP.out;have:=HSQ.out;omega));have HTB:Hid (TyB d W4 aQ xb):=hid ⟨A6,n6,c6,B6,m6,e6,hB4,(hvb3.keep fun b hb _=>hH4 b (by have hb':=hb;have:=HSA.out;have:=HSB.out;have:=HSP.out;have:=HSQ.out;omega)).all⟩;have hne2:aQ≠aP:=fun e=>hne e.symm;have HW34:=hid (And.intro hW3 hW4);obtain⟨z0,z1,z2,z3,z4,zf⟩:=HBP.out;have f0:=zf 0;have f1:=zf 1;have f2:=zf 2;have f3:=zf 3;have f4:=zf 4;obtain⟨y0,y1,y2,y3,y4,yf⟩:=HBQ.out;have j0:=yf 0;have j1:=yf 1;have j2:=yf 2;have j3:=yf 3;have j4:=yf 4;clear hva hvb hB3 hH3 hS3 hX3 hva3 hvb3 hB4 hH4 hS4 hX4 zf yf hW3 hW4 HVA HVB HBP HBQ hbq3
     go_wp2
     rw[HW34.out.1,HW34.out.2];go_meet;exact⟨aP,aQ,rfl,rfl,HE4,HTA,HTB⟩
   case' g3qb9x9=>
    go_simp;obtain⟨wQ,aQ,hA1,hsz,hEg3q3,hge,hob,hss⟩:=newT HXg3q_2.out;refine Eq.mpr (congrArg (K _) hA1) ?_
    first|rw[hsz]|(have hq:W0.heap.size=aQ:=hsz;rw[hq];clear hq)|skip
    have HBQ:=hid hob;have HGQ:=hid hge;have HSQ:=hid (And.intro hsz hss);clear hA1 hsz hge hob hss;have HXg3q_3:=hid (HXg3q_2.out.trans hEg3q3);have HVA:=hid (HVA.out.ext hEg3q3);have HVB:=hid (HVB.out.ext hEg3q3);clear hEg3q3;refine rgK hK (HSK.out _ HXg3q_3.out) (fun hSg3q3=>?_);clear hK K;refine wpAnyH_ready (rs:=[8]) (by kernel_rfl) (by simp) ?_;refine(AllReadyH.consL rfl (fun K hK=>?g3qb8x11) AllReadyH.nil)
    case' g3qb8x11=>
     go_simp;obtain⟨wP,aP,hA1,hsz,hEg3q4,hge,hob,hss⟩:=newT HXg3q_3.out;refine Eq.mpr (congrArg (K _) hA1) ?_
     first|rw[hsz]|(have hq:W0.heap.size=aP:=hsz;rw[hq];clear hq)|skip
     have HBP:=hid hob;have HGP:=hid hge;have HSP:=hid (And.intro hsz hss);clear hA1 hsz hge hob hss;have HXg3q_4:=hid (HXg3q_3.out.trans hEg3q4);have HVA:=hid (HVA.out.ext hEg3q4);have HVB:=hid (HVB.out.ext hEg3q4);have HBQ:=hid (HBQ.out.ext hEg3q4);clear hEg3q4;refine rgK hK (HSK.out _ HXg3q_4.out) (fun hSg3q4=>?_);clear hK K;have HXend:=HXg3q_4;refine wpAnyH_done (by kernel_rfl) ?_ _;change wpList _ _ _ _ _ _;have hva:=HVA.out;have hvb:=HVB.out;obtain⟨W3,hW3,hB3,hH3,hS3,hX3⟩:=box5_set HBP.out (.int .i64 xa.kind) (.int .i64 xa.size) (.int .i64 xa.count) (.slice A5 n5 c5) (.slice B5 m5 e5);have hne:aP≠aQ:=by have:=HSA.out;have:=HSB.out;have:=HSP.out;have:=HSQ.out;omega
     have hva3:=hva.keep (w':=W3) fun b hb _=>hH3 b (by have hb':=hb;have:=HSA.out;have:=HSB.out;have:=HSP.out;have:=HSQ.out;omega);have hvb3:=hvb.keep (w':=W3) fun b hb _=>hH3 b (by have hb':=hb;have:=HSA.out;have:=HSB.out;have:=HSP.out;have:=HSQ.out;omega);have hbq3:=box5_block HBQ.out (hH3 aQ (fun e=>hne e.symm));obtain⟨W4,hW4,hB4,hH4,hS4,hX4⟩:=box5_set hbq3 (.int .i64 xb.kind) (.int .i64 xb.size) (.int .i64 xb.count) (.slice A6 n6 c6) (.slice B6 m6 e6);have HE4:=hid (hX4 W0 (hX3 W0 HXend.out (by have:=HGP.out;omega)) (by have:=HGQ.out;omega));have HTA:=hid (tyb_keep (t:=xa) hB3 hva3 hH4 hne (fun b hb=>by have hb':=hb;have:=HSA.out;have:=HSB.out;have:=HSP.out;have:=HSQ.out;omega));have HTB:Hid (TyB d W4 aQ xb):=hid ⟨A6,n6,c6,B6,m6,e6,hB4,(hvb3.keep fun b hb _=>hH4 b (by have hb':=hb;have:=HSA.out;have:=HSB.out;have:=HSP.out;have:=HSQ.out;omega)).all⟩;have hne2:aQ≠aP:=fun e=>hne e.symm;have HW34:=hid (And.intro hW3 hW4);obtain⟨z0,z1,z2,z3,z4,zf⟩:=HBP.out;have f0:=zf 0;have f1:=zf 1;have f2:=zf 2;have f3:=zf 3;have f4:=zf 4;obtain⟨y0,y1,y2,y3,y4,yf⟩:=HBQ.out;have j0:=yf 0;have j1:=yf 1;have j2:=yf 2;have j3:=yf 3;have j4:=yf 4;clear hva hvb hB3 hH3 hS3 hX3 hva3 hvb3 hB4 hH4 hS4 hX4 zf yf hW3 hW4 HVA HVB HBP HBQ hbq3
     go_wp2
     rw[HW34.out.1,HW34.out.2];go_meet;exact⟨aP,aQ,rfl,rfl,HE4,HTA,HTB⟩
  case' g3qb8x8=>
   go_simp;obtain⟨wP,aP,hA1,hsz,hEg3q2,hge,hob,hss⟩:=newT HXg3q_1.out;refine Eq.mpr (congrArg (K _) hA1) ?_
   first|rw[hsz]|(have hq:W0.heap.size=aP:=hsz;rw[hq];clear hq)|skip
   have HBP:=hid hob;have HGP:=hid hge;have HSP:=hid (And.intro hsz hss);clear hA1 hsz hge hob hss;have HXg3q_2:=hid (HXg3q_1.out.trans hEg3q2);have HVA:=hid (HVA.out.ext hEg3q2);clear hEg3q2;refine rgK hK (HSK.out _ HXg3q_2.out) (fun hSg3q2=>?_);clear hK K;refine wpAnyH_ready (rs:=[7,9]) (by kernel_rfl) (by simp) ?_;refine(AllReadyH.consL rfl (fun K hK=>?g3qb7x12) (AllReadyH.consL rfl (fun K hK=>?g3qb9x12) AllReadyH.nil))
   case' g3qb7x12=>
    go_simp;go_at_call 18;refine(HCB.out _ HXg3q_2.out).mono ?_;rintro e w6 ⟨v6,rfl,hv6,hEg3q3⟩;have HSB:=hid (hEg3q3).size;have HVB:=hid (tyv_lt hv6);obtain⟨A6,n6,c6,B6,m6,e6,rfl, -⟩:=hv6;have HXg3q_3:=hid (HXg3q_2.out.trans hEg3q3);have HVA:=hid (HVA.out.ext hEg3q3);have HBP:=hid (HBP.out.ext hEg3q3);clear hEg3q3;refine rgK hK (HSK.out _ HXg3q_3.out) (fun hSg3q3=>?_);clear hK K;refine wpAnyH_ready (rs:=[9]) (by kernel_rfl) (by simp) ?_;refine(AllReadyH.consL rfl (fun K hK=>?g3qb9x13) AllReadyH.nil)
    case' g3qb9x13=>
     go_simp;obtain⟨wQ,aQ,hA1,hsz,hEg3q4,hge,hob,hss⟩:=newT HXg3q_3.out;refine Eq.mpr (congrArg (K _) hA1) ?_
     first|rw[hsz]|(have hq:W0.heap.size=aQ:=hsz;rw[hq];clear hq)|skip
     have HBQ:=hid hob;have HGQ:=hid hge;have HSQ:=hid (And.intro hsz hss);clear hA1 hsz hge hob hss;have HXg3q_4:=hid (HXg3q_3.out.trans hEg3q4);have HVA:=hid (HVA.out.ext hEg3q4);have HBP:=hid (HBP.out.ext hEg3q4);have HVB:=hid (HVB.out.ext hEg3q4);clear hEg3q4;refine rgK hK (HSK.out _ HXg3q_4.out) (fun hSg3q4=>?_);clear hK K;have HXend:=HXg3q_4;refine wpAnyH_done (by kernel_rfl) ?_ _;change wpList _ _ _ _ _ _;have hva:=HVA.out;have hvb:=HVB.out;obtain⟨W3,hW3,hB3,hH3,hS3,hX3⟩:=box5_set HBP.out (.int .i64 xa.kind) (.int .i64 xa.size) (.int .i64 xa.count) (.slice A5 n5 c5) (.slice B5 m5 e5);have hne:aP≠aQ:=by have:=HSA.out;have:=HSB.out;have:=HSP.out;have:=HSQ.out;omega
     have hva3:=hva.keep (w':=W3) fun b hb _=>hH3 b (by have hb':=hb;have:=HSA.out;have:=HSB.out;have:=HSP.out;have:=HSQ.out;omega);have hvb3:=hvb.keep (w':=W3) fun b hb _=>hH3 b (by have hb':=hb;have:=HSA.out;have:=HSB.out;have:=HSP.out;have:=HSQ.out;omega);have hbq3:=box5_block HBQ.out (hH3 aQ (fun e=>hne e.symm));obtain⟨W4,hW4,hB4,hH4,hS4,hX4⟩:=box5_set hbq3 (.int .i64 xb.kind) (.int .i64 xb.size) (.int .i64 xb.count) (.slice A6 n6 c6) (.slice B6 m6 e6);have HE4:=hid (hX4 W0 (hX3 W0 HXend.out (by have:=HGP.out;omega)) (by have:=HGQ.out;omega));have HTA:=hid (tyb_keep (t:=xa) hB3 hva3 hH4 hne (fun b hb=>by have hb':=hb;have:=HSA.out;have:=HSB.out;have:=HSP.out;have:=HSQ.out;omega));have HTB:Hid (TyB d W4 aQ xb):=hid ⟨A6,n6,c6,B6,m6,e6,hB4,(hvb3.keep fun b hb _=>hH4 b (by have hb':=hb;have:=HSA.out;have:=HSB.out;have:=HSP.out;have:=HSQ.out;omega)).all⟩;have hne2:aQ≠aP:=fun e=>hne e.symm;have HW34:=hid (And.intro hW3 hW4);obtain⟨z0,z1,z2,z3,z4,zf⟩:=HBP.out;have f0:=zf 0;have f1:=zf 1;have f2:=zf 2;have f3:=zf 3;have f4:=zf 4;obtain⟨y0,y1,y2,y3,y4,yf⟩:=HBQ.out;have j0:=yf 0;have j1:=yf 1;have j2:=yf 2;have j3:=yf 3;have j4:=yf 4;clear hva hvb hB3 hH3 hS3 hX3 hva3 hvb3 hB4 hH4 hS4 hX4 zf yf hW3 hW4 HVA HVB HBP HBQ hbq3
     go_wp2
     rw[HW34.out.1,HW34.out.2];go_meet;exact⟨aP,aQ,rfl,rfl,HE4,HTA,HTB⟩
   case' g3qb9x12=>
    go_simp;obtain⟨wQ,aQ,hA1,hsz,hEg3q3,hge,hob,hss⟩:=newT HXg3q_2.out;refine Eq.mpr (congrArg (K _) hA1) ?_
    first|rw[hsz]|(have hq:W0.heap.size=aQ:=hsz;rw[hq];clear hq)|skip
    have HBQ:=hid hob;have HGQ:=hid hge;have HSQ:=hid (And.intro hsz hss);clear hA1 hsz hge hob hss;have HXg3q_3:=hid (HXg3q_2.out.trans hEg3q3);have HVA:=hid (HVA.out.ext hEg3q3);have HBP:=hid (HBP.out.ext hEg3q3);clear hEg3q3;refine rgK hK (HSK.out _ HXg3q_3.out) (fun hSg3q3=>?_);clear hK K;refine wpAnyH_ready (rs:=[7]) (by kernel_rfl) (by simp) ?_;refine(AllReadyH.consL rfl (fun K hK=>?g3qb7x14) AllReadyH.nil)
    case' g3qb7x14=>
     go_simp;go_at_call 18;refine(HCB.out _ HXg3q_3.out).mono ?_;rintro e w6 ⟨v6,rfl,hv6,hEg3q4⟩;have HSB:=hid (hEg3q4).size;have HVB:=hid (tyv_lt hv6);obtain⟨A6,n6,c6,B6,m6,e6,rfl, -⟩:=hv6;have HXg3q_4:=hid (HXg3q_3.out.trans hEg3q4);have HVA:=hid (HVA.out.ext hEg3q4);have HBP:=hid (HBP.out.ext hEg3q4);have HBQ:=hid (HBQ.out.ext hEg3q4);clear hEg3q4;refine rgK hK (HSK.out _ HXg3q_4.out) (fun hSg3q4=>?_);clear hK K;have HXend:=HXg3q_4;refine wpAnyH_done (by kernel_rfl) ?_ _;change wpList _ _ _ _ _ _;have hva:=HVA.out;have hvb:=HVB.out;obtain⟨W3,hW3,hB3,hH3,hS3,hX3⟩:=box5_set HBP.out (.int .i64 xa.kind) (.int .i64 xa.size) (.int .i64 xa.count) (.slice A5 n5 c5) (.slice B5 m5 e5);have hne:aP≠aQ:=by have:=HSA.out;have:=HSB.out;have:=HSP.out;have:=HSQ.out;omega
     have hva3:=hva.keep (w':=W3) fun b hb _=>hH3 b (by have hb':=hb;have:=HSA.out;have:=HSB.out;have:=HSP.out;have:=HSQ.out;omega);have hvb3:=hvb.keep (w':=W3) fun b hb _=>hH3 b (by have hb':=hb;have:=HSA.out;have:=HSB.out;have:=HSP.out;have:=HSQ.out;omega);have hbq3:=box5_block HBQ.out (hH3 aQ (fun e=>hne e.symm));obtain⟨W4,hW4,hB4,hH4,hS4,hX4⟩:=box5_set hbq3 (.int .i64 xb.kind) (.int .i64 xb.size) (.int .i64 xb.count) (.slice A6 n6 c6) (.slice B6 m6 e6);have HE4:=hid (hX4 W0 (hX3 W0 HXend.out (by have:=HGP.out;omega)) (by have:=HGQ.out;omega));have HTA:=hid (tyb_keep (t:=xa) hB3 hva3 hH4 hne (fun b hb=>by have hb':=hb;have:=HSA.out;have:=HSB.out;have:=HSP.out;have:=HSQ.out;omega));have HTB:Hid (TyB d W4 aQ xb):=hid ⟨A6,n6,c6,B6,m6,e6,hB4,(hvb3.keep fun b hb _=>hH4 b (by have hb':=hb;have:=HSA.out;have:=HSB.out;have:=HSP.out;have:=HSQ.out;omega)).all⟩;have hne2:aQ≠aP:=fun e=>hne e.symm;have HW34:=hid (And.intro hW3 hW4);obtain⟨z0,z1,z2,z3,z4,zf⟩:=HBP.out;have f0:=zf 0;have f1:=zf 1;have f2:=zf 2;have f3:=zf 3;have f4:=zf 4;obtain⟨y0,y1,y2,y3,y4,yf⟩:=HBQ.out;have j0:=yf 0;have j1:=yf 1;have j2:=yf 2;have j3:=yf 3;have j4:=yf 4;clear hva hvb hB3 hH3 hS3 hX3 hva3 hvb3 hB4 hH4 hS4 hX4 zf yf hW3 hW4 HVA HVB HBP HBQ hbq3
     go_wp2
     rw[HW34.out.1,HW34.out.2];go_meet;exact⟨aP,aQ,rfl,rfl,HE4,HTA,HTB⟩
  case' g3qb9x8=>
   go_simp;obtain⟨wQ,aQ,hA1,hsz,hEg3q2,hge,hob,hss⟩:=newT HXg3q_1.out;refine Eq.mpr (congrArg (K _) hA1) ?_
   first|rw[hsz]|(have hq:W0.heap.size=aQ:=hsz;rw[hq];clear hq)|skip
   have HBQ:=hid hob;have HGQ:=hid hge;have HSQ:=hid (And.intro hsz hss);clear hA1 hsz hge hob hss;have HXg3q_2:=hid (HXg3q_1.out.trans hEg3q2);have HVA:=hid (HVA.out.ext hEg3q2);clear hEg3q2;refine rgK hK (HSK.out _ HXg3q_2.out) (fun hSg3q2=>?_);clear hK K;refine wpAnyH_ready (rs:=[7,8]) (by kernel_rfl) (by simp) ?_;refine(AllReadyH.consL rfl (fun K hK=>?g3qb7x15) (AllReadyH.consL rfl (fun K hK=>?g3qb8x15) AllReadyH.nil))
   case' g3qb7x15=>
    go_simp;go_at_call 18;refine(HCB.out _ HXg3q_2.out).mono ?_;rintro e w6 ⟨v6,rfl,hv6,hEg3q3⟩;have HSB:=hid (hEg3q3).size;have HVB:=hid (tyv_lt hv6);obtain⟨A6,n6,c6,B6,m6,e6,rfl, -⟩:=hv6;have HXg3q_3:=hid (HXg3q_2.out.trans hEg3q3);have HVA:=hid (HVA.out.ext hEg3q3);have HBQ:=hid (HBQ.out.ext hEg3q3);clear hEg3q3;refine rgK hK (HSK.out _ HXg3q_3.out) (fun hSg3q3=>?_);clear hK K;refine wpAnyH_ready (rs:=[8]) (by kernel_rfl) (by simp) ?_;refine(AllReadyH.consL rfl (fun K hK=>?g3qb8x16) AllReadyH.nil)
    case' g3qb8x16=>
     go_simp;obtain⟨wP,aP,hA1,hsz,hEg3q4,hge,hob,hss⟩:=newT HXg3q_3.out;refine Eq.mpr (congrArg (K _) hA1) ?_
     first|rw[hsz]|(have hq:W0.heap.size=aP:=hsz;rw[hq];clear hq)|skip
     have HBP:=hid hob;have HGP:=hid hge;have HSP:=hid (And.intro hsz hss);clear hA1 hsz hge hob hss;have HXg3q_4:=hid (HXg3q_3.out.trans hEg3q4);have HVA:=hid (HVA.out.ext hEg3q4);have HBQ:=hid (HBQ.out.ext hEg3q4);have HVB:=hid (HVB.out.ext hEg3q4);clear hEg3q4;refine rgK hK (HSK.out _ HXg3q_4.out) (fun hSg3q4=>?_);clear hK K;have HXend:=HXg3q_4;refine wpAnyH_done (by kernel_rfl) ?_ _;change wpList _ _ _ _ _ _;have hva:=HVA.out;have hvb:=HVB.out;obtain⟨W3,hW3,hB3,hH3,hS3,hX3⟩:=box5_set HBP.out (.int .i64 xa.kind) (.int .i64 xa.size) (.int .i64 xa.count) (.slice A5 n5 c5) (.slice B5 m5 e5);have hne:aP≠aQ:=by have:=HSA.out;have:=HSB.out;have:=HSP.out;have:=HSQ.out;omega
     have hva3:=hva.keep (w':=W3) fun b hb _=>hH3 b (by have hb':=hb;have:=HSA.out;have:=HSB.out;have:=HSP.out;have:=HSQ.out;omega);have hvb3:=hvb.keep (w':=W3) fun b hb _=>hH3 b (by have hb':=hb;have:=HSA.out;have:=HSB.out;have:=HSP.out;have:=HSQ.out;omega);have hbq3:=box5_block HBQ.out (hH3 aQ (fun e=>hne e.symm));obtain⟨W4,hW4,hB4,hH4,hS4,hX4⟩:=box5_set hbq3 (.int .i64 xb.kind) (.int .i64 xb.size) (.int .i64 xb.count) (.slice A6 n6 c6) (.slice B6 m6 e6);have HE4:=hid (hX4 W0 (hX3 W0 HXend.out (by have:=HGP.out;omega)) (by have:=HGQ.out;omega));have HTA:=hid (tyb_keep (t:=xa) hB3 hva3 hH4 hne (fun b hb=>by have hb':=hb;have:=HSA.out;have:=HSB.out;have:=HSP.out;have:=HSQ.out;omega));have HTB:Hid (TyB d W4 aQ xb):=hid ⟨A6,n6,c6,B6,m6,e6,hB4,(hvb3.keep fun b hb _=>hH4 b (by have hb':=hb;have:=HSA.out;have:=HSB.out;have:=HSP.out;have:=HSQ.out;omega)).all⟩;have hne2:aQ≠aP:=fun e=>hne e.symm;have HW34:=hid (And.intro hW3 hW4);obtain⟨z0,z1,z2,z3,z4,zf⟩:=HBP.out;have f0:=zf 0;have f1:=zf 1;have f2:=zf 2;have f3:=zf 3;have f4:=zf 4;obtain⟨y0,y1,y2,y3,y4,yf⟩:=HBQ.out;have j0:=yf 0;have j1:=yf 1;have j2:=yf 2;have j3:=yf 3;have j4:=yf 4;clear hva hvb hB3 hH3 hS3 hX3 hva3 hvb3 hB4 hH4 hS4 hX4 zf yf hW3 hW4 HVA HVB HBP HBQ hbq3
     go_wp2
     rw[HW34.out.1,HW34.out.2];go_meet;exact⟨aP,aQ,rfl,rfl,HE4,HTA,HTB⟩
   case' g3qb8x15=>
    go_simp;obtain⟨wP,aP,hA1,hsz,hEg3q3,hge,hob,hss⟩:=newT HXg3q_2.out;refine Eq.mpr (congrArg (K _) hA1) ?_
    first|rw[hsz]|(have hq:W0.heap.size=aP:=hsz;rw[hq];clear hq)|skip
    have HBP:=hid hob;have HGP:=hid hge;have HSP:=hid (And.intro hsz hss);clear hA1 hsz hge hob hss;have HXg3q_3:=hid (HXg3q_2.out.trans hEg3q3);have HVA:=hid (HVA.out.ext hEg3q3);have HBQ:=hid (HBQ.out.ext hEg3q3);clear hEg3q3;refine rgK hK (HSK.out _ HXg3q_3.out) (fun hSg3q3=>?_);clear hK K;refine wpAnyH_ready (rs:=[7]) (by kernel_rfl) (by simp) ?_;refine(AllReadyH.consL rfl (fun K hK=>?g3qb7x17) AllReadyH.nil)
    case' g3qb7x17=>
     go_simp;go_at_call 18;refine(HCB.out _ HXg3q_3.out).mono ?_;rintro e w6 ⟨v6,rfl,hv6,hEg3q4⟩;have HSB:=hid (hEg3q4).size;have HVB:=hid (tyv_lt hv6);obtain⟨A6,n6,c6,B6,m6,e6,rfl, -⟩:=hv6;have HXg3q_4:=hid (HXg3q_3.out.trans hEg3q4);have HVA:=hid (HVA.out.ext hEg3q4);have HBQ:=hid (HBQ.out.ext hEg3q4);have HBP:=hid (HBP.out.ext hEg3q4);clear hEg3q4;refine rgK hK (HSK.out _ HXg3q_4.out) (fun hSg3q4=>?_);clear hK K;have HXend:=HXg3q_4;refine wpAnyH_done (by kernel_rfl) ?_ _;change wpList _ _ _ _ _ _;have hva:=HVA.out;have hvb:=HVB.out;obtain⟨W3,hW3,hB3,hH3,hS3,hX3⟩:=box5_set HBP.out (.int .i64 xa.kind) (.int .i64 xa.size) (.int .i64 xa.count) (.slice A5 n5 c5) (.slice B5 m5 e5);have hne:aP≠aQ:=by have:=HSA.out;have:=HSB.out;have:=HSP.out;have:=HSQ.out;omega
     have hva3:=hva.keep (w':=W3) fun b hb _=>hH3 b (by have hb':=hb;have:=HSA.out;have:=HSB.out;have:=HSP.out;have:=HSQ.out;omega);have hvb3:=hvb.keep (w':=W3) fun b hb _=>hH3 b (by have hb':=hb;have:=HSA.out;have:=HSB.out;have:=HSP.out;have:=HSQ.out;omega);have hbq3:=box5_block HBQ.out (hH3 aQ (fun e=>hne e.symm));obtain⟨W4,hW4,hB4,hH4,hS4,hX4⟩:=box5_set hbq3 (.int .i64 xb.kind) (.int .i64 xb.size) (.int .i64 xb.count) (.slice A6 n6 c6) (.slice B6 m6 e6);have HE4:=hid (hX4 W0 (hX3 W0 HXend.out (by have:=HGP.out;omega)) (by have:=HGQ.out;omega));have HTA:=hid (tyb_keep (t:=xa) hB3 hva3 hH4 hne (fun b hb=>by have hb':=hb;have:=HSA.out;have:=HSB.out;have:=HSP.out;have:=HSQ.out;omega));have HTB:Hid (TyB d W4 aQ xb):=hid ⟨A6,n6,c6,B6,m6,e6,hB4,(hvb3.keep fun b hb _=>hH4 b (by have hb':=hb;have:=HSA.out;have:=HSB.out;have:=HSP.out;have:=HSQ.out;omega)).all⟩;have hne2:aQ≠aP:=fun e=>hne e.symm;have HW34:=hid (And.intro hW3 hW4);obtain⟨z0,z1,z2,z3,z4,zf⟩:=HBP.out;have f0:=zf 0;have f1:=zf 1;have f2:=zf 2;have f3:=zf 3;have f4:=zf 4;obtain⟨y0,y1,y2,y3,y4,yf⟩:=HBQ.out;have j0:=yf 0;have j1:=yf 1;have j2:=yf 2;have j3:=yf 3;have j4:=yf 4;clear hva hvb hB3 hH3 hS3 hX3 hva3 hvb3 hB4 hH4 hS4 hX4 zf yf hW3 hW4 HVA HVB HBP HBQ hbq3
     go_wp2
     rw[HW34.out.1,HW34.out.2];go_meet;exact⟨aP,aQ,rfl,rfl,HE4,HTA,HTB⟩
 case' g3qb8x7=>
  go_simp;obtain⟨wP,aP,hA1,hsz,hEg3q1,hge,hob,hss⟩:=newT HXg3q_0.out;refine Eq.mpr (congrArg (K _) hA1) ?_
  first|rw[hsz]|(have hq:W0.heap.size=aP:=hsz;rw[hq];clear hq)|skip
  have HBP:=hid hob;have HGP:=hid hge;have HSP:=hid (And.intro hsz hss);clear hA1 hsz hge hob hss;have HXg3q_1:=hid (HXg3q_0.out.trans hEg3q1);clear hEg3q1;refine rgK hK (HSK.out _ HXg3q_1.out) (fun hSg3q1=>?_);clear hK K;refine wpAnyH_ready (rs:=[3,9]) (by kernel_rfl) (by simp) ?_;refine(AllReadyH.consL rfl (fun K hK=>?g3qb3x18) (AllReadyH.consL rfl (fun K hK=>?g3qb9x18) AllReadyH.nil))
  case' g3qb3x18=>
   go_simp;go_at_call 18;refine(HCA.out _ HXg3q_1.out).mono ?_;rintro e w5 ⟨v5,rfl,hv5,hEg3q2⟩;have HSA:=hid (hEg3q2).size;have HVA:=hid (tyv_lt hv5);obtain⟨A5,n5,c5,B5,m5,e5,rfl, -⟩:=hv5;have HXg3q_2:=hid (HXg3q_1.out.trans hEg3q2);have HBP:=hid (HBP.out.ext hEg3q2);clear hEg3q2;refine rgK hK (HSK.out _ HXg3q_2.out) (fun hSg3q2=>?_);clear hK K;refine wpAnyH_ready (rs:=[7,9]) (by kernel_rfl) (by simp) ?_;refine(AllReadyH.consL rfl (fun K hK=>?g3qb7x19) (AllReadyH.consL rfl (fun K hK=>?g3qb9x19) AllReadyH.nil))
   case' g3qb7x19=>
    go_simp;go_at_call 18;refine(HCB.out _ HXg3q_2.out).mono ?_;rintro e w6 ⟨v6,rfl,hv6,hEg3q3⟩;have HSB:=hid (hEg3q3).size;have HVB:=hid (tyv_lt hv6);obtain⟨A6,n6,c6,B6,m6,e6,rfl, -⟩:=hv6;have HXg3q_3:=hid (HXg3q_2.out.trans hEg3q3);have HBP:=hid (HBP.out.ext hEg3q3);have HVA:=hid (HVA.out.ext hEg3q3);clear hEg3q3;refine rgK hK (HSK.out _ HXg3q_3.out) (fun hSg3q3=>?_);clear hK K;refine wpAnyH_ready (rs:=[9]) (by kernel_rfl) (by simp) ?_;refine(AllReadyH.consL rfl (fun K hK=>?g3qb9x20) AllReadyH.nil)
    case' g3qb9x20=>
     go_simp;obtain⟨wQ,aQ,hA1,hsz,hEg3q4,hge,hob,hss⟩:=newT HXg3q_3.out;refine Eq.mpr (congrArg (K _) hA1) ?_
     first|rw[hsz]|(have hq:W0.heap.size=aQ:=hsz;rw[hq];clear hq)|skip
     have HBQ:=hid hob;have HGQ:=hid hge;have HSQ:=hid (And.intro hsz hss);clear hA1 hsz hge hob hss;have HXg3q_4:=hid (HXg3q_3.out.trans hEg3q4);have HBP:=hid (HBP.out.ext hEg3q4);have HVA:=hid (HVA.out.ext hEg3q4);have HVB:=hid (HVB.out.ext hEg3q4);clear hEg3q4;refine rgK hK (HSK.out _ HXg3q_4.out) (fun hSg3q4=>?_);clear hK K;have HXend:=HXg3q_4;refine wpAnyH_done (by kernel_rfl) ?_ _;change wpList _ _ _ _ _ _;have hva:=HVA.out;have hvb:=HVB.out;obtain⟨W3,hW3,hB3,hH3,hS3,hX3⟩:=box5_set HBP.out (.int .i64 xa.kind) (.int .i64 xa.size) (.int .i64 xa.count) (.slice A5 n5 c5) (.slice B5 m5 e5);have hne:aP≠aQ:=by have:=HSA.out;have:=HSB.out;have:=HSP.out;have:=HSQ.out;omega
     have hva3:=hva.keep (w':=W3) fun b hb _=>hH3 b (by have hb':=hb;have:=HSA.out;have:=HSB.out;have:=HSP.out;have:=HSQ.out;omega);have hvb3:=hvb.keep (w':=W3) fun b hb _=>hH3 b (by have hb':=hb;have:=HSA.out;have:=HSB.out;have:=HSP.out;have:=HSQ.out;omega);have hbq3:=box5_block HBQ.out (hH3 aQ (fun e=>hne e.symm));obtain⟨W4,hW4,hB4,hH4,hS4,hX4⟩:=box5_set hbq3 (.int .i64 xb.kind) (.int .i64 xb.size) (.int .i64 xb.count) (.slice A6 n6 c6) (.slice B6 m6 e6);have HE4:=hid (hX4 W0 (hX3 W0 HXend.out (by have:=HGP.out;omega)) (by have:=HGQ.out;omega));have HTA:=hid (tyb_keep (t:=xa) hB3 hva3 hH4 hne (fun b hb=>by have hb':=hb;have:=HSA.out;have:=HSB.out;have:=HSP.out;have:=HSQ.out;omega));have HTB:Hid (TyB d W4 aQ xb):=hid ⟨A6,n6,c6,B6,m6,e6,hB4,(hvb3.keep fun b hb _=>hH4 b (by have hb':=hb;have:=HSA.out;have:=HSB.out;have:=HSP.out;have:=HSQ.out;omega)).all⟩;have hne2:aQ≠aP:=fun e=>hne e.symm;have HW34:=hid (And.intro hW3 hW4);obtain⟨z0,z1,z2,z3,z4,zf⟩:=HBP.out;have f0:=zf 0;have f1:=zf 1;have f2:=zf 2;have f3:=zf 3;have f4:=zf 4;obtain⟨y0,y1,y2,y3,y4,yf⟩:=HBQ.out;have j0:=yf 0;have j1:=yf 1;have j2:=yf 2;have j3:=yf 3;have j4:=yf 4;clear hva hvb hB3 hH3 hS3 hX3 hva3 hvb3 hB4 hH4 hS4 hX4 zf yf hW3 hW4 HVA HVB HBP HBQ hbq3
     go_wp2
     rw[HW34.out.1,HW34.out.2];go_meet;exact⟨aP,aQ,rfl,rfl,HE4,HTA,HTB⟩
   case' g3qb9x19=>
    go_simp;obtain⟨wQ,aQ,hA1,hsz,hEg3q3,hge,hob,hss⟩:=newT HXg3q_2.out;refine Eq.mpr (congrArg (K _) hA1) ?_
    first|rw[hsz]|(have hq:W0.heap.size=aQ:=hsz;rw[hq];clear hq)|skip
    have HBQ:=hid hob;have HGQ:=hid hge;have HSQ:=hid (And.intro hsz hss);clear hA1 hsz hge hob hss;have HXg3q_3:=hid (HXg3q_2.out.trans hEg3q3);have HBP:=hid (HBP.out.ext hEg3q3);have HVA:=hid (HVA.out.ext hEg3q3);clear hEg3q3;refine rgK hK (HSK.out _ HXg3q_3.out) (fun hSg3q3=>?_);clear hK K;refine wpAnyH_ready (rs:=[7]) (by kernel_rfl) (by simp) ?_;refine(AllReadyH.consL rfl (fun K hK=>?g3qb7x21) AllReadyH.nil)
    case' g3qb7x21=>
     go_simp;go_at_call 18;refine(HCB.out _ HXg3q_3.out).mono ?_;rintro e w6 ⟨v6,rfl,hv6,hEg3q4⟩;have HSB:=hid (hEg3q4).size;have HVB:=hid (tyv_lt hv6);obtain⟨A6,n6,c6,B6,m6,e6,rfl, -⟩:=hv6;have HXg3q_4:=hid (HXg3q_3.out.trans hEg3q4);have HBP:=hid (HBP.out.ext hEg3q4);have HVA:=hid (HVA.out.ext hEg3q4);have HBQ:=hid (HBQ.out.ext hEg3q4);clear hEg3q4;refine rgK hK (HSK.out _ HXg3q_4.out) (fun hSg3q4=>?_);clear hK K;have HXend:=HXg3q_4;refine wpAnyH_done (by kernel_rfl) ?_ _;change wpList _ _ _ _ _ _;have hva:=HVA.out;have hvb:=HVB.out;obtain⟨W3,hW3,hB3,hH3,hS3,hX3⟩:=box5_set HBP.out (.int .i64 xa.kind) (.int .i64 xa.size) (.int .i64 xa.count) (.slice A5 n5 c5) (.slice B5 m5 e5);have hne:aP≠aQ:=by have:=HSA.out;have:=HSB.out;have:=HSP.out;have:=HSQ.out;omega
     have hva3:=hva.keep (w':=W3) fun b hb _=>hH3 b (by have hb':=hb;have:=HSA.out;have:=HSB.out;have:=HSP.out;have:=HSQ.out;omega);have hvb3:=hvb.keep (w':=W3) fun b hb _=>hH3 b (by have hb':=hb;have:=HSA.out;have:=HSB.out;have:=HSP.out;have:=HSQ.out;omega);have hbq3:=box5_block HBQ.out (hH3 aQ (fun e=>hne e.symm));obtain⟨W4,hW4,hB4,hH4,hS4,hX4⟩:=box5_set hbq3 (.int .i64 xb.kind) (.int .i64 xb.size) (.int .i64 xb.count) (.slice A6 n6 c6) (.slice B6 m6 e6);have HE4:=hid (hX4 W0 (hX3 W0 HXend.out (by have:=HGP.out;omega)) (by have:=HGQ.out;omega));have HTA:=hid (tyb_keep (t:=xa) hB3 hva3 hH4 hne (fun b hb=>by have hb':=hb;have:=HSA.out;have:=HSB.out;have:=HSP.out;have:=HSQ.out;omega));have HTB:Hid (TyB d W4 aQ xb):=hid ⟨A6,n6,c6,B6,m6,e6,hB4,(hvb3.keep fun b hb _=>hH4 b (by have hb':=hb;have:=HSA.out;have:=HSB.out;have:=HSP.out;have:=HSQ.out;omega)).all⟩;have hne2:aQ≠aP:=fun e=>hne e.symm;have HW34:=hid (And.intro hW3 hW4);obtain⟨z0,z1,z2,z3,z4,zf⟩:=HBP.out;have f0:=zf 0;have f1:=zf 1;have f2:=zf 2;have f3:=zf 3;have f4:=zf 4;obtain⟨y0,y1,y2,y3,y4,yf⟩:=HBQ.out;have j0:=yf 0;have j1:=yf 1;have j2:=yf 2;have j3:=yf 3;have j4:=yf 4;clear hva hvb hB3 hH3 hS3 hX3 hva3 hvb3 hB4 hH4 hS4 hX4 zf yf hW3 hW4 HVA HVB HBP HBQ hbq3
     go_wp2
     rw[HW34.out.1,HW34.out.2];go_meet;exact⟨aP,aQ,rfl,rfl,HE4,HTA,HTB⟩
  case' g3qb9x18=>
   go_simp;obtain⟨wQ,aQ,hA1,hsz,hEg3q2,hge,hob,hss⟩:=newT HXg3q_1.out;refine Eq.mpr (congrArg (K _) hA1) ?_
   first|rw[hsz]|(have hq:W0.heap.size=aQ:=hsz;rw[hq];clear hq)|skip
   have HBQ:=hid hob;have HGQ:=hid hge;have HSQ:=hid (And.intro hsz hss);clear hA1 hsz hge hob hss;have HXg3q_2:=hid (HXg3q_1.out.trans hEg3q2);have HBP:=hid (HBP.out.ext hEg3q2);clear hEg3q2;refine rgK hK (HSK.out _ HXg3q_2.out) (fun hSg3q2=>?_);clear hK K;refine wpAnyH_ready (rs:=[3]) (by kernel_rfl) (by simp) ?_;refine(AllReadyH.consL rfl (fun K hK=>?g3qb3x22) AllReadyH.nil)
   case' g3qb3x22=>
    go_simp;go_at_call 18;refine(HCA.out _ HXg3q_2.out).mono ?_;rintro e w5 ⟨v5,rfl,hv5,hEg3q3⟩;have HSA:=hid (hEg3q3).size;have HVA:=hid (tyv_lt hv5);obtain⟨A5,n5,c5,B5,m5,e5,rfl, -⟩:=hv5;have HXg3q_3:=hid (HXg3q_2.out.trans hEg3q3);have HBP:=hid (HBP.out.ext hEg3q3);have HBQ:=hid (HBQ.out.ext hEg3q3);clear hEg3q3;refine rgK hK (HSK.out _ HXg3q_3.out) (fun hSg3q3=>?_);clear hK K;refine wpAnyH_ready (rs:=[7]) (by kernel_rfl) (by simp) ?_;refine(AllReadyH.consL rfl (fun K hK=>?g3qb7x23) AllReadyH.nil)
    case' g3qb7x23=>
     go_simp;go_at_call 18;refine(HCB.out _ HXg3q_3.out).mono ?_;rintro e w6 ⟨v6,rfl,hv6,hEg3q4⟩;have HSB:=hid (hEg3q4).size;have HVB:=hid (tyv_lt hv6);obtain⟨A6,n6,c6,B6,m6,e6,rfl, -⟩:=hv6;have HXg3q_4:=hid (HXg3q_3.out.trans hEg3q4);have HBP:=hid (HBP.out.ext hEg3q4);have HBQ:=hid (HBQ.out.ext hEg3q4);have HVA:=hid (HVA.out.ext hEg3q4);clear hEg3q4;refine rgK hK (HSK.out _ HXg3q_4.out) (fun hSg3q4=>?_);clear hK K;have HXend:=HXg3q_4;refine wpAnyH_done (by kernel_rfl) ?_ _;change wpList _ _ _ _ _ _;have hva:=HVA.out;have hvb:=HVB.out;obtain⟨W3,hW3,hB3,hH3,hS3,hX3⟩:=box5_set HBP.out (.int .i64 xa.kind) (.int .i64 xa.size) (.int .i64 xa.count) (.slice A5 n5 c5) (.slice B5 m5 e5);have hne:aP≠aQ:=by have:=HSA.out;have:=HSB.out;have:=HSP.out;have:=HSQ.out;omega
     have hva3:=hva.keep (w':=W3) fun b hb _=>hH3 b (by have hb':=hb;have:=HSA.out;have:=HSB.out;have:=HSP.out;have:=HSQ.out;omega);have hvb3:=hvb.keep (w':=W3) fun b hb _=>hH3 b (by have hb':=hb;have:=HSA.out;have:=HSB.out;have:=HSP.out;have:=HSQ.out;omega);have hbq3:=box5_block HBQ.out (hH3 aQ (fun e=>hne e.symm));obtain⟨W4,hW4,hB4,hH4,hS4,hX4⟩:=box5_set hbq3 (.int .i64 xb.kind) (.int .i64 xb.size) (.int .i64 xb.count) (.slice A6 n6 c6) (.slice B6 m6 e6);have HE4:=hid (hX4 W0 (hX3 W0 HXend.out (by have:=HGP.out;omega)) (by have:=HGQ.out;omega));have HTA:=hid (tyb_keep (t:=xa) hB3 hva3 hH4 hne (fun b hb=>by have hb':=hb;have:=HSA.out;have:=HSB.out;have:=HSP.out;have:=HSQ.out;omega));have HTB:Hid (TyB d W4 aQ xb):=hid ⟨A6,n6,c6,B6,m6,e6,hB4,(hvb3.keep fun b hb _=>hH4 b (by have hb':=hb;have:=HSA.out;have:=HSB.out;have:=HSP.out;have:=HSQ.out;omega)).all⟩;have hne2:aQ≠aP:=fun e=>hne e.symm;have HW34:=hid (And.intro hW3 hW4);obtain⟨z0,z1,z2,z3,z4,zf⟩:=HBP.out;have f0:=zf 0;have f1:=zf 1;have f2:=zf 2;have f3:=zf 3;have f4:=zf 4;obtain⟨y0,y1,y2,y3,y4,yf⟩:=HBQ.out;have j0:=yf 0;have j1:=yf 1;have j2:=yf 2;have j3:=yf 3;have j4:=yf 4;clear hva hvb hB3 hH3 hS3 hX3 hva3 hvb3 hB4 hH4 hS4 hX4 zf yf hW3 hW4 HVA HVB HBP HBQ hbq3
     go_wp2
     rw[HW34.out.1,HW34.out.2];go_meet;exact⟨aP,aQ,rfl,rfl,HE4,HTA,HTB⟩
 case' g3qb9x7=>
  go_simp;obtain⟨wQ,aQ,hA1,hsz,hEg3q1,hge,hob,hss⟩:=newT HXg3q_0.out;refine Eq.mpr (congrArg (K _) hA1) ?_
  first|rw[hsz]|(have hq:W0.heap.size=aQ:=hsz;rw[hq];clear hq)|skip
  have HBQ:=hid hob;have HGQ:=hid hge;have HSQ:=hid (And.intro hsz hss);clear hA1 hsz hge hob hss;have HXg3q_1:=hid (HXg3q_0.out.trans hEg3q1);clear hEg3q1;refine rgK hK (HSK.out _ HXg3q_1.out) (fun hSg3q1=>?_);clear hK K;refine wpAnyH_ready (rs:=[3,8]) (by kernel_rfl) (by simp) ?_;refine(AllReadyH.consL rfl (fun K hK=>?g3qb3x24) (AllReadyH.consL rfl (fun K hK=>?g3qb8x24) AllReadyH.nil))
  case' g3qb3x24=>
   go_simp;go_at_call 18;refine(HCA.out _ HXg3q_1.out).mono ?_;rintro e w5 ⟨v5,rfl,hv5,hEg3q2⟩;have HSA:=hid (hEg3q2).size;have HVA:=hid (tyv_lt hv5);obtain⟨A5,n5,c5,B5,m5,e5,rfl, -⟩:=hv5;have HXg3q_2:=hid (HXg3q_1.out.trans hEg3q2);have HBQ:=hid (HBQ.out.ext hEg3q2);clear hEg3q2;refine rgK hK (HSK.out _ HXg3q_2.out) (fun hSg3q2=>?_);clear hK K;refine wpAnyH_ready (rs:=[7,8]) (by kernel_rfl) (by simp) ?_;refine(AllReadyH.consL rfl (fun K hK=>?g3qb7x25) (AllReadyH.consL rfl (fun K hK=>?g3qb8x25) AllReadyH.nil))
   case' g3qb7x25=>
    go_simp;go_at_call 18;refine(HCB.out _ HXg3q_2.out).mono ?_;rintro e w6 ⟨v6,rfl,hv6,hEg3q3⟩;have HSB:=hid (hEg3q3).size;have HVB:=hid (tyv_lt hv6);obtain⟨A6,n6,c6,B6,m6,e6,rfl, -⟩:=hv6;have HXg3q_3:=hid (HXg3q_2.out.trans hEg3q3);have HBQ:=hid (HBQ.out.ext hEg3q3);have HVA:=hid (HVA.out.ext hEg3q3);clear hEg3q3;refine rgK hK (HSK.out _ HXg3q_3.out) (fun hSg3q3=>?_);clear hK K;refine wpAnyH_ready (rs:=[8]) (by kernel_rfl) (by simp) ?_;refine(AllReadyH.consL rfl (fun K hK=>?g3qb8x26) AllReadyH.nil)
    case' g3qb8x26=>
     go_simp;obtain⟨wP,aP,hA1,hsz,hEg3q4,hge,hob,hss⟩:=newT HXg3q_3.out;refine Eq.mpr (congrArg (K _) hA1) ?_
     first|rw[hsz]|(have hq:W0.heap.size=aP:=hsz;rw[hq];clear hq)|skip
     have HBP:=hid hob;have HGP:=hid hge;have HSP:=hid (And.intro hsz hss);clear hA1 hsz hge hob hss;have HXg3q_4:=hid (HXg3q_3.out.trans hEg3q4);have HBQ:=hid (HBQ.out.ext hEg3q4);have HVA:=hid (HVA.out.ext hEg3q4);have HVB:=hid (HVB.out.ext hEg3q4);clear hEg3q4;refine rgK hK (HSK.out _ HXg3q_4.out) (fun hSg3q4=>?_);clear hK K;have HXend:=HXg3q_4;refine wpAnyH_done (by kernel_rfl) ?_ _;change wpList _ _ _ _ _ _;have hva:=HVA.out;have hvb:=HVB.out;obtain⟨W3,hW3,hB3,hH3,hS3,hX3⟩:=box5_set HBP.out (.int .i64 xa.kind) (.int .i64 xa.size) (.int .i64 xa.count) (.slice A5 n5 c5) (.slice B5 m5 e5);have hne:aP≠aQ:=by have:=HSA.out;have:=HSB.out;have:=HSP.out;have:=HSQ.out;omega
     have hva3:=hva.keep (w':=W3) fun b hb _=>hH3 b (by have hb':=hb;have:=HSA.out;have:=HSB.out;have:=HSP.out;have:=HSQ.out;omega);have hvb3:=hvb.keep (w':=W3) fun b hb _=>hH3 b (by have hb':=hb;have:=HSA.out;have:=HSB.out;have:=HSP.out;have:=HSQ.out;omega);have hbq3:=box5_block HBQ.out (hH3 aQ (fun e=>hne e.symm));obtain⟨W4,hW4,hB4,hH4,hS4,hX4⟩:=box5_set hbq3 (.int .i64 xb.kind) (.int .i64 xb.size) (.int .i64 xb.count) (.slice A6 n6 c6) (.slice B6 m6 e6);have HE4:=hid (hX4 W0 (hX3 W0 HXend.out (by have:=HGP.out;omega)) (by have:=HGQ.out;omega));have HTA:=hid (tyb_keep (t:=xa) hB3 hva3 hH4 hne (fun b hb=>by have hb':=hb;have:=HSA.out;have:=HSB.out;have:=HSP.out;have:=HSQ.out;omega));have HTB:Hid (TyB d W4 aQ xb):=hid ⟨A6,n6,c6,B6,m6,e6,hB4,(hvb3.keep fun b hb _=>hH4 b (by have hb':=hb;have:=HSA.out;have:=HSB.out;have:=HSP.out;have:=HSQ.out;omega)).all⟩;have hne2:aQ≠aP:=fun e=>hne e.symm;have HW34:=hid (And.intro hW3 hW4);obtain⟨z0,z1,z2,z3,z4,zf⟩:=HBP.out;have f0:=zf 0;have f1:=zf 1;have f2:=zf 2;have f3:=zf 3;have f4:=zf 4;obtain⟨y0,y1,y2,y3,y4,yf⟩:=HBQ.out;have j0:=yf 0;have j1:=yf 1;have j2:=yf 2;have j3:=yf 3;have j4:=yf 4;clear hva hvb hB3 hH3 hS3 hX3 hva3 hvb3 hB4 hH4 hS4 hX4 zf yf hW3 hW4 HVA HVB HBP HBQ hbq3
     go_wp2
     rw[HW34.out.1,HW34.out.2];go_meet;exact⟨aP,aQ,rfl,rfl,HE4,HTA,HTB⟩
   case' g3qb8x25=>
    go_simp;obtain⟨wP,aP,hA1,hsz,hEg3q3,hge,hob,hss⟩:=newT HXg3q_2.out;refine Eq.mpr (congrArg (K _) hA1) ?_
    first|rw[hsz]|(have hq:W0.heap.size=aP:=hsz;rw[hq];clear hq)|skip
    have HBP:=hid hob;have HGP:=hid hge;have HSP:=hid (And.intro hsz hss);clear hA1 hsz hge hob hss;have HXg3q_3:=hid (HXg3q_2.out.trans hEg3q3);have HBQ:=hid (HBQ.out.ext hEg3q3);have HVA:=hid (HVA.out.ext hEg3q3);clear hEg3q3;refine rgK hK (HSK.out _ HXg3q_3.out) (fun hSg3q3=>?_);clear hK K;refine wpAnyH_ready (rs:=[7]) (by kernel_rfl) (by simp) ?_;refine(AllReadyH.consL rfl (fun K hK=>?g3qb7x27) AllReadyH.nil)
    case' g3qb7x27=>
     go_simp;go_at_call 18;refine(HCB.out _ HXg3q_3.out).mono ?_;rintro e w6 ⟨v6,rfl,hv6,hEg3q4⟩;have HSB:=hid (hEg3q4).size;have HVB:=hid (tyv_lt hv6);obtain⟨A6,n6,c6,B6,m6,e6,rfl, -⟩:=hv6;have HXg3q_4:=hid (HXg3q_3.out.trans hEg3q4);have HBQ:=hid (HBQ.out.ext hEg3q4);have HVA:=hid (HVA.out.ext hEg3q4);have HBP:=hid (HBP.out.ext hEg3q4);clear hEg3q4;refine rgK hK (HSK.out _ HXg3q_4.out) (fun hSg3q4=>?_);clear hK K;have HXend:=HXg3q_4;refine wpAnyH_done (by kernel_rfl) ?_ _;change wpList _ _ _ _ _ _;have hva:=HVA.out;have hvb:=HVB.out;obtain⟨W3,hW3,hB3,hH3,hS3,hX3⟩:=box5_set HBP.out (.int .i64 xa.kind) (.int .i64 xa.size) (.int .i64 xa.count) (.slice A5 n5 c5) (.slice B5 m5 e5);have hne:aP≠aQ:=by have:=HSA.out;have:=HSB.out;have:=HSP.out;have:=HSQ.out;omega
     have hva3:=hva.keep (w':=W3) fun b hb _=>hH3 b (by have hb':=hb;have:=HSA.out;have:=HSB.out;have:=HSP.out;have:=HSQ.out;omega);have hvb3:=hvb.keep (w':=W3) fun b hb _=>hH3 b (by have hb':=hb;have:=HSA.out;have:=HSB.out;have:=HSP.out;have:=HSQ.out;omega);have hbq3:=box5_block HBQ.out (hH3 aQ (fun e=>hne e.symm));obtain⟨W4,hW4,hB4,hH4,hS4,hX4⟩:=box5_set hbq3 (.int .i64 xb.kind) (.int .i64 xb.size) (.int .i64 xb.count) (.slice A6 n6 c6) (.slice B6 m6 e6);have HE4:=hid (hX4 W0 (hX3 W0 HXend.out (by have:=HGP.out;omega)) (by have:=HGQ.out;omega));have HTA:=hid (tyb_keep (t:=xa) hB3 hva3 hH4 hne (fun b hb=>by have hb':=hb;have:=HSA.out;have:=HSB.out;have:=HSP.out;have:=HSQ.out;omega));have HTB:Hid (TyB d W4 aQ xb):=hid ⟨A6,n6,c6,B6,m6,e6,hB4,(hvb3.keep fun b hb _=>hH4 b (by have hb':=hb;have:=HSA.out;have:=HSB.out;have:=HSP.out;have:=HSQ.out;omega)).all⟩;have hne2:aQ≠aP:=fun e=>hne e.symm;have HW34:=hid (And.intro hW3 hW4);obtain⟨z0,z1,z2,z3,z4,zf⟩:=HBP.out;have f0:=zf 0;have f1:=zf 1;have f2:=zf 2;have f3:=zf 3;have f4:=zf 4;obtain⟨y0,y1,y2,y3,y4,yf⟩:=HBQ.out;have j0:=yf 0;have j1:=yf 1;have j2:=yf 2;have j3:=yf 3;have j4:=yf 4;clear hva hvb hB3 hH3 hS3 hX3 hva3 hvb3 hB4 hH4 hS4 hX4 zf yf hW3 hW4 HVA HVB HBP HBQ hbq3
     go_wp2
     rw[HW34.out.1,HW34.out.2];go_meet;exact⟨aP,aQ,rfl,rfl,HE4,HTA,HTB⟩
  case' g3qb8x24=>
   go_simp;obtain⟨wP,aP,hA1,hsz,hEg3q2,hge,hob,hss⟩:=newT HXg3q_1.out;refine Eq.mpr (congrArg (K _) hA1) ?_
   first|rw[hsz]|(have hq:W0.heap.size=aP:=hsz;rw[hq];clear hq)|skip
   have HBP:=hid hob;have HGP:=hid hge;have HSP:=hid (And.intro hsz hss);clear hA1 hsz hge hob hss;have HXg3q_2:=hid (HXg3q_1.out.trans hEg3q2);have HBQ:=hid (HBQ.out.ext hEg3q2);clear hEg3q2;refine rgK hK (HSK.out _ HXg3q_2.out) (fun hSg3q2=>?_);clear hK K;refine wpAnyH_ready (rs:=[3]) (by kernel_rfl) (by simp) ?_;refine(AllReadyH.consL rfl (fun K hK=>?g3qb3x28) AllReadyH.nil)
   case' g3qb3x28=>
    go_simp;go_at_call 18;refine(HCA.out _ HXg3q_2.out).mono ?_;rintro e w5 ⟨v5,rfl,hv5,hEg3q3⟩;have HSA:=hid (hEg3q3).size;have HVA:=hid (tyv_lt hv5);obtain⟨A5,n5,c5,B5,m5,e5,rfl, -⟩:=hv5;have HXg3q_3:=hid (HXg3q_2.out.trans hEg3q3);have HBQ:=hid (HBQ.out.ext hEg3q3);have HBP:=hid (HBP.out.ext hEg3q3);clear hEg3q3;refine rgK hK (HSK.out _ HXg3q_3.out) (fun hSg3q3=>?_);clear hK K;refine wpAnyH_ready (rs:=[7]) (by kernel_rfl) (by simp) ?_;refine(AllReadyH.consL rfl (fun K hK=>?g3qb7x29) AllReadyH.nil)
    case' g3qb7x29=>
     go_simp;go_at_call 18;refine(HCB.out _ HXg3q_3.out).mono ?_;rintro e w6 ⟨v6,rfl,hv6,hEg3q4⟩;have HSB:=hid (hEg3q4).size;have HVB:=hid (tyv_lt hv6);obtain⟨A6,n6,c6,B6,m6,e6,rfl, -⟩:=hv6;have HXg3q_4:=hid (HXg3q_3.out.trans hEg3q4);have HBQ:=hid (HBQ.out.ext hEg3q4);have HBP:=hid (HBP.out.ext hEg3q4);have HVA:=hid (HVA.out.ext hEg3q4);clear hEg3q4;refine rgK hK (HSK.out _ HXg3q_4.out) (fun hSg3q4=>?_);clear hK K;have HXend:=HXg3q_4;refine wpAnyH_done (by kernel_rfl) ?_ _;change wpList _ _ _ _ _ _;have hva:=HVA.out;have hvb:=HVB.out;obtain⟨W3,hW3,hB3,hH3,hS3,hX3⟩:=box5_set HBP.out (.int .i64 xa.kind) (.int .i64 xa.size) (.int .i64 xa.count) (.slice A5 n5 c5) (.slice B5 m5 e5);have hne:aP≠aQ:=by have:=HSA.out;have:=HSB.out;have:=HSP.out;have:=HSQ.out;omega
     have hva3:=hva.keep (w':=W3) fun b hb _=>hH3 b (by have hb':=hb;have:=HSA.out;have:=HSB.out;have:=HSP.out;have:=HSQ.out;omega);have hvb3:=hvb.keep (w':=W3) fun b hb _=>hH3 b (by have hb':=hb;have:=HSA.out;have:=HSB.out;have:=HSP.out;have:=HSQ.out;omega);have hbq3:=box5_block HBQ.out (hH3 aQ (fun e=>hne e.symm));obtain⟨W4,hW4,hB4,hH4,hS4,hX4⟩:=box5_set hbq3 (.int .i64 xb.kind) (.int .i64 xb.size) (.int .i64 xb.count) (.slice A6 n6 c6) (.slice B6 m6 e6);have HE4:=hid (hX4 W0 (hX3 W0 HXend.out (by have:=HGP.out;omega)) (by have:=HGQ.out;omega));have HTA:=hid (tyb_keep (t:=xa) hB3 hva3 hH4 hne (fun b hb=>by have hb':=hb;have:=HSA.out;have:=HSB.out;have:=HSP.out;have:=HSQ.out;omega));have HTB:Hid (TyB d W4 aQ xb):=hid ⟨A6,n6,c6,B6,m6,e6,hB4,(hvb3.keep fun b hb _=>hH4 b (by have hb':=hb;have:=HSA.out;have:=HSB.out;have:=HSP.out;have:=HSQ.out;omega)).all⟩;have hne2:aQ≠aP:=fun e=>hne e.symm;have HW34:=hid (And.intro hW3 hW4);obtain⟨z0,z1,z2,z3,z4,zf⟩:=HBP.out;have f0:=zf 0;have f1:=zf 1;have f2:=zf 2;have f3:=zf 3;have f4:=zf 4;obtain⟨y0,y1,y2,y3,y4,yf⟩:=HBQ.out;have j0:=yf 0;have j1:=yf 1;have j2:=yf 2;have j3:=yf 3;have j4:=yf 4;clear hva hvb hB3 hH3 hS3 hX3 hva3 hvb3 hB4 hH4 hS4 hX4 zf yf hW3 hW4 HVA HVB HBP HBQ hbq3
     go_wp2
     rw[HW34.out.1,HW34.out.2];go_meet;exact⟨aP,aQ,rfl,rfl,HE4,HTA,HTB⟩
end Go.Proofs.YtlmipgdnlfjpaaaGreat
