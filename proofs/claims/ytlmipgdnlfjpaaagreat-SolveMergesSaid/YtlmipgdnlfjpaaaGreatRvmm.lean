/- Merged by program from texts of my own. -/
import Derived.Test.YtlmipgdnlfjpaaaGreatRvAm
namespace Go.Proofs.YtlmipgdnlfjpaaaGreat
open Go.RowKit Go.Deco Go.Maps
set_option linter.unusedSimpArgs false
set_option linter.unusedVariables false
set_option maxRecDepth 100000 in
set_option maxHeartbeats 4000000 in
theorem solved33_any (d:Nat)(w:World)(A:Option Addr)(n c:Nat)(ts:List Ty)(hs:Sl (tyR d) w All (.slice A n c) ts)(hn:n≤1048576):
  Calls Tryz.prog 38 #[.slice A n c] w (SolnIs w (.slice A n c) ts):=by
 have hlen:=hs.len;obtain⟨hc1,hc2⟩:=hs.cap;obtain⟨j0,hj,hj0,hj1,hj2⟩:=info_parts info_int;obtain⟨W0,hW0⟩:∃W0,(w.alloc (.cells #[.slice none 0 0,.slice none 0 0] 34)).alloc (.cells #[.slice none 0 0,.slice none 0 0] 34)=W0:=⟨_,rfl⟩;have hE0:Ext w W0:=by rw[←hW0];exact((Ext.refl w).alloc _).alloc _
 have hR:Box2 W0 w.heap.size (.slice none 0 0) (.slice none 0 0):=by rw[←hW0];exact(Box2.new w _ _ _).ext ((Ext.refl _).alloc _)
 have hP:Box2 W0 (w.heap.size+1) (.slice none 0 0) (.slice none 0 0):=by
  rw[←hW0];have:=Box2.new (w.alloc (.cells #[.slice none 0 0,.slice none 0 0] 34)) (.slice none 0 0) (.slice none 0 0) 34
  rwa [show(w.alloc (.cells #[.slice none 0 0,.slice none 0 0] 34)).heap.size=w.heap.size+1 by simp]at this
 obtain⟨W1,hW1,hP1,hH1,hS1,hX1⟩:=box2_set hP (.slice A n c) (.slice none 0 0);have HX1:=hid (hX1 w hE0 (by omega));have HW1:=hid hW1;have HP1:=hid hP1;have HR1:=hid (hR.block (hH1 w.heap.size (by omega)));have HS:=hid hs;have HL:=hid hlen;have HJ:=hid hj;have HJ0:=hid hj0;have HJ1:=hid hj1;have HJ2:=hid hj2;obtain⟨z0,z1,zf⟩:=hP;have y0:=zf 0;have y1:=zf 1;clear hE0 hR hW1 hP1 hH1 hS1 hX1 hs hlen hj hj0 hj1 hj2 zf;go_enter Tryz.func38,Tryz.ntmps38;go_upto_region 2 with fail
 rw[HW1.out];clear z0 z1 y0 y1 hW0
 go_wp2
 go_loopw [4] (fun i wr=>∃(k q:Nat) (B:Option Addr) (cb:Nat),k≤n∧i= .int .i64 k∧q≤k∧Hid ((badL (ts.take k)).length=q)∧Hid (OwnS natR wr (w.heap.size+2) 3 All (.slice B q cb) (badL (ts.take k)))∧Hid (Ext w wr)∧Hid (Box2 wr w.heap.size (.slice none 0 0) (.slice none 0 0))∧Hid (Box2 wr (w.heap.size+1) (.slice A n c) (.slice B q cb))) (fun i _=>n - (intOf i).toNat)
 case atStart=>exact⟨0,0,none,0,by omega,rfl,by omega,hid rfl,hid OwnS.nil,HX1,HR1,HP1⟩
 case round=>
  obtain⟨k,q,B,cb,hk,rfl,hq,HQ,HO,HX,HR,HP⟩:=hrel;have HG:Hid (∀g,(Value.slice B q cb).ownBlock=some g→w.heap.size+2≤g):=hid (fun g hg=>(HO.out.block g hg).1);by_cases h1:k<n
  ·obtain⟨x,hx⟩:∃x,ts[k]? =some x:=⟨_,List.getElem?_eq_getElem (by have:=HL.out;omega)⟩;obtain⟨d1,bx,ox,P1,np1,cp1,P2,np2,cp2,hd,rfl,hv1,x0,x1,x2,x3,x4⟩:=(HS.out.ext HX.out).ty_at hx;have HBT:=hid (badL_take hx);have i1:(k:Int)<(n:Int):=by omega
   clear hd hv1 hx x1 x2 x3 x4;by_cases h2:x.kind=6
   ·have g2:(x.kind == 6)=true:=by simp[h2]
    rw[if_pos h2]at HBT;clear h2;obtain⟨p0,p1,pf⟩:=HP.out;have pf1:=pf 1
    go_wp2_with (first
     |(at_builtin;refine wpList_app1l rfl (.tmp 20) (.tmp 22) 26 rfl (w.heap.size+2) 3 j0 _ 1 8 Tryz.underlying26 HJ.out HJ0.out HJ1.out HJ2.out rfl natR rfl (.slice B q cb) (badL (ts.take k)) rfl HO.out wr.heap.size rfl k rfl ⟨rfl,by omega⟩ (by have:=HQ.out;omega) (by have:=HQ.out;omega) (by have:=HP.out.lt;omega) ?_;intro A5 c5 w5 hown5 hg5 hl5;have HO5:=hid hown5;have HG5:=hid hg5;have HL5:=hid hl5;have HR5:=hid (soln_box HR.out hg5 HG.out (by omega));have HP5:=hid (soln_box HP.out hg5 HG.out (by omega));clear hown5 hg5 hl5 p0 p1 pf pf1 x0;obtain⟨p0,p1,pf⟩:=HP5.out;have pf1:=pf 1)
     |fail)
    have HX5:=hid ((HX.out.alloc (.cells #[.int .i64 (k:Int)] 3)).grown HG5.out (fun g hg=>by have:=HG.out g hg;omega))
    first
     |go_roundw
     |refine⟨?rel, ?measure⟩
    case rel=>
     have hl:(badL (ts.take k)).length=q:=HQ.out;have ho:=HO5.out;have hL5:=HL5.out;rw[hl]at ho hL5 ⊢;refine⟨k+1,q+1,A5,c5,by omega,by go_num,by omega,hid (by rw[HBT.out];simp[hl]),hid ?_,hid (HX5.out.setCell (p:=⟨w.heap.size+1,1,none⟩) (Nat.le_succ _) _),hid (HR5.out.far (by simp)),hid (HP5.out.put1 _)⟩;rw[HBT.out]
     exact own_far_all ho (fun e=>by
      rcases hL5 _ e with h|h
      ·have h1:w.heap.size+2≤w.heap.size+1:=HG.out _ h;omega
      ·have h1:wr.heap.size<w.heap.size+1:=h;have:=HP.out.lt;omega)
    case measure=>simp [intOf];omega
   ·have g2:(x.kind == 6)=false:=by simp[h2]
    rw[if_neg h2,List.append_nil]at HBT;clear h2
    go_wp2
    first
     |go_roundw
     |refine⟨?rel, ?measure⟩
    case rel=>exact⟨k+1,q,B,cb,by omega,by go_num,by omega,hid (by rw[HBT.out];exact HQ.out),hid (by rw[HBT.out];exact HO.out),HX,HR,HP⟩
    case measure=>simp [intOf];omega
  ·obtain rfl:k=n:=by omega
   have i1:¬(k:Int)<(k:Int):=by omega
   have hl:(badL (ts.take k)).length=q:=HQ.out;have ht:ts.take k=ts:=List.take_of_length_le (by have:=HL.out;omega);rw[ht]at hl HO;subst hl;have HSL:=hid (HO.out.num_sl (S:=fun b=>w.heap.size+2≤b) (fun _ h=>h));obtain⟨r0,r1,rf⟩:=HR.out;have u0:=rf 0;have u1:=rf 1;obtain⟨p0,p1, -⟩:=HP.out;obtain⟨W3,hW3,hB3,hH3,hS3,hX3⟩:=box2_set HR.out (.slice A k c) (.slice B (badL ts).length cb);obtain⟨t0,t1, -⟩:=hB3;have HW3:=hid hW3;have HX3:=hid (hX3 w HX.out (Nat.le_refl _));have HH3:=hid hH3;clear hW3 hH3 hX3 hS3 rf
   go_wp2
   rw[HW3.out];clear r0 r1;refine bodyPost_ret (v:= .agg #[.slice A k c,.slice B (badL ts).length cb]) (by simp[results,Tryz.results38,go_sem,t0,t1]) rfl ?_;exact⟨_,_,rfl,(HSL.out.keep fun b hb _=>HH3.out b (by have hb':w.heap.size+2≤b:=hb;omega)).mono fun b hb _=>by have hb':w.heap.size+2≤b:=hb;show w.heap.size≤b;omega,HX3.out⟩
end Go.Proofs.YtlmipgdnlfjpaaaGreat
namespace Go.Proofs.YtlmipgdnlfjpaaaGreat
open Go.RowKit Go.Deco Go.Maps
set_option linter.unusedSimpArgs false
set_option linter.unusedVariables false
def mrgT (ts us:List Ty):List Ty:=(List.range (max ts.length us.length)).map fun v:Nat=>joinG (typeAt ts v) (typeAt us v)
theorem mrgT_len (ts us:List Ty):(mrgT ts us).length=max ts.length us.length:=by unfold mrgT;simp
theorem mrgT_at {ts us:List Ty}{v:Nat}(h:v<max ts.length us.length):(mrgT ts us)[v]? =some (joinG (typeAt ts v) (typeAt us v)):=by
 unfold mrgT;rw[List.getElem?_map,List.getElem?_range h];rfl
theorem mrgT_of {ts us OUT:List Ty}{L:Nat}(hL:max ts.length us.length=L)(hlen:OUT.length=L)(h:∀v:Nat,v<L→OUT[v]? =some (joinG (typeAt ts v) (typeAt us v))):OUT=mrgT ts us:=by
 refine List.ext_getElem? fun v=>?_;by_cases hv:v<L
 ·rw[h v hv,mrgT_at (by omega)]
 ·rw[List.getElem?_eq_none (by omega),List.getElem?_eq_none (by rw[mrgT_len];omega)]
theorem mrgT_take {ts us:List Ty}{j:Nat}(h:j<max ts.length us.length):(mrgT ts us).take (j+1)=(mrgT ts us).take j ++ [joinG (typeAt ts j) (typeAt us j)]:=take_snoc' (mrgT_at h)
theorem joinG_bn (a b:Ty):bnT (joinG a b)=true:=by
 unfold joinG
 split
 ·rename_i h;exact bn_of_good (join_good h.1 h.2)
 ·decide
def MrgS (w:World)(R:List Ty)(e:Ending)(w':World):Prop:=∃A c B k dd,e= .returned (.agg #[.slice A R.length c,.slice B (badL R).length k])∧Sl (tyR dd) w' All (.slice A R.length c) R∧Sl natR w' All (.slice B (badL R).length k) (badL R)∧Ext w w'
set_option maxRecDepth 100000 in
set_option maxHeartbeats 8000000 in
theorem vmerge_any (d:Nat)(w:World)(A B A2 B2:Option Addr)(n c m e n2 c2 m2 e2:Nat)(ts us:List Ty)(h1:Sl (tyR d) w All (.slice A n c) ts)(h2:Sl (tyR d) w All (.slice A2 n2 c2) us)
  (hb1:∀t∈ts,bnT t=true) (hb2:∀t∈us,bnT t=true) (hn:n≤16) (hn2:n2≤16):
  Calls Tryz.prog 20 #[.agg #[.slice A n c,.slice B m e],.agg #[.slice A2 n2 c2,.slice B2 m2 e2]] w (MrgS w (mrgT ts us)):=by
 have hl1:=h1.len;have hl2:=h2.len;obtain⟨W0,hW0⟩:∃W0,((w.alloc (.cells #[.slice A n c,.slice B m e] 28)).alloc (.cells #[.slice A2 n2 c2,.slice B2 m2 e2] 28)).alloc (.cells #[.slice none 0 0,.slice none 0 0] 28)=W0:=⟨_,rfl⟩;have hE0:Ext w W0:=by rw[←hW0];exact(((Ext.refl w).alloc _).alloc _).alloc _
 have hs0:W0.heap.size=w.heap.size+3:=by rw[←hW0];simp
 have hP:Box2 W0 w.heap.size (.slice A n c) (.slice B m e):=by rw[←hW0];exact((Box2.new w _ _ _).ext ((Ext.refl _).alloc _)).ext ((Ext.refl _).alloc _)
 have hQ:Box2 W0 (w.heap.size+1) (.slice A2 n2 c2) (.slice B2 m2 e2):=by
  rw[←hW0];have:=Box2.new (w.alloc (.cells #[.slice A n c,.slice B m e] 28)) (.slice A2 n2 c2) (.slice B2 m2 e2) 28;rw[show(w.alloc (.cells #[.slice A n c,.slice B m e] 28)).heap.size=w.heap.size+1 by simp]at this;exact this.ext ((Ext.refl _).alloc _)
 have hR:Box2 W0 (w.heap.size+2) (.slice none 0 0) (.slice none 0 0):=by
  rw[←hW0];have:=Box2.new ((w.alloc (.cells #[.slice A n c,.slice B m e] 28)).alloc (.cells #[.slice A2 n2 c2,.slice B2 m2 e2] 28)) (.slice none 0 0) (.slice none 0 0) 28
  rwa [show((w.alloc (.cells #[.slice A n c,.slice B m e] 28)).alloc (.cells #[.slice A2 n2 c2,.slice B2 m2 e2] 28)).heap.size=w.heap.size+2 by simp]at this
 obtain⟨L,hL⟩:∃L,max n n2=L:=⟨_,rfl⟩;obtain⟨R,hRR⟩:∃R,mrgT ts us=R:=⟨_,rfl⟩;rw[hRR];have HRE:=hid hRR;have HLL:=hid (show max ts.length us.length=L by rw[←hl1,←hl2];exact hL);have HE0:=hid hE0;have HSZ:=hid hs0;have HPB:=hid hP;have HQB:=hid hQ;have HRB:=hid hR;have HS1:=hid h1;have HS2:=hid h2;have HB1:=hid hb1;have HB2:=hid hb2;have hL16:L≤16:=by omega
 obtain⟨w5,hms,hown,hx5⟩:=make_types 0 W0 L W0.heap.size (T:=fun b=>W0.heap.size≤b) (by omega) (Nat.le_refl _);have HX5:=hid hx5;have HOWN:=hid hown;have HHL:=hid hL;clear hE0 hs0 hR h1 h2 hb1 hb2 hl1 hl2 hRR hown hx5 hL;obtain⟨p0,p1, -⟩:=hP;obtain⟨q0,q1, -⟩:=hQ;go_enter Tryz.func20,Tryz.ntmps20;go_upto_region 1 with fail
 go_cut [5] from 7 to 14 (fun s5 wx=>s5= .slice (some ⟨W0.heap.size,0,none⟩) L L∧Hid (Ext W0 wx)∧Hid (OwnS (tyR (0+1)) wx W0.heap.size 42 (fun b=>W0.heap.size≤b) (.slice (some ⟨W0.heap.size,0,none⟩) L L) (List.replicate L Ty.unk)))
 case rest=>
  obtain⟨rfl,HXC,HOC⟩:=hcut;clear hms p0 p1 q0 q1 HX5 HOWN hW0
  go_wp2
  go_loopw [6,17] (fun s6 i wr=>∃(j:Nat) (OUT:List Ty) (dd:Nat),j≤L∧i= .int .i64 j∧Hid (OwnS (tyR (dd+1)) wr W0.heap.size 42 (fun b=>W0.heap.size≤b) (.slice (some ⟨W0.heap.size,0,none⟩) L L) OUT)∧Hid (∀v:Nat,v<j→OUT[v]? =some (joinG (typeAt ts v) (typeAt us v)))∧Hid (Ext W0 wr)) (fun _ i _=>L - (intOf i).toNat)
  case atStart=>exact⟨0,_,0,by omega,rfl,HOC,hid (fun v hv=>absurd hv (Nat.not_lt_zero _)),HXC⟩
  case round=>
   obtain⟨j,OUT,dd,hj,rfl,HO,HFD,HX⟩:=hrel;obtain⟨V,hV⟩:∃V,V=wr:=⟨_,rfl⟩;obtain rfl:=hV;clear HOC HXC;by_cases h1:j<L
   ·obtain⟨xo,hxo⟩:∃xo,OUT[j]? =some xo:=⟨_,List.getElem?_eq_getElem (by have:=HO.out.len;omega)⟩;have HXO:=hid hxo;have i1:(j:Int)<(L:Int):=by omega
    obtain⟨ta,hta⟩:∃t,typeAt ts (j:Int)=t:=⟨_,rfl⟩;obtain⟨tb,htb⟩:∃t,typeAt us (j:Int)=t:=⟨_,rfl⟩;have HC1:=hid (fun w' (hw:Ext V w')=>typeof_any d w' A B n c m e ts (j:Int) (HS1.out.ext (HE0.out.trans (HX.out.trans hw))) HB1.out);have HC2:=hid (fun w' (hw:Ext V w')=>typeof_any d w' A2 B2 n2 c2 m2 e2 us (j:Int) (HS2.out.ext (HE0.out.trans (HX.out.trans hw))) HB2.out);rw[hta]at HC1;rw[htb]at HC2;have HTA:=hid hta;have HTB:=hid htb;obtain⟨tj,htj⟩:∃t,joinG ta tb=t:=⟨_,rfl⟩;have HTJ:=hid htj;have HBJ:=hid (show bnT tj=true by rw[←htj];exact joinG_bn ta tb);have HSK:=hid (fun(w':World) (hh:Ext V w')=>(show w'.cell? ⟨w.heap.size,0,none⟩=some (.slice A n c)∧w'.cell? ⟨w.heap.size,1,none⟩=some (.slice B m e)∧w'.cell? ⟨w.heap.size+1,0,none⟩=some (.slice A2 n2 c2)∧w'.cell? ⟨w.heap.size+1,1,none⟩=some (.slice B2 m2 e2) from⟨(HPB.out.ext (HX.out.trans hh)).1,(HPB.out.ext (HX.out.trans hh)).2.1,(HQB.out.ext (HX.out.trans hh)).1,(HQB.out.ext (HX.out.trans hh)).2.1⟩));clear hxo hta htb htj;go_upto_region 5 with fail
    refine wp_region_split 11 (by kernel_rfl) rfl rfl (by kernel_rfl) (fun w'=>w'.cell? ⟨w.heap.size,0,none⟩=some (.slice A n c)∧w'.cell? ⟨w.heap.size,1,none⟩=some (.slice B m e)∧w'.cell? ⟨w.heap.size+1,0,none⟩=some (.slice A2 n2 c2)∧w'.cell? ⟨w.heap.size+1,1,none⟩=some (.slice B2 m2 e2)) (HSK.out _ (Ext.refl V).drew) (fun hSg1q0=>?_);refine rgT6 0 1 2 3 5 6 ?_;refine rgC 4 (fun K hK=>?_);go_simp;go_at_call 18;refine(HC1.out _ (Ext.refl V).drew).mono ?_;rintro e w6 ⟨v6,rfl,hv6,hx6⟩;have HV6:=hid hv6.all;have HX6:=hid hx6.drew_left;clear hx6 hv6;refine rgK hK (HSK.out _ HX6.out) (fun hSg1q1=>?_);clear hK K;refine rgC 7 (fun K hK=>?_);go_simp;go_at_call 18;refine(HC2.out _ HX6.out).mono ?_;rintro e w7 ⟨v7,rfl,hv7,hx7⟩;have HV7:=hid hv7.all;have HX7:=hid (HX6.out.trans hx7);have HV6:=hid (HV6.out.ext hx7);clear hx7 hv7;refine rgK hK (HSK.out _ HX7.out) (fun hSg1q2=>?_);clear hK K;refine rgC 8 (fun K hK=>?_);go_simp;go_at_call 43;refine(joing_any d _ ta tb v6 v7 HV6.out HV7.out).mono ?_;rintro e w8 ⟨v8,rfl,hv8,hx8⟩;have HV8:=hid hv8.all;have HX8:=hid (HX7.out.trans hx8);rw[HTJ.out]at HV8;clear hx8 hv8;refine rgK hK (HSK.out _ HX8.out) (fun hSg1q3=>?_);clear hK K;refine rgC 9 (fun K hK=>?_);go_simp;go_at_call 30;refine(copy_any d _ tj v8 HV8.out HBJ.out).mono ?_;rintro e w9 ⟨v9,rfl,hv9,hx9⟩;have HV9:=hid hv9;have HX9:=hid (HX8.out.trans hx9);obtain⟨A9,n9,c9,B9,m9,e9,rfl, -⟩:=hv9;clear hx9;refine rgK hK (HSK.out _ HX9.out) (fun hSg1q4=>?_);clear hK K;refine rgT 10 ?_;refine wpAnyH_done (by kernel_rfl) ?_ _;change wpList _ _ _ _ _ _;have hg0:=(HO.out.block W0.heap.size rfl).2;have HV9':Hid (TyV d w9 (fun b=>W0.heap.size≤b∧b≠W0.heap.size) (.agg #[.int .i64 tj.kind,.int .i64 tj.size,.int .i64 tj.count,.slice A9 n9 c9,.slice B9 m9 e9]) tj):=hid (HV9.out.mono (fun b hb _=>by have hb':w8.heap.size≤b:=hb;have:=HX8.out.size;exact⟨by omega,by omega⟩));have HO9:=hid (HO.out.ext HX9.out);obtain⟨d2,A3,n3,c3,B3,m3,e3, -, -,y0,y1,y2,y3,y4,hfr⟩:=ownTy_at HO9.out HXO.out;have g3:=hfr 0 (by omega);rw[Nat.add_zero]at g3;have g4:=hfr 1 (by omega);have g5:=hfr 2 (by omega);have g6:=hfr 3 (by omega);have g7:=hfr 4 (by omega);have hown8:=ownTy_put (OwnS.ty_up (show dd+1≤max dd d+1 by omega) HO9.out) (x:=xo) (x':=tj) HXO.out (HV9'.out.up (show d≤max dd d by omega));obtain⟨W8,hW8⟩:∃W8,setRow w9 W0.heap.size (j * 5) [.int .i64 tj.kind,.int .i64 tj.size,.int .i64 tj.count,.slice A9 n9 c9,.slice B9 m9 e9]=W8:=⟨_,rfl⟩;have HX8':Hid (Ext W0 W8):=hid (by rw[←hW8];exact setRow_ext _ _ _ (HX.out.trans HX9.out) (Nat.le_refl _));rw[hW8]at hown8;have HO8:=hid hown8;have HW8:=hid hW8;clear hown8 hW8 hfr hg0
    go_wp2
    rw[show(((((World.setCell w9 ⟨W0.heap.size,j * 5,none⟩ (.int .i64 tj.kind)).setCell ⟨W0.heap.size,j * 5+1,none⟩ (.int .i64 tj.size)).setCell ⟨W0.heap.size,j * 5+2,none⟩ (.int .i64 tj.count)).setCell ⟨W0.heap.size,j * 5+3,none⟩ (.slice A9 n9 c9)).setCell ⟨W0.heap.size,j * 5+4,none⟩ (.slice B9 m9 e9))=W8 from HW8.out]
    first
     |go_roundw
     |refine⟨?rel, ?measure⟩
    case rel=>
     refine⟨j+1,OUT.set j tj,max dd d,by omega,by go_num,HO8,hid (fun v hv=>?_),HX8'⟩;by_cases hvj:v=j
     ·subst hvj;rw[List.getElem?_set_self (List.getElem?_eq_some_iff.1 HXO.out).1,HTA.out,HTB.out,HTJ.out]
     ·rw[List.getElem?_set_ne (Ne.symm hvj)];exact HFD.out v (by omega)
    case measure=>simp [intOf];omega
   ·obtain rfl:j=L:=by omega
    have i1:¬(j:Int)<(j:Int):=by omega
    have hol:=HO.out.len;have hout:OUT=R:=by rw[←HRE.out];exact mrgT_of HLL.out hol.symm HFD.out
    subst hout;have HOL:=hid hol;have HSN:=hid (soln_any (dd+1) V (some ⟨W0.heap.size,0,none⟩) j j OUT HO.out.sl (by omega));clear hol
    go_wp2_with fail
    refine HSN.out.mono ?_;rintro e w6 ⟨B6,c6,rfl,hb6,hx6⟩;have HB6:=hid hb6;have HX6:=hid (HX.out.trans hx6);have HX66:=hid hx6;have hsV:=HX.out.size;clear hx6 hb6;obtain⟨r0,r1,rf⟩:=(HRB.out.ext HX6.out);have u0:=rf 0;have u1:=rf 1;obtain⟨W9,hW9,hB9,hH9,hS9,hX9⟩:=box2_set ((HRB.out.ext HX6.out)) (.slice (some ⟨W0.heap.size,0,none⟩) j j) (.slice B6 (badL OUT).length c6);obtain⟨t0,t1, -⟩:=hB9;have HW9:=hid hW9;have HX9:=hid (hX9 w (HE0.out.trans HX6.out) (by omega));have HH9:=hid hH9;clear hW9 hH9 hS9 hX9 rf
    go_wp2
    rw[HW9.out];clear r0 r1;refine bodyPost_ret (v:= .agg #[(.slice (some ⟨W0.heap.size,0,none⟩) j j),(.slice B6 (badL OUT).length c6)]) (by simp[results,Tryz.results20,go_sem,t0,t1]) rfl ?_;refine⟨some ⟨W0.heap.size,0,none⟩,j,B6,c6,dd+1,by rw[←HOL.out], ?_, ?_,HX9.out⟩
    ·have h5:=(HO.out.ext HX66.out).slT (S:=fun b=>W0.heap.size≤b) (fun b hb=>hb) (fun k hk=>(HO.out.block k hk).1);rw[←HOL.out];exact(h5.keep (w':=W9) (fun b hb _=>HH9.out b (by have:=HSZ.out;have hb':W0.heap.size≤b:=hb;omega))).mono fun _ _ _=>trivial
    ·exact(HB6.out.keep (w':=W9) (fun b hb _=>HH9.out b (by have:=HSZ.out;have hb':V.heap.size≤b:=hb;omega))).mono fun _ _ _=>trivial
 have im:max (n:Int) (n2:Int)=(L:Int):=by have:=HHL.out;omega
 go_wp2
 go_meet;exact⟨rfl,HX5,HOWN⟩
end Go.Proofs.YtlmipgdnlfjpaaaGreat
namespace Go.Proofs.YtlmipgdnlfjpaaaGreat
open Go.RowKit Go.Deco Go.Maps
set_option linter.unusedSimpArgs false
set_option linter.unusedVariables false
set_option maxRecDepth 100000 in
set_option maxHeartbeats 8000000 in
theorem rmerge_any (d:Nat)(w:World)(A B A2 B2:Option Addr)(n c m e n2 c2 m2 e2:Nat)(ts us:List Ty)(h1:Sl (tyR d) w All (.slice A n c) ts)(h2:Sl (tyR d) w All (.slice A2 n2 c2) us)(hn:n≤16)(hn2:n2≤16):
  Calls Tryz.prog 21 #[.agg #[.slice A n c,.slice B m e],.agg #[.slice A2 n2 c2,.slice B2 m2 e2]] w (MrgS w (mrgT ts us)):=by
 have hl1:=h1.len;have hl2:=h2.len;obtain⟨W0,hW0⟩:∃W0,((w.alloc (.cells #[.slice A n c,.slice B m e] 34)).alloc (.cells #[.slice A2 n2 c2,.slice B2 m2 e2] 34)).alloc (.cells #[.slice none 0 0,.slice none 0 0] 34)=W0:=⟨_,rfl⟩;have hE0:Ext w W0:=by rw[←hW0];exact(((Ext.refl w).alloc _).alloc _).alloc _
 have hs0:W0.heap.size=w.heap.size+3:=by rw[←hW0];simp
 have hP:Box2 W0 w.heap.size (.slice A n c) (.slice B m e):=by rw[←hW0];exact((Box2.new w _ _ _).ext ((Ext.refl _).alloc _)).ext ((Ext.refl _).alloc _)
 have hQ:Box2 W0 (w.heap.size+1) (.slice A2 n2 c2) (.slice B2 m2 e2):=by
  rw[←hW0];have:=Box2.new (w.alloc (.cells #[.slice A n c,.slice B m e] 34)) (.slice A2 n2 c2) (.slice B2 m2 e2) 34;rw[show(w.alloc (.cells #[.slice A n c,.slice B m e] 34)).heap.size=w.heap.size+1 by simp]at this;exact this.ext ((Ext.refl _).alloc _)
 have hR:Box2 W0 (w.heap.size+2) (.slice none 0 0) (.slice none 0 0):=by
  rw[←hW0];have:=Box2.new ((w.alloc (.cells #[.slice A n c,.slice B m e] 34)).alloc (.cells #[.slice A2 n2 c2,.slice B2 m2 e2] 34)) (.slice none 0 0) (.slice none 0 0) 34
  rwa [show((w.alloc (.cells #[.slice A n c,.slice B m e] 34)).alloc (.cells #[.slice A2 n2 c2,.slice B2 m2 e2] 34)).heap.size=w.heap.size+2 by simp]at this
 obtain⟨L,hL⟩:∃L,max n n2=L:=⟨_,rfl⟩;obtain⟨R,hRR⟩:∃R,mrgT ts us=R:=⟨_,rfl⟩;rw[hRR];have HRE:=hid hRR;have HLL:=hid (show max ts.length us.length=L by rw[←hl1,←hl2];exact hL);have HRL:=hid (show R.length=L by rw[←hRR,mrgT_len,←hl1,←hl2];exact hL);have HE0:=hid hE0;have HSZ:=hid hs0;have HPB:=hid hP;have HQB:=hid hQ;have HRB:=hid hR;have HS1:=hid h1;have HS2:=hid h2;have hL16:L≤16:=by omega
 have HHL:=hid hL;obtain⟨i0,hi0,hi1,hi2,hi3⟩:=info_parts info_ty33;have HI:=hid hi0;have HI0:=hid hi1;have HI1:=hid hi2;have HI2:=hid hi3;clear hE0 hs0 hP hQ hR h1 h2 hl1 hl2 hRR hL hi0 hi1 hi2 hi3;go_enter Tryz.func21,Tryz.ntmps21
 go_wp2
 clear hW0
 go_loopw [5,6] (fun s5 i wr=>∃(j:Nat) (G:Option Addr) (cg:Nat),j≤L∧i= .int .i64 j∧s5= .slice G j cg∧Hid (OwnS (tyR (d+1)) wr W0.heap.size 42 (fun b=>b<w.heap.size∨W0.heap.size≤b) (.slice G j cg) (R.take j))∧Hid (Ext W0 wr)) (fun _ i _=>L - (intOf i).toNat)
 case atStart=>exact⟨0,none,0,by omega,rfl,rfl,hid (by simpa using OwnS.nil),hid (Ext.refl _)⟩
 case round=>
  obtain⟨j,G,cg,hj,rfl,rfl,HO,HX⟩:=hrel;obtain⟨V,hV⟩:∃V,V=wr:=⟨_,rfl⟩;obtain rfl:=hV;have p0:=(HPB.out.ext HX.out).1;have q0:=(HQB.out.ext HX.out).1;by_cases h1:j<L
  ·obtain⟨ta,hta⟩:∃t,typeAt ts (j:Int)=t:=⟨_,rfl⟩;obtain⟨tb,htb⟩:∃t,typeAt us (j:Int)=t:=⟨_,rfl⟩;have HC1:=hid (fun w' (hw:Ext V w')=>typeof33_any d w w' A B n c m e ts (j:Int) (HE0.out.trans (HX.out.trans hw)) HS1.out);have HC2:=hid (fun w' (hw:Ext V w')=>typeof33_any d w w' A2 B2 n2 c2 m2 e2 us (j:Int) (HE0.out.trans (HX.out.trans hw)) HS2.out);rw[hta]at HC1;rw[htb]at HC2;obtain⟨tj,htj⟩:∃t,joinG ta tb=t:=⟨_,rfl⟩;have HTJ:=hid htj;have HTK:Hid (R.take (j+1)=R.take j ++ [tj]):=hid (by rw[←HRE.out,mrgT_take (by have:=HLL.out;omega),hta,htb,htj]);have HKL:Hid ((R.take j).length=j):=hid (by rw[List.length_take];have:=HRL.out;omega);have HSK:=hid (fun(w':World) (hh:Ext V w')=>(show w'.cell? ⟨w.heap.size,0,none⟩=some (.slice A n c)∧w'.cell? ⟨w.heap.size,1,none⟩=some (.slice B m e)∧w'.cell? ⟨w.heap.size+1,0,none⟩=some (.slice A2 n2 c2)∧w'.cell? ⟨w.heap.size+1,1,none⟩=some (.slice B2 m2 e2) from⟨(HPB.out.ext (HX.out.trans hh)).1,(HPB.out.ext (HX.out.trans hh)).2.1,(HQB.out.ext (HX.out.trans hh)).1,(HQB.out.ext (HX.out.trans hh)).2.1⟩));have hVs:W0.heap.size≤V.heap.size:=HX.out.size;have HVS:=hid hVs;have hlr:(j:Int)<(max n n2:Nat):=by have:=HHL.out;omega
   have i1:(j:Int)<(n:Int)∨(j:Int)<(n2:Int):=by omega
   have HMX:Hid ((j:Int)<(if (n:Int)<(n2:Int) then (n2:Int) else (n:Int))):=hid (by split <;> omega);clear hta htb htj hVs hlr i1;by_cases hmx:(n:Int)<(n2:Int)
   ·have i2:(j:Int)<(n2:Int):=by have:=HMX.out;rwa [if_pos hmx]at this
    clear HMX;go_upto_region 5 with fail
    clear p0 q0;refine wp_region_held_drew (S:=(fun w'=>w'.cell? ⟨w.heap.size,0,none⟩=some (.slice A n c)∧w'.cell? ⟨w.heap.size,1,none⟩=some (.slice B m e)∧w'.cell? ⟨w.heap.size+1,0,none⟩=some (.slice A2 n2 c2)∧w'.cell? ⟨w.heap.size+1,1,none⟩=some (.slice B2 m2 e2))) (by kernel_rfl) (HSK.out _ (Ext.refl V).drew) (fun hSg1q0=>?_);refine rgT4 0 1 2 4 ?_;refine rgT 5 ?_;refine rgC 3 (fun K hK=>?_);go_simp;go_at_call 19;refine(HC1.out _ (Ext.refl V).drew).mono ?_;rintro e w6 ⟨v6,rfl,hv6,hx6⟩;have HV6:=hid hv6;have HX6:=hid hx6.drew_left;clear hx6 hv6;refine rgK hK (HSK.out _ HX6.out) (fun hSg1q1=>?_);clear hK K;refine rgC 6 (fun K hK=>?_);go_simp;go_at_call 19;refine(HC2.out _ HX6.out).mono ?_;rintro e w7 ⟨v7,rfl,hv7,hx7⟩;have HV7:=hid hv7;have HX7:=hid (HX6.out.trans hx7);clear hx7 hv7;refine rgK hK (HSK.out _ HX7.out) (fun hSg1q2=>?_);clear hK K;refine rgC 7 (fun K hK=>?_);go_simp;go_at_call 44;refine(join31_any d _ (fun b=>b<w.heap.size) ta tb v6 v7 ((HV6.out.mono fun b _ hi=>hi.lt).ext (HE0.out.trans (HX.out.trans HX7.out))) ((HV7.out.mono fun b _ hi=>hi.lt).ext (HE0.out.trans (HX.out.trans HX7.out)))).mono ?_;rintro e w8 ⟨v8,rfl,hv8,hx8⟩;rw[HTJ.out]at hv8;have HV8:=hid hv8;have HX8:=hid (HX7.out.trans hx8);obtain⟨A8,n8,c8,B8,m8,e8,rfl, -⟩:=hv8;clear hx8;refine rgK hK (HSK.out _ HX8.out) (fun hSg1q3=>?_);clear hK K;refine rgC 8 (fun K hK=>?_);go_simp;refine rgK hK (HSK.out _ (HX8.out.alloc _)) (fun hSg1q4=>?_);clear hK K;refine rgC 9 (fun K hK=>?_);have hown8:=HO.out.ext HX8.out
    have hrel8:(tyR (d+1)).rel w8 (fun b=>(b<w.heap.size∨W0.heap.size≤b)∧some b≠(Value.slice G j cg).ownBlock) [.int .i64 tj.kind,.int .i64 tj.size,.int .i64 tj.count,.slice A8 n8 c8,.slice B8 m8 e8] tj:=(by
     refine ty_rel.2 ⟨_,HV8.out.mono fun b hb _=>?_,rfl⟩;have h6:=HO.out.block;have h7:=HX7.out.size;have h8:=HVS.out;have h9:=HSZ.out;rcases hb with hb|hb
     ·exact⟨.inl hb,fun e=>by have:=(h6 b e.symm).1;omega⟩
     ·exact⟨.inr (by omega),fun e=>by have:=(h6 b e.symm).2;omega⟩)
    refine step_app1l rfl (.tmp 18) (.tmp 26) 25 rfl W0.heap.size 42 i0 _ 5 72 Tryz.underlying25 HI.out HI0.out HI1.out HI2.out rfl (tyR (d+1)) (tyR_size _) (.slice G j cg) (R.take j) rfl hown8 tj rfl hrel8 (by rw[HKL.out];omega) (by rw[HKL.out];omega) (by have:=HVS.out;have:=HX8.out.size;omega) ?_;intro A9 c9 w9 hown9 hg9 hloc9;rw[HKL.out,←HTK.out]at hown9;have HO9:=hid hown9;have HX9:=hid (((HX.out.trans HX8.out).alloc _).grown hg9 (fun q hq=>(hown8.block q hq).1));rw[HKL.out];clear hown9 hg9 hloc9 hown8 hrel8;refine rgK hK ⟨(HPB.out.ext HX9.out).1,(HPB.out.ext HX9.out).2.1,(HQB.out.ext HX9.out).1,(HQB.out.ext HX9.out).2.1⟩ (fun hSg1q5=>?_);clear hK K;refine rgT 10 ?_;refine wpAnyH_done (by kernel_rfl) ?_ _
    go_wp2
    first
     |go_roundw
     |refine⟨?rel, ?measure⟩
    case rel=>exact⟨j+1,A9,c9,by omega,by go_num,rfl,HO9,HX9⟩
    case measure=>simp [intOf];omega
   ·have i2:(j:Int)<(n:Int):=by have:=HMX.out;rwa [if_neg hmx]at this
    clear HMX;go_upto_region 5 with fail
    clear p0 q0;refine wp_region_held_drew (S:=(fun w'=>w'.cell? ⟨w.heap.size,0,none⟩=some (.slice A n c)∧w'.cell? ⟨w.heap.size,1,none⟩=some (.slice B m e)∧w'.cell? ⟨w.heap.size+1,0,none⟩=some (.slice A2 n2 c2)∧w'.cell? ⟨w.heap.size+1,1,none⟩=some (.slice B2 m2 e2))) (by kernel_rfl) (HSK.out _ (Ext.refl V).drew) (fun hSg2q0=>?_);refine rgT4 0 1 2 4 ?_;refine rgT 5 ?_;refine rgC 3 (fun K hK=>?_);go_simp;go_at_call 19;refine(HC1.out _ (Ext.refl V).drew).mono ?_;rintro e w6 ⟨v6,rfl,hv6,hx6⟩;have HV6:=hid hv6;have HX6:=hid hx6.drew_left;clear hx6 hv6;refine rgK hK (HSK.out _ HX6.out) (fun hSg2q1=>?_);clear hK K;refine rgC 6 (fun K hK=>?_);go_simp;go_at_call 19;refine(HC2.out _ HX6.out).mono ?_;rintro e w7 ⟨v7,rfl,hv7,hx7⟩;have HV7:=hid hv7;have HX7:=hid (HX6.out.trans hx7);clear hx7 hv7;refine rgK hK (HSK.out _ HX7.out) (fun hSg2q2=>?_);clear hK K;refine rgC 7 (fun K hK=>?_);go_simp;go_at_call 44;refine(join31_any d _ (fun b=>b<w.heap.size) ta tb v6 v7 ((HV6.out.mono fun b _ hi=>hi.lt).ext (HE0.out.trans (HX.out.trans HX7.out))) ((HV7.out.mono fun b _ hi=>hi.lt).ext (HE0.out.trans (HX.out.trans HX7.out)))).mono ?_;rintro e w8 ⟨v8,rfl,hv8,hx8⟩;rw[HTJ.out]at hv8;have HV8:=hid hv8;have HX8:=hid (HX7.out.trans hx8);obtain⟨A8,n8,c8,B8,m8,e8,rfl, -⟩:=hv8;clear hx8;refine rgK hK (HSK.out _ HX8.out) (fun hSg2q3=>?_);clear hK K;refine rgC 8 (fun K hK=>?_);go_simp;refine rgK hK (HSK.out _ (HX8.out.alloc _)) (fun hSg2q4=>?_);clear hK K;refine rgC 9 (fun K hK=>?_);have hown8:=HO.out.ext HX8.out
    have hrel8:(tyR (d+1)).rel w8 (fun b=>(b<w.heap.size∨W0.heap.size≤b)∧some b≠(Value.slice G j cg).ownBlock) [.int .i64 tj.kind,.int .i64 tj.size,.int .i64 tj.count,.slice A8 n8 c8,.slice B8 m8 e8] tj:=(by
     refine ty_rel.2 ⟨_,HV8.out.mono fun b hb _=>?_,rfl⟩;have h6:=HO.out.block;have h7:=HX7.out.size;have h8:=HVS.out;have h9:=HSZ.out;rcases hb with hb|hb
     ·exact⟨.inl hb,fun e=>by have:=(h6 b e.symm).1;omega⟩
     ·exact⟨.inr (by omega),fun e=>by have:=(h6 b e.symm).2;omega⟩)
    refine step_app1l rfl (.tmp 18) (.tmp 26) 25 rfl W0.heap.size 42 i0 _ 5 72 Tryz.underlying25 HI.out HI0.out HI1.out HI2.out rfl (tyR (d+1)) (tyR_size _) (.slice G j cg) (R.take j) rfl hown8 tj rfl hrel8 (by rw[HKL.out];omega) (by rw[HKL.out];omega) (by have:=HVS.out;have:=HX8.out.size;omega) ?_;intro A9 c9 w9 hown9 hg9 hloc9;rw[HKL.out,←HTK.out]at hown9;have HO9:=hid hown9;have HX9:=hid (((HX.out.trans HX8.out).alloc _).grown hg9 (fun q hq=>(hown8.block q hq).1));rw[HKL.out];clear hown9 hg9 hloc9 hown8 hrel8;refine rgK hK ⟨(HPB.out.ext HX9.out).1,(HPB.out.ext HX9.out).2.1,(HQB.out.ext HX9.out).1,(HQB.out.ext HX9.out).2.1⟩ (fun hSg2q5=>?_);clear hK K;refine rgT 10 ?_;refine wpAnyH_done (by kernel_rfl) ?_ _
    go_wp2
    first
     |go_roundw
     |refine⟨?rel, ?measure⟩
    case rel=>exact⟨j+1,A9,c9,by omega,by go_num,rfl,HO9,HX9⟩
    case measure=>simp [intOf];omega
  ·obtain rfl:j=L:=by omega
   have hout:R.take j=R:=List.take_of_length_le (by have:=HRL.out;omega);rw[hout]at HO;have HSN:=hid (solved33_any (d+1) V G j cg R HO.out.sl (by omega));have hgo:∀b,(Value.slice G j cg).ownBlock=some b→W0.heap.size≤b:=fun b hb=>(HO.out.block b hb).1;have HGO:=hid hgo;clear hout hgo;by_cases hmx:(n:Int)<(n2:Int)
   ·have i2:¬(j:Int)<(n2:Int):=by have:=HHL.out;omega
    go_wp2_with fail
    refine HSN.out.mono ?_;rintro e w6 ⟨B6,c6,rfl,hb6,hx6⟩;have HB6:=hid hb6;have HX6:=hid (HX.out.trans hx6);have HX66:=hid hx6;have hsV:=HX.out.size;clear hx6 hb6 p0 q0;obtain⟨r0,r1,rf⟩:=(HRB.out.ext HX6.out);have u0:=rf 0;have u1:=rf 1;obtain⟨W9,hW9,hB9,hH9,hS9,hX9⟩:=box2_set ((HRB.out.ext HX6.out)) (.slice G j cg) (.slice B6 (badL R).length c6);obtain⟨t0,t1, -⟩:=hB9;have HW9:=hid hW9;have HX9:=hid (hX9 w (HE0.out.trans HX6.out) (by omega));have HH9:=hid hH9;clear hW9 hH9 hS9 hX9 rf
    go_wp2
    rw[HW9.out];clear r0 r1;refine bodyPost_ret (v:= .agg #[(.slice G j cg),(.slice B6 (badL R).length c6)]) (by simp[results,Tryz.results21,go_sem,t0,t1]) rfl ?_;refine⟨G,cg,B6,c6,d+1,by rw[HRL.out], ?_, ?_,HX9.out⟩
    ·have h5:=(HO.out.ext HX66.out).slT (S:=fun b=>b≠w.heap.size+2) (fun b hb=>by have:=HSZ.out;rcases hb with hb|hb <;> omega) (fun k hk=>by have:=HGO.out k hk;have:=HSZ.out;omega);rw[HRL.out];exact(h5.keep (w':=W9) (fun b hb _=>HH9.out b hb)).mono fun _ _ _=>trivial
    ·exact(HB6.out.keep (w':=W9) (fun b hb _=>HH9.out b (by have:=HSZ.out;have hb':V.heap.size≤b:=hb;omega))).mono fun _ _ _=>trivial
   ·have i2:¬(j:Int)<(n:Int):=by have:=HHL.out;omega
    go_wp2_with fail
    refine HSN.out.mono ?_;rintro e w6 ⟨B6,c6,rfl,hb6,hx6⟩;have HB6:=hid hb6;have HX6:=hid (HX.out.trans hx6);have HX66:=hid hx6;have hsV:=HX.out.size;clear hx6 hb6 p0 q0;obtain⟨r0,r1,rf⟩:=(HRB.out.ext HX6.out);have u0:=rf 0;have u1:=rf 1;obtain⟨W9,hW9,hB9,hH9,hS9,hX9⟩:=box2_set ((HRB.out.ext HX6.out)) (.slice G j cg) (.slice B6 (badL R).length c6);obtain⟨t0,t1, -⟩:=hB9;have HW9:=hid hW9;have HX9:=hid (hX9 w (HE0.out.trans HX6.out) (by omega));have HH9:=hid hH9;clear hW9 hH9 hS9 hX9 rf
    go_wp2
    rw[HW9.out];clear r0 r1;refine bodyPost_ret (v:= .agg #[(.slice G j cg),(.slice B6 (badL R).length c6)]) (by simp[results,Tryz.results21,go_sem,t0,t1]) rfl ?_;refine⟨G,cg,B6,c6,d+1,by rw[HRL.out], ?_, ?_,HX9.out⟩
    ·have h5:=(HO.out.ext HX66.out).slT (S:=fun b=>b≠w.heap.size+2) (fun b hb=>by have:=HSZ.out;rcases hb with hb|hb <;> omega) (fun k hk=>by have:=HGO.out k hk;have:=HSZ.out;omega);rw[HRL.out];exact(h5.keep (w':=W9) (fun b hb _=>HH9.out b hb)).mono fun _ _ _=>trivial
    ·exact(HB6.out.keep (w':=W9) (fun b hb _=>HH9.out b (by have:=HSZ.out;have hb':V.heap.size≤b:=hb;omega))).mono fun _ _ _=>trivial
set_option maxRecDepth 100000 in
set_option maxHeartbeats 16000000 in
theorem merges_any (d:Nat) (w:World) (A B A2 B2:Option Addr) (n c m e n2 c2 m2 e2:Nat) (ts us:List Ty) (h1:Sl (tyR d) w All (.slice A n c) ts) (h2:Sl (tyR d) w All (.slice A2 n2 c2) us)
  (hb1:∀t∈ts,bnT t=true) (hb2:∀t∈us,bnT t=true):
  Calls Tryz.prog 5 #[.agg #[.slice A n c,.slice B m e],.agg #[.slice A2 n2 c2,.slice B2 m2 e2]] w (TBool w true):=by
 have hl1:=h1.len;have hl2:=h2.len;have HL1:=hid hl1;have HL2:=hid hl2;have HS1:=hid h1;have HS2:=hid h2;have HB1:=hid hb1;have HB2:=hid hb2;obtain⟨W0,hW0⟩:∃W0,(w.alloc (.cells #[.slice A n c,.slice B m e] 34)).alloc (.cells #[.slice A2 n2 c2,.slice B2 m2 e2] 34)=W0:=⟨_,rfl⟩;have hE0:Ext w W0:=by rw[←hW0];exact((Ext.refl w).alloc _).alloc _
 have hP:Box2 W0 w.heap.size (.slice A n c) (.slice B m e):=by rw[←hW0];exact(Box2.new w _ _ _).ext ((Ext.refl _).alloc _)
 have hQ:Box2 W0 (w.heap.size+1) (.slice A2 n2 c2) (.slice B2 m2 e2):=by
  rw[←hW0];have:=Box2.new (w.alloc (.cells #[.slice A n c,.slice B m e] 34)) (.slice A2 n2 c2) (.slice B2 m2 e2) 34
  rwa [show(w.alloc (.cells #[.slice A n c,.slice B m e] 34)).heap.size=w.heap.size+1 by simp]at this
 have HE0:=hid hE0;have HPB:=hid hP;have HQB:=hid hQ;have HF1:=hid (fewt_any d W0 A n c ts (h1.ext hE0));obtain⟨p0,p1, -⟩:=hP;obtain⟨q0,q1, -⟩:=hQ;clear h1 h2 hb1 hb2 hl1 hl2 hE0;go_enter Tryz.func5,Tryz.ntmps5
 go_wp2_with fail
 refine HF1.out.mono ?_;rintro e w1 ⟨b1,rfl,hx1,hq1⟩;have HE1:=hid (HE0.out.trans hx1);have HX1:=hid hx1;have HQ1:=hid hq1;have p0:=hx1.cell p0;have p1:=hx1.cell p1;have q0:=hx1.cell q0;have q1:=hx1.cell q1;clear hx1 hq1 hW0;cases b1
 case false=>
  clear p0 p1 q0 q1
  go_wp2_with fail
  refine(ex_any _).mono ?_;rintro e wz ⟨rfl,hxz⟩;have HXZ:=hid ((HE1.out).trans hxz);clear hxz
  go_wp2
  go_ret;exact⟨rfl,HXZ.out⟩
 have HF2:=hid (fewt_any d w1 A2 n2 c2 us (HS2.out.ext HE1.out))
 go_wp2_with fail
 refine HF2.out.mono ?_;rintro e w2 ⟨b2,rfl,hx2,hq2⟩;have HE2:=hid (HE1.out.trans hx2);have HX2:=hid (HX1.out.trans hx2);have HQ2:=hid hq2;have p0:=hx2.cell p0;have p1:=hx2.cell p1;have q0:=hx2.cell q0;have q1:=hx2.cell q1;clear hx2 hq2;cases b2
 case false=>
  clear p0 p1 q0 q1
  go_wp2_with fail
  refine(ex_any _).mono ?_;rintro e wz ⟨rfl,hxz⟩;have HXZ:=hid ((HE2.out).trans hxz);clear hxz
  go_wp2
  go_ret;exact⟨rfl,HXZ.out⟩
 obtain⟨mm,hmm⟩:∃z,IntKind.i64.wrap ((m:Int)+(m2:Int))=z:=⟨_,rfl⟩;by_cases h40:mm > 40
 ·clear p0 q0
  go_wp2_with fail
  refine(ex_any _).mono ?_;rintro e wz ⟨rfl,hxz⟩;have HXZ:=hid ((HE2.out).trans hxz);clear hxz
  go_wp2
  go_ret;exact⟨rfl,HXZ.out⟩
 have hn16:n≤16:=by have:=HQ1.out (by simp);have:=HL1.out;omega
 have hn216:n2≤16:=by have:=HQ2.out (by simp);have:=HL2.out;omega
 obtain⟨R,hR⟩:∃R,mrgT ts us=R:=⟨_,rfl⟩;have HM1:=hid (fun w' (hw:Ext w2 w')=>vmerge_any d w' A B A2 B2 n c m e n2 c2 m2 e2 ts us (HS1.out.ext (HE2.out.trans hw)) (HS2.out.ext (HE2.out.trans hw)) HB1.out HB2.out hn16 hn216);have HM2:=hid (fun w' (hw:Ext w2 w')=>rmerge_any d w' A B A2 B2 n c m e n2 c2 m2 e2 ts us (HS1.out.ext (HE2.out.trans hw)) (HS2.out.ext (HE2.out.trans hw)) hn16 hn216);rw[hR]at HM1 HM2;have HSK:=hid (fun(w':World) (hx:Ext w2 w')=>(show w'.cell? ⟨w.heap.size,0,none⟩=some (.slice A n c)∧w'.cell? ⟨w.heap.size,1,none⟩=some (.slice B m e)∧w'.cell? ⟨w.heap.size+1,0,none⟩=some (.slice A2 n2 c2)∧w'.cell? ⟨w.heap.size+1,1,none⟩=some (.slice B2 m2 e2) from⟨hx.cell p0,hx.cell p1,hx.cell q0,hx.cell q1⟩));clear hR;go_upto_region 3 with fail
 clear p0 p1 q0 q1;have HXg3q_0:=hid ((Ext.refl w2).drew);refine wp_region_held_drew (S:=(fun w'=>w'.cell? ⟨w.heap.size,0,none⟩=some (.slice A n c)∧w'.cell? ⟨w.heap.size,1,none⟩=some (.slice B m e)∧w'.cell? ⟨w.heap.size+1,0,none⟩=some (.slice A2 n2 c2)∧w'.cell? ⟨w.heap.size+1,1,none⟩=some (.slice B2 m2 e2))) (by kernel_rfl) (HSK.out _ (Ext.refl _).drew) (fun hSg3q0=>?_);refine rgT4 0 2 6 7 ?_;refine wpAnyH_ready (rs:=[1]) (by kernel_rfl) (by simp) ?_;refine(AllReadyH.consL rfl (fun K hK=>?g3qb1x5) AllReadyH.nil)
 case' g3qb1x5=>
  go_simp;go_at_call 15;refine(fromref_any _ A B n c m e).mono ?_;rintro e w5 ⟨rfl,hEg3q1⟩;have HXg3q_1:=hid (HXg3q_0.out.trans hEg3q1);clear hEg3q1;refine rgK hK (HSK.out _ HXg3q_1.out) (fun hSg3q1=>?_);clear hK K;refine wpAnyH_ready (rs:=[3]) (by kernel_rfl) (by simp) ?_;refine(AllReadyH.consL rfl (fun K hK=>?g3qb3x6) AllReadyH.nil)
  case' g3qb3x6=>
   go_simp;go_at_call 15;refine(fromref_any _ A2 B2 n2 c2 m2 e2).mono ?_;rintro e w5 ⟨rfl,hEg3q2⟩;have HXg3q_2:=hid (HXg3q_1.out.trans hEg3q2);clear hEg3q2;refine rgK hK (HSK.out _ HXg3q_2.out) (fun hSg3q2=>?_);clear hK K;refine wpAnyH_ready (rs:=[4]) (by kernel_rfl) (by simp) ?_;refine(AllReadyH.consL rfl (fun K hK=>?g3qb4x7) AllReadyH.nil)
   case' g3qb4x7=>
    go_simp;go_at_call 20;refine(HM1.out _ HXg3q_2.out).mono ?_;rintro e w5 ⟨A5,k5,B5,k6,d5,rfl,hs5,hb5,hEg3q3⟩;have HT1:=hid hs5;have HD1:=hid hb5;clear hs5 hb5;have HXg3q_3:=hid (HXg3q_2.out.trans hEg3q3);clear hEg3q3;refine rgK hK (HSK.out _ HXg3q_3.out) (fun hSg3q3=>?_);clear hK K;refine wpAnyH_ready (rs:=[5]) (by kernel_rfl) (by simp) ?_;refine(AllReadyH.consL rfl (fun K hK=>?g3qb5x8) AllReadyH.nil)
    case' g3qb5x8=>
     go_simp;go_at_call 12;refine(toref_any _ A5 B5 _ _ _ _).mono ?_;rintro e w5 ⟨rfl,hEg3q4⟩;have HXg3q_4:=hid (HXg3q_3.out.trans hEg3q4);have HT1:=hid (HT1.out.ext hEg3q4);have HD1:=hid (HD1.out.ext hEg3q4);clear hEg3q4;refine rgK hK (HSK.out _ HXg3q_4.out) (fun hSg3q4=>?_);clear hK K;refine wpAnyH_ready (rs:=[8]) (by kernel_rfl) (by simp) ?_;refine(AllReadyH.consL rfl (fun K hK=>?g3qb8x9) AllReadyH.nil)
     case' g3qb8x9=>
      go_simp;go_at_call 21;refine(HM2.out _ HXg3q_4.out).mono ?_;rintro e w5 ⟨A6,k7,B6,k8,d6,rfl,hs6,hb6,hEg3q5⟩;have HT2:=hid hs6;have HD2:=hid hb6;clear hs6 hb6;have HXg3q_5:=hid (HXg3q_4.out.trans hEg3q5);have HT1:=hid (HT1.out.ext hEg3q5);have HD1:=hid (HD1.out.ext hEg3q5);clear hEg3q5;refine rgK hK (HSK.out _ HXg3q_5.out) (fun hSg3q5=>?_);clear hK K;refine wpAnyH_ready (rs:=[9]) (by kernel_rfl) (by simp) ?_;refine(AllReadyH.consL rfl (fun K hK=>?g3qb9x10) AllReadyH.nil)
      case' g3qb9x10=>
       go_simp;go_at_call 11;refine(same33_any (d5+d6) _ A5 B5 A6 B6 _ _ _ _ _ _ _ _ R R (badL R) (badL R) (HT1.out.ty_up (by omega)) (HT2.out.ty_up (by omega)) HD1.out HD2.out).mono ?_;rw[show(decide (R=R) && decide (badL R=badL R))=true from by rw[decide_eq_true rfl,decide_eq_true rfl];rfl];rintro e w5 ⟨rfl,hEg3q6⟩;have HXg3q_6:=hid (HXg3q_5.out.trans hEg3q6);have HT1:=hid (HT1.out.ext hEg3q6);have HD1:=hid (HD1.out.ext hEg3q6);have HT2:=hid (HT2.out.ext hEg3q6);have HD2:=hid (HD2.out.ext hEg3q6);clear hEg3q6;refine rgK hK (HSK.out _ HXg3q_6.out) (fun hSg3q6=>?_);clear hK K;refine rgT 10 ?_;refine wpAnyH_ready (rs:=[11]) (by kernel_rfl) (by simp) ?_;refine(AllReadyH.consL rfl (fun K hK=>?g3qb11x12) AllReadyH.nil)
       case' g3qb11x12=>
        go_simp;go_at_call 7;refine(ex_any _).mono ?_;rintro e w5 ⟨rfl,hEg3q7⟩;have HXg3q_7:=hid (HXg3q_6.out.trans hEg3q7);have HT1:=hid (HT1.out.ext hEg3q7);have HD1:=hid (HD1.out.ext hEg3q7);have HT2:=hid (HT2.out.ext hEg3q7);have HD2:=hid (HD2.out.ext hEg3q7);clear hEg3q7;refine rgK hK (HSK.out _ HXg3q_7.out) (fun hSg3q7=>?_);clear hK K;refine rgT2 12 13 ?_;refine wpAnyH_done (by kernel_rfl) ?_ _
        go_wp2
        go_ret;exact⟨rfl,HE2.out.trans HXg3q_7.out⟩
end Go.Proofs.YtlmipgdnlfjpaaaGreat
