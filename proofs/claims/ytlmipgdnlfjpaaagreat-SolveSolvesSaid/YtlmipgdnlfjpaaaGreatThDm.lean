/- Lemmas of mine, merged. -/
import Derived.Test.YtlmipgdnlfjpaaaGreatTham
import Derived.Test.YtlmipgdnlfjpaaaGreatSatm
import Derived.Test.YtlmipgdnlfjpaaaGreatRfEm
import Derived.Test.YtlmipgdnlfjpaaaGreatPlam
set_option maxRecDepth 100000
set_option maxHeartbeats 8000000
set_option linter.unusedSimpArgs false
set_option linter.unusedVariables false
namespace Go.Proofs.YtlmipgdnlfjpaaaGreat
open Go.RowKit Go.Deco Go.Maps
def Fq (d:Nat)(w:World)(t:Ty)(e:Ending)(w':World):Prop:=∃v,e= .returned v/\TyV d w' All v t/\Ext w w'
theorem aG (d:Nat)(w:World)(t:Ty)(v:Value)(hv:TyV d w All v t):Calls Tryz.prog 23 #[v] w (Fq (d+1) w (Ty.ptr t)):=by
 have hv0:=hv;obtain⟨A,na,ca,B,nb,cb,rfl, -⟩:=hv;obtain⟨W1,hW1⟩:=Qg ((w.alloc (.cells #[.int .i64 t.kind,.int .i64 t.size,.int .i64 t.count,.slice A na ca,.slice B nb cb] 42)).alloc (.cells #[.int .i64 0,.int .i64 0,.int .i64 0,.slice none 0 0,.slice none 0 0] 42));have hE1:Ext w W1:=by rw[<-hW1];exact((Ext.refl w).alloc _).alloc _
 have hs1:W1.heap.size=w.heap.size+2:=by rw[<-hW1];simp
 have hP:Qm W1 w.heap.size (.int .i64 t.kind) (.int .i64 t.size) (.int .i64 t.count) (.slice A na ca) (.slice B nb cb):=by rw[<-hW1];exact(Qm.new w _ _ _ _ _ _).ext ((Ext.refl _).alloc _)
 have hR:Qm W1 (w.heap.size+1) (.int .i64 0) (.int .i64 0) (.int .i64 0) (.slice none 0 0) (.slice none 0 0):=by
  rw[<-hW1];have:=Qm.new (w.alloc (.cells #[.int .i64 t.kind,.int .i64 t.size,.int .i64 t.count,.slice A na ca,.slice B nb cb] 42)) (.int .i64 0) (.int .i64 0) (.int .i64 0) (.slice none 0 0) (.slice none 0 0) 42
  rwa [show(w.alloc (.cells #[.int .i64 t.kind,.int .i64 t.size,.int .i64 t.count,.slice A na ca,.slice B nb cb] 42)).heap.size=w.heap.size+1 by simp]at this
 obtain⟨W2,hW2⟩:=Qg (W1.alloc (.cells #[.int .i64 t.kind,.int .i64 t.size,.int .i64 t.count,.slice A na ca,.slice B nb cb] 42));have hE2:Ext W1 W2:=by rw[<-hW2];exact(Ext.refl _).alloc _
 obtain⟨W3,hW3,hB3,hH3,hS3,hX3⟩:=QK (hR.ext hE2) (.int .i64 3) (.int .i64 0) (.int .i64 0) (.slice (some ⟨W1.heap.size,0,none⟩) 1 1) (.slice none 0 0);have HX3:=hid (hX3 w (hE1.trans hE2) (by omega))
 have hel:Sl (tyR (d+1)) W3 All (.slice (some ⟨W1.heap.size,0,none⟩) 1 1) [t]:=by
  refine JG trivial (xs:=[.int .i64 t.kind,.int .i64 t.size,.int .i64 t.count,.slice A na ca,.slice B nb cb]) (QD.single (Xb.2 ⟨_,hv0.ext HX3.o,rfl⟩)) (fun j u hu=>?_) (by simp) (by simp[maxLen])
  have h1:W2.cell? ⟨W1.heap.size,0+j,none⟩=some u:=by
   have:=JF W1 [.int .i64 t.kind,.int .i64 t.size,.int .i64 t.count,.slice A na ca,.slice B nb cb] 42 j u hu;have e:(⟨W1.heap.size,0,none⟩:Addr).add j=⟨W1.heap.size,0+j,none⟩:=by unfold Addr.add;split <;> simp_all
   rw[e]at this;rw[<-hW2];exact this
  exact(World.cell?_of_block (hH3 W1.heap.size (by omega))).trans h1
 have HEL:=hid hel;have HW3:=hid hW3;have HV:=hid hv0;obtain⟨t0,t1,t2,t3,t4, -⟩:=hB3;obtain⟨r0,r1,r2,r3,r4,rf⟩:=hR.ext hE2;have u0:=rf 0;have u1:=rf 1;have u2:=rf 2;have u3:=rf 3;have u4:=rf 4;obtain⟨p0,p1,p2,p3,p4, -⟩:=hP;clear hv0 hE1 hs1 hR hE2 hW3 hH3 hS3 hX3 hel rf;go_enter Tryz.func23,Tryz.ntmps23
 go_wp2
 rw[HW3.o];clear r0 r1 r2 r3 r4 hW1 hW2;refine bodyPost_ret (v:= .agg #[.int .i64 3,.int .i64 0,.int .i64 0,.slice (some ⟨W1.heap.size,0,none⟩) 1 1,.slice none 0 0]) (by simp[results,Tryz.results23,go_sem,t0,t1,t2,t3,t4]) rfl ?_;exact⟨_,rfl,⟨some ⟨W1.heap.size,0,none⟩,1,1,none,0,0,rfl,HEL.o,Sl.nil,by show Qy 3;unfold Qy;omega,by show Qy 0;unfold Qy;omega,by show Qy 0;unfold Qy;omega⟩,HX3.o⟩
def K6 (c:Con):List Value:=[.int .i64 c.kind,.int .i64 c.a,.int .i64 c.b,.int .i64 c.off,.int .i64 c.width,.int .i64 c.type.kind,.int .i64 c.type.size,.int .i64 c.type.count,.slice none 0 0,.slice none 0 0]
theorem dB {w:World}{S:Nat->Prop}(c:Con)(he:c.type.elem=[])(hf:c.type.fields=[])(hb:VP c)(h1:Qy c.type.kind/\Qy c.type.size/\Qy c.type.count):(Zf (tyR 1)).rel w S (K6 c) c:=by
 refine yc.2 ⟨none,0,0,none,0,0,rfl,hb,none,0,0,none,0,0,rfl, ?_, ?_,h1⟩
 ·rw[he];exact Sl.nil
 ·rw[hf];exact Sl.nil
theorem uM (w:World)(a b:Con)(ha:a.type.elem=[]/\a.type.fields=[])(hb:b.type.elem=[]/\b.type.fields=[])(ba:VP a)(bb:VP b)(ia:Qy a.type.kind/\Qy a.type.size/\Qy a.type.count)(ib:Qy b.type.kind/\Qy b.type.size/\Qy b.type.count)(t:TypeId):
  Sl (Zf (tyR 1)) (w.alloc (.cells (K6 a ++ K6 b).toArray t)) All (.slice (some ⟨w.heap.size,0,none⟩) 2 2) [a,b]:=by
 refine JG (l:=[a,b]) trivial (xs:=K6 a ++ K6 b) ⟨K6 a,K6 b,rfl,dB a ha.1 ha.2 ba ia,K6 b,[],by simp,dB b hb.1 hb.2 bb ib,rfl⟩ (fun j u hu=>?_) (by simp) (by simp[maxLen]);have:=JF w (K6 a ++ K6 b) t j u hu;have e:(⟨w.heap.size,0,none⟩:Addr).add j=⟨w.heap.size,0+j,none⟩:=by unfold Addr.add;split <;> simp_all
 rwa [e]at this
theorem gk {d d':Nat}(hd:d<=d'){w:World}{S:Nat->Prop}{v:Value}{t:Ty}(h:TyV d w S v t):TyV d' w S v t:=by
 obtain⟨A,n,c,B,m,e,rfl,h1,h2,h3⟩:=h;have hz:(tyR d).size=(tyR d').size:=by rw[ZY,ZY]
 exact⟨A,n,c,B,m,e,rfl,Sl.up hz (Km hd) h1,Sl.up (R:=fdR (tyR d)) (R':=fdR (tyR d')) (by show(tyR d).size+1=(tyR d').size+1;rw[hz]) (fun w S cs f ⟨r,k1,k2,k3⟩=>⟨r,k1,Km hd _ _ _ _ k2,k3⟩) h2,h3⟩
theorem Fp {a w:World}(h:Ext a w):∃wA sz,w.alloc (.cells #[.int .i64 0] 3)=wA/\w.heap.size=sz/\Ext w wA/\Sl QF wA All (.slice (some ⟨sz,0,none⟩) 1 1) [0]:=by
 refine⟨_,_,rfl,rfl,(Ext.refl w).alloc _, ?_⟩;refine JG (l:=[0]) trivial (xs:=[.int .i64 0]) (QD.single ⟨rfl,by decide⟩) (fun j u hu=>?_) (by simp) (by simp[maxLen]);have:=JF w [.int .i64 0] 3 j u hu;have e:(⟨w.heap.size,0,none⟩:Addr).add j=⟨w.heap.size,0+j,none⟩:=by unfold Addr.add;split <;> simp_all
 rwa [e]at this
theorem Db:∀t∈KW,bnT t=true:=by decide
theorem ug (t:Ty):ZC t t=true:=(Vp t t).2 rfl
theorem rk (w:World):Calls Tryz.prog 7 #[] w (ZX w true):=by
 obtain⟨W1,hW1⟩:=Qg (w.alloc (.cells #[.int .i64 0,.int .i64 0,.int .i64 0,.slice none 0 0,.slice none 0 0] 42));have hB1:Qm W1 w.heap.size (.int .i64 0) (.int .i64 0) (.int .i64 0) (.slice none 0 0) (.slice none 0 0):=by rw[<-hW1];exact Qm.new w _ _ _ _ _ _
 have hE1:Ext w W1:=by rw[<-hW1];exact(Ext.refl _).alloc _
 obtain⟨W2,hW2,hB2,hH2,hS2,hX2⟩:=QK hB1 (.int .i64 1) (.int .i64 4) (.int .i64 0) (.slice none 0 0) (.slice none 0 0);have HX2:=hid (hX2 w hE1 (Nat.le_refl _));have HW2:=hid hW2;have HB2:=hid hB2;obtain⟨W3,hW3⟩:=Qg (W2.alloc (.cells #[.int .i64 3,.int .i64 0,.int .i64 1,.int .i64 8,.int .i64 4,.int .i64 0,.int .i64 0,.int .i64 0,.slice none 0 0,.slice none 0 0,.int .i64 1,.int .i64 1,.int .i64 0,.int .i64 0,.int .i64 0,.int .i64 1,.int .i64 4,.int .i64 0,.slice none 0 0,.slice none 0 0] 48));have hE3:Ext W2 W3:=by rw[<-hW3];exact(Ext.refl _).alloc _
 have hl3:Sl (Zf (tyR 1)) W3 All (.slice (some ⟨W2.heap.size,0,none⟩) 2 2) XW:=by
  rw[<-hW3];exact uM W2 KV JX ⟨rfl,rfl⟩ ⟨rfl,rfl⟩ (by unfold VP KV Qy;decide) (by unfold VP JX Qy;decide) (by unfold KV Qy;decide) (by unfold JX Qy;decide) 48
 have HSV:=hid (pd 1 W3 (some ⟨W2.heap.size,0,none⟩) 2 2 XW 2 hl3 (fun _=>by decide));have HX3:=hid (HX2.o.trans hE3);have HX23:=hid hE3;obtain⟨z0,z1,z2,z3,z4,zf⟩:=hB1;have f0:=zf 0;have f1:=zf 1;have f2:=zf 2;have f3:=zf 3;have f4:=zf 4;obtain⟨s0,s1,s2,s3,s4, -⟩:=HB2.o;clear hE1 hW2 hB2 hH2 hS2 hX2 hE3 hl3 zf;go_enter Tryz.func7,Tryz.ntmps7;go_upto_region 2 with fail
 rw[HW2.o];clear z0 z1 z2 z3 z4 f0 f1 f2 f3 f4 hW1
 go_wp2_with fail
 refine HSV.o.mono ?_;rintro e w4 hsv;rcases hsv with⟨h1, -⟩|⟨-,ts,A1,c1,B1,d1,dd,rfl,hso,hst,hsb,hx4⟩
 ·exact absurd oY h1
 obtain rfl:ts=KW:=hso.unique t8;rw[GG]at hsb ⊢;rw[show KW.length=2 from rfl]at hst ⊢;rw[show([]:List Nat).length=0 from rfl]at hsb ⊢;obtain⟨ta,hta⟩:=Qg (Ty.ptr (Ty.str [(8,Ty.int 4)]));obtain⟨tb,htb⟩:=Qg (Ty.int 4);have he:KW=[ta,tb]:=by unfold KW;rw[hta,htb]
 rw[he]at hst;have HTE:=hid he;have HTA:=hid hta;have HTB:=hid htb;have HST:=hid hst;have HSB:=hid hsb;have HX4:=hid (HX3.o.trans hx4);have HX4':=hid (HX23.o.trans hx4);obtain⟨dd0,bA,oA,P1,np1,cp1,P2,np2,cp2,hdd,rfl,hva,a0,a1,a2,a3,a4⟩:=hst.ty_at (k:=0) (t:=ta) rfl;obtain⟨dd1,bA1,oA1,Q1,nq1,cq1,Q2,nq2,cq2,hdd1,hAA,hvb,b0,b1,b2,b3,b4⟩:=hst.ty_at (k:=1) (t:=tb) rfl;cases hAA;have HVA:=hid hva;have HVB:=hid hvb
 have HAC:=hid (show _ from(⟨a0,a1,a2,a3,a4,b0,b1,b2,b3,b4⟩:w4.cell? ⟨bA,oA+0 * 5,none⟩=some (.int .i64 ta.kind)/\w4.cell? ⟨bA,oA+0 * 5+1,none⟩=some (.int .i64 ta.size)/\w4.cell? ⟨bA,oA+0 * 5+2,none⟩=some (.int .i64 ta.count)/\w4.cell? ⟨bA,oA+0 * 5+3,none⟩=some (.slice P1 np1 cp1)/\w4.cell? ⟨bA,oA+0 * 5+4,none⟩=some (.slice P2 np2 cp2)/\
  w4.cell? ⟨bA,oA+1 * 5,none⟩=some (.int .i64 tb.kind)/\w4.cell? ⟨bA,oA+1 * 5+1,none⟩=some (.int .i64 tb.size)/\w4.cell? ⟨bA,oA+1 * 5+2,none⟩=some (.int .i64 tb.count)/\w4.cell? ⟨bA,oA+1 * 5+3,none⟩=some (.slice Q1 nq1 cq1)/\w4.cell? ⟨bA,oA+1 * 5+4,none⟩=some (.slice Q2 nq2 cq2)))
 obtain⟨W5,hW5⟩:=Qg (w4.alloc (.cells #[.slice none 0 0,.slice none 0 0] 28));have hB5:Q5 W5 w4.heap.size (.slice none 0 0) (.slice none 0 0):=by rw[<-hW5];exact Q5.new w4 _ _ _
 have hE5:Ext w4 W5:=by rw[<-hW5];exact(Ext.refl _).alloc _
 obtain⟨W6,hW6,hB6,hH6,hS6,hX6⟩:=Vq hB5 (.slice (some ⟨bA,oA,none⟩) 2 c1) (.slice B1 0 d1);have HX6:=hid (hX6 w4 hE5 (Nat.le_refl _));have HW6:=hid hW6;have HB6:=hid hB6;obtain⟨W7,hW7⟩:=Qg (W6.alloc (.cells #[.int .i64 2,.int .i64 0,.int .i64 1,.int .i64 0,.int .i64 1,.int .i64 0,.int .i64 0,.int .i64 0,.slice none 0 0,.slice none 0 0,.int .i64 2,.int .i64 0,.int .i64 1,.int .i64 0,.int .i64 4,.int .i64 0,.int .i64 0,.int .i64 0,.slice none 0 0,.slice none 0 0] 48));have hE7:Ext W6 W7:=by rw[<-hW7];exact(Ext.refl _).alloc _
 have hl7:Sl (Zf (tyR 1)) W7 All (.slice (some ⟨W6.heap.size,0,none⟩) 2 2) KJ:=by
  rw[<-hW7];exact uM W6 Y2 Y3 ⟨rfl,rfl⟩ ⟨rfl,rfl⟩ (by unfold VP Y2 Qy;decide) (by unfold VP Y3 Qy;decide) (by unfold Y2 Qy;decide) (by unfold Y3 Qy;decide) 48
 have HSV2:=hid (pd 1 W7 (some ⟨W6.heap.size,0,none⟩) 2 2 KJ 2 hl7 (fun _=>by decide));have HX7:=hid hE7;obtain⟨z0,z1,zf⟩:=hB5;have f0:=zf 0;have f1:=zf 1;clear hta htb he hst hsb hx4 hdd hva a0 a1 a2 a3 a4 hdd1 hvb b0 b1 b2 b3 b4 hE5 hW6 hB6 hH6 hS6 hX6 hE7 hl7 zf hso s0 s1 s2 s3 s4 hW3;go_upto_region 3 with fail
 rw[HW6.o];clear z0 z1 f0 f1 hW5
 go_wp2_with fail
 refine HSV2.o.mono ?_;rintro e w8 hsv;rcases hsv with⟨h1, -⟩|⟨-,ts,A8,c8,B8,d8,dd8,rfl,hso, -,hsb,hx8⟩
 ·exact absurd oM h1
 obtain rfl:ts=Y4:=hso.unique lz;rw[GF]at hsb ⊢;rw[show Y4.length=2 from rfl];rw[show([0]:List Nat).length=1 from rfl]at hsb ⊢;have HSB8:=hid (hsb.mono (S:=_) (S':=All) fun _ _ _=>trivial);have HX8:=hid (HX6.o.trans (HX7.o.trans hx8));have HX68:=hid (HX7.o.trans hx8);obtain⟨W9,hW9⟩:=Qg (w8.alloc (.cells #[.slice none 0 0,.slice none 0 0] 28));have hB9:Q5 W9 w8.heap.size (.slice none 0 0) (.slice none 0 0):=by rw[<-hW9];exact Q5.new w8 _ _ _
 have hE9:Ext w8 W9:=by rw[<-hW9];exact(Ext.refl _).alloc _
 obtain⟨W10,hW10,hB10,hH10,hS10,hX10⟩:=Vq hB9 (.slice A8 2 c8) (.slice B8 1 d8);have HX10:=hid (hX10 w8 hE9 (Nat.le_refl _));have HW10:=hid hW10;have HB10:=hid hB10;obtain⟨W11,hW11⟩:=Qg (W10.alloc (.cells #[.int .i64 8,.int .i64 1,.int .i64 4,.int .i64 0,.slice none 0 0,.slice none 0 0] 59));have hE11:Ext W10 W11:=by rw[<-hW11];exact(Ext.refl _).alloc _
 have hl11:Sl (fdR (tyR 1)) W11 All (.slice (some ⟨W10.heap.size,0,none⟩) 1 1) [(8,Ty.int 4)]:=by
  refine JG (l:=[(8,Ty.int 4)]) trivial (xs:=[.int .i64 8,.int .i64 1,.int .i64 4,.int .i64 0,.slice none 0 0,.slice none 0 0]) (QD.single (VG.2 ⟨none,0,0,none,0,0,rfl,by unfold Qy;decide,none,0,0,none,0,0,rfl,Sl.nil,Sl.nil,by show Qy 1;unfold Qy;decide,by show Qy 4;unfold Qy;decide,by show Qy 0;unfold Qy;decide⟩)) (fun j u hu=>?_) (by simp) (by simp[maxLen]);have:=JF W10 [.int .i64 8,.int .i64 1,.int .i64 4,.int .i64 0,.slice none 0 0,.slice none 0 0] 59 j u hu;have e:(⟨W10.heap.size,0,none⟩:Addr).add j=⟨W10.heap.size,0+j,none⟩:=by unfold Addr.add;split <;> simp_all
  rw[e]at this;rw[<-hW11];exact this
 have HPT:=hid (aG 1 W11 (Ty.str [(8,Ty.int 4)]) (.agg #[.int .i64 5,.int .i64 0,.int .i64 0,.slice none 0 0,.slice (some ⟨W10.heap.size,0,none⟩) 1 1]) ⟨none,0,0,some ⟨W10.heap.size,0,none⟩,1,1,rfl,Sl.nil,hl11,by show Qy 5;unfold Qy;decide,by show Qy 0;unfold Qy;decide,by show Qy 0;unfold Qy;decide⟩);have HX11:=hid hE11;have HB2':=hid (HB2.o.ext (HX4'.o.trans (HX8.o.trans HX10.o)));obtain⟨z0,z1,zf⟩:=hB9;have f0:=zf 0;have f1:=zf 1;obtain⟨s0,s1,s2,s3,s4, -⟩:=HB2'.o;clear hso hsb hx8 hE9 hW10 hB10 hH10 hS10 hX10 hE11 hl11 zf hW7;go_upto_region 4 with fail
 rw[HW10.o];clear z0 z1 f0 f1 hW9
 go_wp2_with fail
 refine HPT.o.mono ?_;rintro e w12 ⟨v12,rfl,hv12,hx12⟩;rw[HTA.o]at hv12;have HV12:=hid hv12;obtain⟨A12,n12,c12,B12,m12,e12,rfl, -⟩:=hv12;obtain⟨W13,hW13⟩:=Qg (w12.alloc (.cells #[.int .i64 0,.int .i64 0,.int .i64 0,.slice none 0 0,.slice none 0 0] 42));have hB13:Qm W13 w12.heap.size (.int .i64 0) (.int .i64 0) (.int .i64 0) (.slice none 0 0) (.slice none 0 0):=by rw[<-hW13];exact Qm.new w12 _ _ _ _ _ _
 have hE13:Ext w12 W13:=by rw[<-hW13];exact(Ext.refl _).alloc _
 obtain⟨W14,hW14,hB14,hH14,hS14,hX14⟩:=QK hB13 (.int .i64 ta.kind) (.int .i64 ta.size) (.int .i64 ta.count) (.slice A12 n12 c12) (.slice B12 m12 e12);have hx14:=hX14 w12 hE13 (Nat.le_refl _);have HW14:=hid hW14;have HX14:=hid (HX11.o.trans (hx12.trans hx14));have HX4E:=hid (HX8.o.trans (HX10.o.trans HX14.o));have HX6E:=hid (HX68.o.trans (HX10.o.trans HX14.o));have HXE:=hid (HX4.o.trans HX4E.o);have HX10E:=hid (HX10.o.trans HX14.o);have HVW:=hid (HV12.o.ext hx14);have HSX:=hid (fun(w':World) (hx:Ext W14 w')=>Gq dd w' (some ⟨bA,oA,none⟩) B1 2 c1 0 d1 KW JX (.agg #[.int .i64 1,.int .i64 1,.int .i64 0,.int .i64 0,.int .i64 0,.int .i64 1,.int .i64 4,.int .i64 0,.slice none 0 0,.slice none 0 0]) (by rw[HTE.o];exact(HST.o.mono fun _ _ _=>trivial).ext (HX4E.o.trans hx)) Db ⟨none,0,0,none,0,0,rfl,by unfold VP JX Qy;decide,J1 _ _ _ _ _ (by unfold Qy;decide) (by unfold Qy;decide)⟩ rfl rfl rfl);obtain⟨z0,z1,z2,z3,z4,zf⟩:=hB13;have f0:=zf 0;have f1:=zf 1;have f2:=zf 2;have f3:=zf 3;have f4:=zf 4;have ht1:=HB2'.o.ext HX14.o;have ht2:=HB6.o.ext HX6E.o;have ht4:=HB10.o.ext HX14.o;have hr:=HAC.o;have HB14:=hid hB14;clear hE13 hW14 hB14 hH14 hS14 hX14 zf s0 s1 s2 s3 s4 hx12 hx14
 go_wp2_with fail
 rw[HW14.o];clear z0 z1 z2 z3 z4 f0 f1 f2 f3 f4 hW13;go_upto_region 5 with fail
 obtain⟨p0,p1,p2,p3,p4, -⟩:=ht1;obtain⟨q0,q1, -⟩:=ht2;obtain⟨-,y1, -⟩:=ht4;obtain⟨u0,u1,u2,u3,u4, -⟩:=HB14.o;obtain⟨a0,a1,a2,a3,a4,b0,b1,b2,b3,b4⟩:=hr;have a0:=HX4E.o.cell a0;have a1:=HX4E.o.cell a1;have a2:=HX4E.o.cell a2;have a3:=HX4E.o.cell a3;have a4:=HX4E.o.cell a4;have b0:=HX4E.o.cell b0;have b1:=HX4E.o.cell b1;have b2:=HX4E.o.cell b2;have b3:=HX4E.o.cell b3;have b4:=HX4E.o.cell b4;rw[Nat.zero_mul,Nat.add_zero]at a0 a1 a2 a3 a4;rw[Nat.one_mul]at b0 b1 b2 b3 b4;have HSK:=hid (fun(w':World) (hx:Ext W14 w')=>(show w'.cell? ⟨w.heap.size,0,none⟩=some (.int .i64 1)/\w'.cell? ⟨w.heap.size,1,none⟩=some (.int .i64 4)/\w'.cell? ⟨w.heap.size,2,none⟩=some (.int .i64 0)/\w'.cell? ⟨w.heap.size,3,none⟩=some (.slice none 0 0)/\w'.cell? ⟨w.heap.size,4,none⟩=some (.slice none 0 0)/\w'.cell? ⟨w4.heap.size,0,none⟩=some (.slice (some ⟨bA,oA,none⟩) 2 c1)/\w'.cell? ⟨w4.heap.size,1,none⟩=some (.slice B1 0 d1)/\w'.cell? ⟨w8.heap.size,1,none⟩=some (.slice B8 1 d8)/\w'.cell? ⟨w12.heap.size,0,none⟩=some (.int .i64 ta.kind)/\w'.cell? ⟨w12.heap.size,1,none⟩=some (.int .i64 ta.size)/\w'.cell? ⟨w12.heap.size,2,none⟩=some (.int .i64 ta.count)/\w'.cell? ⟨w12.heap.size,3,none⟩=some (.slice A12 n12 c12)/\w'.cell? ⟨w12.heap.size,4,none⟩=some (.slice B12 m12 e12)/\w'.cell? ⟨bA,oA,none⟩=some (.int .i64 ta.kind)/\w'.cell? ⟨bA,oA+1,none⟩=some (.int .i64 ta.size)/\w'.cell? ⟨bA,oA+2,none⟩=some (.int .i64 ta.count)/\w'.cell? ⟨bA,oA+3,none⟩=some (.slice P1 np1 cp1)/\w'.cell? ⟨bA,oA+4,none⟩=some (.slice P2 np2 cp2)/\w'.cell? ⟨bA,oA+5,none⟩=some (.int .i64 tb.kind)/\w'.cell? ⟨bA,oA+5+1,none⟩=some (.int .i64 tb.size)/\w'.cell? ⟨bA,oA+5+2,none⟩=some (.int .i64 tb.count)/\w'.cell? ⟨bA,oA+5+3,none⟩=some (.slice Q1 nq1 cq1)/\w'.cell? ⟨bA,oA+5+4,none⟩=some (.slice Q2 nq2 cq2) from⟨hx.cell p0,hx.cell p1,hx.cell p2,hx.cell p3,hx.cell p4,hx.cell q0,hx.cell q1,hx.cell y1,hx.cell u0,hx.cell u1,hx.cell u2,hx.cell u3,hx.cell u4,hx.cell a0,hx.cell a1,hx.cell a2,hx.cell a3,hx.cell a4,hx.cell b0,hx.cell b1,hx.cell b2,hx.cell b3,hx.cell b4⟩));have HS1:=hid (fun(w':World) (hx:Ext W14 w')=>jx (dd0+dd1+2) w' ta ta _ _ (gk (d:=dd0) (by omega) (HVA.o.all.ext (HX4E.o.trans hx))) (gk (d:=1+1) (by omega) (HVW.o.ext hx)));have HS2:=hid (fun(w':World) (hx:Ext W14 w')=>jx (dd0+dd1+2) w' tb tb _ (.agg #[.int .i64 1,.int .i64 4,.int .i64 0,.slice none 0 0,.slice none 0 0]) (gk (d:=dd1) (by omega) (HVB.o.all.ext (HX4E.o.trans hx))) (by rw[<-HTB.o];exact J1 _ _ _ _ _ (by unfold Qy;decide) (by unfold Qy;decide)));rw[ug]at HS1 HS2;clear p0 p1 p2 p3 p4 q0 q1 y1 u0 u1 u2 u3 u4 a0 a1 a2 a3 a4 b0 b1 b2 b3 b4 HX6 HX7 HX10 HX11 HB2 HB2' HB6 HB10 HB14 HAC HV12;have HXg1q_0:=hid ((Ext.refl W14).drew);refine rgH HSK.o (Ext.refl _).drew (fun hSg1q0=>?_);refine Qp 0 1 2 3 4 5 ?_;refine Qp 6 7 8 9 10 11 ?_;refine QJ 12 13 ?_;refine wpAnyH_ready (rs:=[14]) (by kernel_rfl) (by simp) ?_;refine(AllReadyH.consL rfl (fun K hK=>?g1qb14x15) AllReadyH.nil)
 case' g1qb14x15=>
  go_simp;go_at_call 17;refine(HS1.o _ HXg1q_0.o).mono ?_;rintro e w5 ⟨rfl,hEg1q1⟩;have HXg1q_1:=hid (HXg1q_0.o.trans hEg1q1);clear hEg1q1;refine rgK hK (HSK.o _ HXg1q_1.o) (fun hSg1q1=>?_);clear hK K;refine Qp 15 16 17 18 19 20 ?_;refine rgT 21 ?_;refine wpAnyH_ready (rs:=[22]) (by kernel_rfl) (by simp) ?_;refine(AllReadyH.consL rfl (fun K hK=>?g1qb22x23) AllReadyH.nil)
  case' g1qb22x23=>
   go_simp;go_at_call 17;refine(HS2.o _ HXg1q_1.o).mono ?_;rintro e w5 ⟨rfl,hEg1q2⟩;have HXg1q_2:=hid (HXg1q_1.o.trans hEg1q2);clear hEg1q2;refine rgK hK (HSK.o _ HXg1q_2.o) (fun hSg1q2=>?_);clear hK K;refine Qp 23 24 25 26 27 28 ?_;refine Qp 29 30 31 32 33 34 ?_;refine QJ 35 36 ?_;refine wpAnyH_ready (rs:=[37]) (by kernel_rfl) (by simp) ?_;refine(AllReadyH.consL rfl (fun K hK=>?g1qb37x38) AllReadyH.nil)
   case' g1qb37x38=>
    go_simp;obtain⟨wP,aF,hA1,hsz,hEg1q3,hic⟩:=Fp HXg1q_2.o;refine Eq.mpr (congrArg (K _) hA1) ?_;rw[hsz];have HIC:=hid hic;clear hA1 hsz hic;have HXg1q_3:=hid (HXg1q_2.o.trans hEg1q3);clear hEg1q3;refine rgK hK (HSK.o _ HXg1q_3.o) (fun hSg1q3=>?_);clear hK K;refine wpAnyH_ready (rs:=[38]) (by kernel_rfl) (by simp) ?_;refine(AllReadyH.consL rfl (fun K hK=>?g1qb38x39) AllReadyH.nil)
    case' g1qb38x39=>
     go_simp;go_at_call 24;refine(cq _ _ _ _ _ _ _ _ _ (HSB8.o.ext (HX10E.o.trans HXg1q_3.o)) HIC.o).mono ?_;rintro e w5 ⟨rfl,hEg1q4⟩;have HXg1q_4:=hid (HXg1q_3.o.trans hEg1q4);have HIC:=hid (HIC.o.ext hEg1q4);clear hEg1q4;refine rgK hK (HSK.o _ HXg1q_4.o) (fun hSg1q4=>?_);clear hK K;refine QB 39 40 41 42 ?_;refine rgT 43 ?_;refine wpAnyH_ready (rs:=[44]) (by kernel_rfl) (by simp) ?_;refine(AllReadyH.consL rfl (fun K hK=>?g1qb44x45) AllReadyH.nil)
     case' g1qb44x45=>
      go_simp;go_at_call 14;refine(HSX.o _ HXg1q_4.o).mono ?_;rintro e w5 ⟨rfl,hEg1q5⟩;have HXg1q_5:=hid (HXg1q_4.o.trans hEg1q5);have HIC:=hid (HIC.o.ext hEg1q5);clear hEg1q5;refine rgK hK (HSK.o _ HXg1q_5.o) (fun hSg1q5=>?_);clear hK K;refine QJ 45 46 ?_;refine wpAnyH_done (by kernel_rfl) ?_ _
      go_wp2
      go_ret;exact⟨rfl,HXE.o.trans HXg1q_5.o⟩
end Go.Proofs.YtlmipgdnlfjpaaaGreat
