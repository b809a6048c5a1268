/- Lemmas of mine, merged. -/
import Derived.Test.YtlmipgdnlfjpaaaGreatRwem
import Derived.Test.YtlmipgdnlfjpaaaGreatBasm
set_option maxRecDepth 100000
set_option maxHeartbeats 16000000
set_option linter.unusedSimpArgs false
set_option linter.unusedVariables false
namespace Go.Proofs.YtlmipgdnlfjpaaaGreat
open Go.RowKit Go.Deco
theorem lM (d:Nat)(w:World)(n:Int)(hn:Qy n):Calls Tryz.prog 109 #[.int .i64 n] w (KM d w (Ty.uint n)):=by
 go_enter Tryz.func109,Tryz.ntmps109
 go_wp2
 refine bodyPost_ret (v:= .agg #[.int .i64 2,.int .i64 n,.int .i64 0,.slice none 0 0,.slice none 0 0]) (by simp[results,Tryz.results109,go_sem]) rfl ?_;exact⟨_,rfl,⟨none,0,0,none,0,0,rfl,Sl.nil,Sl.nil,by show Qy 2;unfold Qy;omega,hn,by show Qy 0;unfold Qy;omega⟩,by repeat (first|exact Ext.refl w|refine Ext.setCell ?_ (Nat.le_refl _) _|refine Ext.alloc ?_ _)⟩
section
def nD (w:World)(S:Nat->Prop)(P:Ty->Prop)(e:Ending)(w':World):Prop:=∃D,gg D w S P e w'
def xc (M:Nat):Prop:=∀(d:Nat) (w:World) (S:Nat->Prop) (A:Option Addr) (m me:Nat) (B:Option Addr) (N f:Nat) (l:List Con) (n:Nat) (C:List Nat),PrS d w S A m me B N f l n C->∀x,x<n+m->mu l n (Zz l n x)<M->
 Calls Tryz.prog 36 #[.agg #[.slice A m me,.int .i64 n,.slice B N f],.int .i64 (QW C x)] w (nD w S (Q8 l M (Zz l n x)))
variable {d:Nat}{w:World}{S:Nat->Prop}{A B:Option Addr}{m me N f n:Nat}{l:List Con}{C:List Nat}
theorem sd {M:Nat}(hP:xc M)(hs:PrS d w S A m me B N f l n C)(k:Nat)(hk:k<m)(c:Con)(hc:l[k]? =some c)(ha:QY c=true)(hmu:QQ c=true->¬Rec l c->mu l n c.b<M):Calls Tryz.prog 84 #[.agg #[.slice A m me,.int .i64 n,.slice B N f],.int .i64 k] w (nD w S (Zv l (Q8 l M) c)):=by
 replace hs:PrS d w (fun b=>S b/\b<w.heap.size) A m me B N f l n C:=⟨hs.sl.mono fun b hb hi=>⟨hb,hi.lt⟩,hs.cl,hs.ok,hs.cls,hs.lt,hs.len,hs.n20,hs.m20⟩
 have HCC:=hid hc;have HAC:=hid ha;have HMU:=hid hmu;have HPO:=hid hP;clear hc ha hmu hP;obtain⟨W0,hW0⟩:=Qg (w.alloc (.cells #[.slice A m me,.int .i64 n,.slice B N f] 79));have hE0:Ext w W0:=by rw[<-hW0];exact(Ext.refl w).alloc _
 have b0:W0.cell? ⟨w.heap.size,0,none⟩=some (.slice A m me):=by rw[<-hW0];simp[go_sem]
 have b1:W0.cell? ⟨w.heap.size,1,none⟩=some (.int .i64 n):=by rw[<-hW0];simp[go_sem]
 have b2:W0.cell? ⟨w.heap.size,2,none⟩=some (.slice B N f):=by rw[<-hW0];simp[go_sem]
 have HE0:=hid hE0;have HS:=hid (hs.ext hE0);have HB0:=hid b0;have HB1:=hid b1;have HB2:=hid b2;have HM:=hid hs.sl.len;have HNM:=hid hs.num;obtain⟨hm1,hm2⟩:=hs.sl.cap;obtain⟨hf1,hf2⟩:=hs.cl.cap;have hN20:=hs.n20;have hM20:=hs.m20;clear hE0 hs;have HRB0:=hid (Qm.new W0 (.int .i64 0) (.int .i64 0) (.int .i64 0) (.slice none 0 0) (.slice none 0 0) 42);obtain⟨W1,hW1⟩:=Qg (W0.alloc (.cells #[.int .i64 0,.int .i64 0,.int .i64 0,.slice none 0 0,.slice none 0 0] 42));rw[hW1]at HRB0;have HE1:=hid (show Ext W0 W1 by rw[<-hW1];exact(Ext.refl _).alloc _);have HSZ0:=hid (show W0.heap.size=w.heap.size+1 by rw[<-hW0];simp);have HSZ1:=hid (show W1.heap.size=W0.heap.size+1 by rw[<-hW1];simp);have HS1:=hid (HS.o.ext HE1.o);have b0:=HE1.o.cell HB0.o;obtain⟨cu,du,bA,oA,P1u,n1u,c1u,P2u,n2u,c2u,hc,hok,hd,rfl,hcv,hbx⟩:=(HS1.o).con hk;obtain⟨x0u,x1u,x2u,x3u,x4u,x5u,x6u,x7u,x8u,x9u⟩:=hbx;have HCVu:=hid hcv;have HCu:=hid hc;have HOKu:=hid hok;have HDu:=hid hd;obtain⟨kdu,cau,cbu,ou,wdu,ctu⟩:=cu;obtain⟨au,rfl⟩:∃a:Nat,cau=(a:Int):=⟨cau.toNat,(Qk hok.a0).symm⟩;have hau:au<n:=by have:=hok.a1;simp only at this;omega
 simp only at x0u x1u x2u x3u x4u x5u x6u x7u x8u x9u;clear hc hok hd hcv;obtain rfl:c=⟨kdu,(au:Int),cbu,ou,wdu,ctu⟩:=by have:=HCC.o;rw[HCu.o]at this;cases this;rfl
 have i3:(0:Int)<=(k:Int):=by omega
 have i4:(k:Int)<(m:Int):=by omega
 obtain⟨W1u,hW1u⟩:=Qg ((W1).alloc (.cells #[.int .i64 0,.int .i64 0,.int .i64 0,.int .i64 0,.int .i64 0,.int .i64 0,.int .i64 0,.int .i64 0,.slice none 0 0,.slice none 0 0] 44));have hB1:Zg W1u (W1).heap.size ZW:=by rw[<-hW1u];exact Zg.new W1 ZW _
 have hE1:Ext W1 W1u:=by rw[<-hW1u];exact(Ext.refl _).alloc _
 obtain⟨W2u,hW2,hB2,hH2,hS2,hX2⟩:=Jj hB1 ⟨kdu,(au:Int),cbu,ou,wdu,ctu⟩ P1u n1u c1u P2u n2u c2u;simp only at hW2 hB2;have HXCu:=hid (hX2 W1 hE1 (Nat.le_refl _));have HWCu:=hid hW2;have HBCu:=hid hB2;have z0:=hB1.1 0 _ rfl;have z1:=hB1.1 1 _ rfl;have z2:=hB1.1 2 _ rfl;have z3:=hB1.1 3 _ rfl;have z4:=hB1.1 4 _ rfl;have z5:=hB1.1 5 _ rfl;have z6:=hB1.1 6 _ rfl;have z7:=hB1.1 7 _ rfl;have z8:=hB1.1 8 _ rfl;have z9:=hB1.1 9 _ rfl;have y0:=hB1.2.1 0;have y1:=hB1.2.1 1;have y2:=hB1.2.1 2;have y3:=hB1.2.1 3;have y4:=hB1.2.1 4;have y5:=hB1.2.1 5;have y6:=hB1.2.1 6;have y7:=hB1.2.1 7;have y8:=hB1.2.1 8;have y9:=hB1.2.1 9;clear hW2 hB2 hH2 hS2 hX2 hE1 hB1;go_enter Tryz.func84,Tryz.ntmps84;go_upto_region 2 with fail
 clear hW0 hW1;rw[HWCu.o];clear z0 z1 z2 z3 z4 z5 z6 z7 z8 z9 y0 y1 y2 y3 y4 y5 y6 y7 y8 y9 x0u x1u x2u x3u x4u x5u x6u x7u x8u x9u hW1u;obtain⟨c0,c1,c2,c3,c4,c5,c6,c7,c8,c9⟩:=HBCu.o;rw[Nat.zero_add]at c1 c2 c3 c4 c5 c6 c7 c8 c9;simp only at c0 c1 c2 c3 c4 c5 c6 c7 c8 c9;have HXV:=hid HXCu.o;have b0:=(HE1.o.trans HXV.o).cell HB0.o;have b1:=(HE1.o.trans HXV.o).cell HB1.o;have b2:=(HE1.o.trans HXV.o).cell HB2.o;have hib:=Y9 HS1.o.sl _ (Qx HCu.o);have HIB:=hid hib.2.2.2.2;obtain⟨V,hV⟩:∃V,V=W2u:=⟨_,rfl⟩;obtain rfl:=hV;clear HWCu HBCu hib c0 c1 c2 c3 c5 c6 c7 c8 c9;by_cases h4:wdu=4
 ·have g4:(wdu != 4)=false:=by simp[h4]
  have HW4:=hid (show QQ ⟨kdu,(au:Int),cbu,ou,wdu,ctu⟩=true by unfold QQ;rw[HAC.o];simp[h4]);have H4:=hid h4;clear h4;obtain⟨nk,hnk⟩:=Qg (n+k);have HNK:=hid hnk;have HPV:=hid (HS1.o.ext HXV.o);obtain⟨bB,oB,rfl,yk⟩:=HPV.o.lab (x:=nk) (by omega);have hnv:Zz l n nk=cbu:=by rw[<-hnk];exact KG HCu.o HW4.o
  have HNV:=hid hnv;have HLI:=hid (pD HS.o.cls HS.o.ok (x:=nk) (by have:=HM.o;omega));rw[hnv]at HLI;obtain⟨pn,hpn⟩:=Qg (QW C nk);rw[hpn]at yk HLI;have HPN:=hid hpn;have HIP:=hid (vD HPV.o pn);have i5:IntKind.i64.wrap ((n:Int)+(k:Int))=(nk:Int):=by rw[IntWalk.i64_in _ (by omega)];omega
  have i6:(0:Int)<=(nk:Int):=by omega
  have i7:(nk:Int)<(N:Int):=by have:=HNM.o;omega
  have hnk2:nk<n+m:=by omega
  clear hnk hnv hpn
  go_wp2_with fail
  clear yk c4;refine HIP.o.mono ?_;rintro e5 w5 ⟨b5,rfl,hb5,hx5⟩;have b0:=hx5.cell b0;have b1:=hx5.cell b1;have b2:=hx5.cell b2;have HX5:=hid (HXV.o.trans hx5);have HB5:=hid (hb5.trans HLI.o);clear hx5 hb5
  cases b5 with
  |false=>
   have HNP:=hid (show ¬Q9 l cbu from fun q=>absurd (HB5.o.2 q) (by simp));have HSC:=hid (vG (HS1.o.ext HX5.o) nk hnk2)
   go_wp2_with fail
   clear b0 b1 b2;refine HSC.o.mono ?_;rintro e6 w6 ⟨vt,t,rfl,ht,hvt,hxt⟩;have HVT:=hid (hvt.mono (S':=fun b=>S b/\b<w.heap.size\/W1.heap.size<=b) (fun b hb _=>hb.elim .inl (fun h=> .inr (Nat.le_trans (HX5.o).size h))));obtain⟨At,nt,ct,Bt,mt,et,rfl, -⟩:=hvt;have HXT:=hid (Ext.trans HX5.o hxt);have HTT:=hid (show Zv l (Q8 l M) ⟨kdu,(au:Int),cbu,ou,wdu,ctu⟩ t from(by unfold Zv;rw[if_neg (by simp[H4.o])];exact .inl ⟨HNP.o,uy HS.o.ok HCu.o HW4.o (by rw[HNK.o];exact ht)⟩));clear hxt ht;have hle0:w.heap.size<=W0.heap.size:=HE0.o.size;obtain⟨r0,r1,r2,r3,r4,rf⟩:=(HRB0.o.ext HXT.o);have u0:=rf 0;have u1:=rf 1;have u2:=rf 2;have u3:=rf 3;have u4:=rf 4;obtain⟨W9,hW9,hB9,hH9,hS9,hX9⟩:=QK ((HRB0.o.ext HXT.o)) (.int .i64 t.kind) (.int .i64 t.size) (.int .i64 t.count) (.slice At nt ct) (.slice Bt mt et);obtain⟨t0,t1,t2,t3,t4, -⟩:=hB9;have HW9:=hid hW9;have HX9:=hid (hX9 w (HE0.o.trans (HE1.o.trans HXT.o)) (by omega));have HH9:=hid hH9;have HZ9:=hid hS9;clear hW9 hH9 hS9 hX9 rf
   go_wp2
   rw[HW9.o];clear r0 r1 r2 r3 r4;refine bodyPost_ret (v:= .agg #[(.int .i64 t.kind),(.int .i64 t.size),(.int .i64 t.count),(.slice At nt ct),(.slice Bt mt et)]) (by simp[results,Tryz.results84,go_sem,t0,t1,t2,t3,t4]) rfl ?_;have hty:=(HVT.o.keep (w':=W9) (fun b hb _=>HH9.o b (by have:=HSZ1.o;have:=HSZ0.o;rcases hb with hb|hb <;> omega))).mono (S':=fun b=>S b\/w.heap.size<=b) (fun b hb _=>hb.elim (fun h=> .inl h.1) (fun h=> .inr (by have:=HSZ1.o;have:=HSZ0.o;omega)));exact⟨_,_,t,rfl,HTT.o,hty,HX9.o⟩
  | true=>
   have HPT:=hid (HB5.o.1 (by simp));have HRC:=hid (mJ (HS1.o.ext HX5.o) k hk _ HCu.o HW4.o)
   go_wp2_with fail
   refine HRC.o.mono ?_;rintro e6 w6 ⟨b6,rfl,hb6,hx6⟩;have b0:=hx6.cell b0;have b1:=hx6.cell b1;have b2:=hx6.cell b2;have HX6:=hid (HX5.o.trans hx6);have HB6:=hid hb6;clear hx6 hb6
   cases b6 with
   |false=>
    have HNR:=hid (show ¬Rec l ⟨kdu,(au:Int),cbu,ou,wdu,ctu⟩ from fun q=>absurd (HB6.o.2 q) (by simp));have HPC:=hid (HPO.o _ _ _ _ _ _ _ _ _ _ _ _ (HS1.o.ext HX6.o) nk hnk2 (by rw[HNV.o];exact HMU.o HW4.o HNR.o));rw[HPN.o,HNV.o]at HPC
    go_wp2_with fail
    clear b0 b1 b2;refine HPC.o.mono ?_;rintro e7 w7 ⟨D,vt,t,rfl,ht,hvt,hxt⟩;have HVT:=hid (hvt.mono (S':=fun b=>S b/\b<w.heap.size\/W1.heap.size<=b) (fun b hb _=>hb.elim .inl (fun h=> .inr (Nat.le_trans (HX6.o).size h))));obtain⟨At,nt,ct,Bt,mt,et,rfl, -⟩:=hvt;have HXT:=hid (Ext.trans HX6.o hxt);have HTT:=hid (show Zv l (Q8 l M) ⟨kdu,(au:Int),cbu,ou,wdu,ctu⟩ t from(by unfold Zv;rw[if_neg (by simp[H4.o])];exact .inr (.inl ⟨HPT.o,HNR.o,ht⟩)));clear hxt ht;have hle0:w.heap.size<=W0.heap.size:=HE0.o.size;obtain⟨r0,r1,r2,r3,r4,rf⟩:=(HRB0.o.ext HXT.o);have u0:=rf 0;have u1:=rf 1;have u2:=rf 2;have u3:=rf 3;have u4:=rf 4;obtain⟨W9,hW9,hB9,hH9,hS9,hX9⟩:=QK ((HRB0.o.ext HXT.o)) (.int .i64 t.kind) (.int .i64 t.size) (.int .i64 t.count) (.slice At nt ct) (.slice Bt mt et);obtain⟨t0,t1,t2,t3,t4, -⟩:=hB9;have HW9:=hid hW9;have HX9:=hid (hX9 w (HE0.o.trans (HE1.o.trans HXT.o)) (by omega));have HH9:=hid hH9;have HZ9:=hid hS9;clear hW9 hH9 hS9 hX9 rf
    go_wp2
    rw[HW9.o];clear r0 r1 r2 r3 r4;refine bodyPost_ret (v:= .agg #[(.int .i64 t.kind),(.int .i64 t.size),(.int .i64 t.count),(.slice At nt ct),(.slice Bt mt et)]) (by simp[results,Tryz.results84,go_sem,t0,t1,t2,t3,t4]) rfl ?_;have hty:=(HVT.o.keep (w':=W9) (fun b hb _=>HH9.o b (by have:=HSZ1.o;have:=HSZ0.o;rcases hb with hb|hb <;> omega))).mono (S':=fun b=>S b\/w.heap.size<=b) (fun b hb _=>hb.elim (fun h=> .inl h.1) (fun h=> .inr (by have:=HSZ1.o;have:=HSZ0.o;omega)));exact⟨_,_,t,rfl,HTT.o,hty,HX9.o⟩
   | true=>
    have HRR:=hid (HB6.o.1 (by simp));have HUS:=hid (uQ (HS1.o.ext HX6.o) k hk 3 _ HCu.o)
    go_wp2_with fail
    clear b0 b1 b2;refine HUS.o.mono ?_;rintro e7 w7 ⟨b7,rfl,hb7,hx7⟩;have HX7:=hid (HX6.o.trans hx7);have HB7:=hid hb7;clear hx7 hb7
    cases b7 with
    |true=>
     have hle0:w.heap.size<=W0.heap.size:=HE0.o.size;obtain⟨r0,r1,r2,r3,r4,rf⟩:=(HRB0.o.ext HX7.o);have u0:=rf 0;have u1:=rf 1;have u2:=rf 2;have u3:=rf 3;have u4:=rf 4;obtain⟨W9,hW9,hB9,hH9,hS9,hX9⟩:=QK ((HRB0.o.ext HX7.o)) (.int .i64 6) (.int .i64 0) (.int .i64 0) (.slice none 0 0) (.slice none 0 0);obtain⟨t0,t1,t2,t3,t4, -⟩:=hB9;have HW9:=hid hW9;have HX9:=hid (hX9 w (HE0.o.trans (HE1.o.trans HX7.o)) (by omega));have HH9:=hid hH9;have HZ9:=hid hS9;clear hW9 hH9 hS9 hX9 rf
     go_wp2
     rw[HW9.o];clear r0 r1 r2 r3 r4;refine bodyPost_ret (v:= .agg #[(.int .i64 6),(.int .i64 0),(.int .i64 0),(.slice none 0 0),(.slice none 0 0)]) (by simp[results,Tryz.results84,go_sem,t0,t1,t2,t3,t4]) rfl ?_;exact⟨0,_,Ty.any,rfl,by unfold Zv;rw[if_neg (by simp[H4.o])];exact .inr (.inr ⟨HPT.o,HRR.o,.inl ⟨HB7.o.1 (by simp),rfl⟩⟩),Vk,HX9.o⟩
    |false=>
     have hle0:w.heap.size<=W0.heap.size:=HE0.o.size;obtain⟨r0,r1,r2,r3,r4,rf⟩:=(HRB0.o.ext HX7.o);have u0:=rf 0;have u1:=rf 1;have u2:=rf 2;have u3:=rf 3;have u4:=rf 4;obtain⟨W9,hW9,hB9,hH9,hS9,hX9⟩:=QK ((HRB0.o.ext HX7.o)) (.int .i64 0) (.int .i64 0) (.int .i64 0) (.slice none 0 0) (.slice none 0 0);obtain⟨t0,t1,t2,t3,t4, -⟩:=hB9;have HW9:=hid hW9;have HX9:=hid (hX9 w (HE0.o.trans (HE1.o.trans HX7.o)) (by omega));have HH9:=hid hH9;have HZ9:=hid hS9;clear hW9 hH9 hS9 hX9 rf
     go_wp2
     rw[HW9.o];clear r0 r1 r2 r3 r4;refine bodyPost_ret (v:= .agg #[(.int .i64 0),(.int .i64 0),(.int .i64 0),(.slice none 0 0),(.slice none 0 0)]) (by simp[results,Tryz.results84,go_sem,t0,t1,t2,t3,t4]) rfl ?_;exact⟨0,_,Ty.unk,rfl,by unfold Zv;rw[if_neg (by simp[H4.o])];exact .inr (.inr ⟨HPT.o,HRR.o,.inr ⟨fun q=>absurd (HB7.o.2 q) (by simp),rfl⟩⟩),ZF,HX9.o⟩
 ·have g4:(wdu != 4)=true:=by simp[h4]
  have H4:=hid h4;clear h4 b0 b1 b2;have HUI:=hid (lM 0 V wdu HIB.o)
  go_wp2_with fail
  clear c4;refine HUI.o.mono ?_;rintro e6 w6 ⟨vt,rfl,hvt,hxt⟩;obtain⟨t,ht⟩:=Qg (Ty.uint wdu);rw[ht]at hvt
  replace hvt:=hvt.mono (S':=fun b=>(S b/\b<w.heap.size)\/V.heap.size<=b) (fun b hb _=> .inr hb)
  have HVT:=hid (hvt.mono (S':=fun b=>S b/\b<w.heap.size\/W1.heap.size<=b) (fun b hb _=>hb.elim .inl (fun h=> .inr (Nat.le_trans (HXV.o).size h))));obtain⟨At,nt,ct,Bt,mt,et,rfl, -⟩:=hvt;have HXT:=hid (Ext.trans HXV.o hxt);have HTT:=hid (show Zv l (Q8 l M) ⟨kdu,(au:Int),cbu,ou,wdu,ctu⟩ t from(by unfold Zv;rw[if_pos H4.o];exact ht.symm));clear hxt ht;have hle0:w.heap.size<=W0.heap.size:=HE0.o.size;obtain⟨r0,r1,r2,r3,r4,rf⟩:=(HRB0.o.ext HXT.o);have u0:=rf 0;have u1:=rf 1;have u2:=rf 2;have u3:=rf 3;have u4:=rf 4;obtain⟨W9,hW9,hB9,hH9,hS9,hX9⟩:=QK ((HRB0.o.ext HXT.o)) (.int .i64 t.kind) (.int .i64 t.size) (.int .i64 t.count) (.slice At nt ct) (.slice Bt mt et);obtain⟨t0,t1,t2,t3,t4, -⟩:=hB9;have HW9:=hid hW9;have HX9:=hid (hX9 w (HE0.o.trans (HE1.o.trans HXT.o)) (by omega));have HH9:=hid hH9;have HZ9:=hid hS9;clear hW9 hH9 hS9 hX9 rf
  go_wp2
  rw[HW9.o];clear r0 r1 r2 r3 r4;refine bodyPost_ret (v:= .agg #[(.int .i64 t.kind),(.int .i64 t.size),(.int .i64 t.count),(.slice At nt ct),(.slice Bt mt et)]) (by simp[results,Tryz.results84,go_sem,t0,t1,t2,t3,t4]) rfl ?_;have hty:=(HVT.o.keep (w':=W9) (fun b hb _=>HH9.o b (by have:=HSZ1.o;have:=HSZ0.o;rcases hb with hb|hb <;> omega))).mono (S':=fun b=>S b\/w.heap.size<=b) (fun b hb _=>hb.elim (fun h=> .inl h.1) (fun h=> .inr (by have:=HSZ1.o;have:=HSZ0.o;omega)));exact⟨_,_,t,rfl,HTT.o,hty,HX9.o⟩
end
section
def FQ (w:World)(P:Nat->Prop)(Q:List (Int×Ty)->Prop)(e:Ending)(w':World):Prop:=∃D A n c F',e= .returned (.slice A n c)/\Sl (fdR (tyR D)) w' (fun b=>P b\/w.heap.size<=b) (.slice A n c) F'/\Q F'/\Ext w w'
def Fc (l:List Con)(M:Nat)(c:Con)(F F':List (Int×Ty)):Prop:=(F'=F/\∃t,lkF F c.off=some t)\/((∀f∈F,f.1≠c.off)/\∃t,Zv l (Q8 l M) c t/\F'=XY c.off t F)
theorem Df {F:List (Int×Ty)}(h:Zb F){k:Nat}{f:Int×Ty}(hk:F[k]? =some f){o:Int}(h1:∀g∈F.take k,g.1<o)(h2:o<f.1):∀g∈F,g.1≠o:=by
 intro g hg e;obtain⟨j,hj⟩:=List.getElem?_of_mem hg;have l1:=(Qz hj).1;have l2:=(Qz hk).1;rcases Nat.lt_trichotomy j k with hlt|heq|hgt
 ·have:=h1 g (Qx (by rw[List.getElem?_take,if_pos hlt];exact hj));omega
 ·subst heq;rw[hk]at hj;cases hj;omega
 ·have:=(List.pairwise_iff_getElem.1 h) k j l2 l1 hgt;rw[(Qz hk).2,(Qz hj).2]at this;omega
variable {d:Nat}{w:World}{S:Nat->Prop}{A B:Option Addr}{m me N f n:Nat}{l:List Con}{C:List Nat}
theorem sw {M:Nat}(hP:xc M)(hs:PrS d w S A m me B N f l n C)(P:Nat->Prop)(hSP:∀b,S b->P b)(D:Nat)(FA:Option Addr)(fn fc:Nat)(F:List (Int×Ty))(hF:Sl (fdR (tyR D)) w P (.slice FA fn fc) F)(hasc:Zb F)(hfn:fn<=100)
  (k:Nat) (hk:k<m) (c:Con) (hc:l[k]? =some c) (ha:QY c=true) (hmu:QQ c=true->¬Rec l c->mu l n c.b<M):Calls Tryz.prog 61 #[.slice FA fn fc,.agg #[.slice A m me,.int .i64 n,.slice B N f],.int .i64 k] w (FQ w P (Fc l M c F)):=by
 replace hs:PrS d w (fun b=>S b/\b<w.heap.size) A m me B N f l n C:=⟨hs.sl.mono fun b hb hi=>⟨hb,hi.lt⟩,hs.cl,hs.ok,hs.cls,hs.lt,hs.len,hs.n20,hs.m20⟩
 have HF:=hid (show Sl (fdR (tyR D)) w (fun b=>P b/\b<w.heap.size) (.slice FA fn fc) F from hF.mono fun b hb hi=>⟨hb,hi.lt⟩);have HFL:=hid hF.len;obtain⟨hg1,hg2⟩:=hF.cap;have HASC:=hid hasc;have HSP:=hid hSP;have HCC:=hid hc;have HCT0:=hid (fun(w':World) (hw:Ext w w')=>sd hP (hs.ext hw) k hk c hc ha hmu);obtain⟨i0,hi,hi0,hi1,hi2⟩:=info_parts qX;have HI:=hid hi;have HI0:=hid hi0;have HI1:=hid hi1;have HI2:=hid hi2;clear hc ha hmu hP hF hasc hSP hi hi0 hi1 hi2;obtain⟨W0,hW0⟩:=Qg (w.alloc (.cells #[.slice A m me,.int .i64 n,.slice B N f] 79));have hE0:Ext w W0:=by rw[<-hW0];exact(Ext.refl w).alloc _
 have b0:W0.cell? ⟨w.heap.size,0,none⟩=some (.slice A m me):=by rw[<-hW0];simp[go_sem]
 have b1:W0.cell? ⟨w.heap.size,1,none⟩=some (.int .i64 n):=by rw[<-hW0];simp[go_sem]
 have b2:W0.cell? ⟨w.heap.size,2,none⟩=some (.slice B N f):=by rw[<-hW0];simp[go_sem]
 have HE0:=hid hE0;have HS:=hid (hs.ext hE0);have HB0:=hid b0;have HB1:=hid b1;have HB2:=hid b2;have HM:=hid hs.sl.len;have HNM:=hid hs.num;obtain⟨hm1,hm2⟩:=hs.sl.cap;obtain⟨hf1,hf2⟩:=hs.cl.cap;have hN20:=hs.n20;have hM20:=hs.m20;clear hE0 hs;have HCT:=hid (fun(w':World) (hw:Ext W0 w')=>HCT0.o w' (HE0.o.trans hw));obtain⟨cu,du,bA,oA,P1u,n1u,c1u,P2u,n2u,c2u,hc,hok,hd,rfl,hcv,hbx⟩:=(HS.o).con hk;obtain⟨x0u,x1u,x2u,x3u,x4u,x5u,x6u,x7u,x8u,x9u⟩:=hbx;have HCVu:=hid hcv;have HCu:=hid hc;have HOKu:=hid hok;have HDu:=hid hd;obtain⟨kdu,cau,cbu,ou,wdu,ctu⟩:=cu;obtain⟨au,rfl⟩:∃a:Nat,cau=(a:Int):=⟨cau.toNat,(Qk hok.a0).symm⟩;have hau:au<n:=by have:=hok.a1;simp only at this;omega
 simp only at x0u x1u x2u x3u x4u x5u x6u x7u x8u x9u;clear hc hok hd hcv;obtain rfl:c=⟨kdu,(au:Int),cbu,ou,wdu,ctu⟩:=by have:=HCC.o;rw[HCu.o]at this;cases this;rfl
 have hib:=Y9 HS.o.sl _ (Qx HCu.o);have HIB:=hid hib.2.2.2.1;have HEL:=hid (Ext.two (Ext.hc3 b0 b1 b2) (Ext.hc10 x0u x1u x2u x3u x4u x5u x6u x7u x8u x9u));have i3:(0:Int)<=(k:Int):=by omega
 have i4:(k:Int)<(m:Int):=by omega
 clear hib HCT0;go_enter Tryz.func61,Tryz.ntmps61
 go_wp2
 clear hW0 b0 b1 b2 x0u x1u x2u x3u x4u x5u x6u x7u x8u x9u
 go_loopw [7] (fun s wr=>∃at_:Nat,at_<=fn/\s= .int .i64 at_/\Hid (Ext W0 wr)/\Hid (∀g∈F.take at_,g.1<ou)) (fun s _=>fn - (intOf s).toNat)
 case atStart=>exact⟨0,by omega,rfl,hid (Ext.refl _),hid (by simp)⟩
 case round=>
  obtain⟨at_,hat,rfl,HXS,HLO⟩:=hrel;have HTL:=hid (show(F.take at_).length=at_ by rw[List.length_take];have:=HFL.o;omega);by_cases h1:at_<fn
  ·obtain⟨g,hg⟩:∃g,F[at_]? =some g:=⟨_,Qq (by have:=HFL.o;omega)⟩;obtain⟨d',bF,oF,Q1,q1,r1,Q2,q2,r2,hd,hFA, -, -,y0, -⟩:=HF.o.fd_at hg;have HG:=hid hg;have j1:(0:Int)<=(at_:Int):=by omega
   have j2:(at_:Int)<(fn:Int):=by omega
   have j3:decide ((at_:Int)<(fn:Int))=true:=Qv j2;have HELF:=hid (fun(w':World) (hh:Ext W0 w')=>(show(w'.cell? ⟨w.heap.size,0,none⟩=some (.slice (some ⟨bA,oA,none⟩) m me)/\w'.cell? ⟨w.heap.size,1,none⟩=some (.int .i64 n)/\w'.cell? ⟨w.heap.size,2,none⟩=some (.slice B N f))/\(w'.cell? ⟨bA,oA+k * 10,none⟩=some (.int .i64 kdu)/\w'.cell? ⟨bA,oA+k * 10+1,none⟩=some (.int .i64 (au:Int))/\w'.cell? ⟨bA,oA+k * 10+2,none⟩=some (.int .i64 cbu)/\w'.cell? ⟨bA,oA+k * 10+3,none⟩=some (.int .i64 ou)/\w'.cell? ⟨bA,oA+k * 10+4,none⟩=some (.int .i64 wdu)/\w'.cell? ⟨bA,oA+k * 10+5,none⟩=some (.int .i64 ctu.kind)/\w'.cell? ⟨bA,oA+k * 10+6,none⟩=some (.int .i64 ctu.size)/\w'.cell? ⟨bA,oA+k * 10+7,none⟩=some (.int .i64 ctu.count)/\w'.cell? ⟨bA,oA+k * 10+8,none⟩=some (.slice P1u n1u c1u)/\w'.cell? ⟨bA,oA+k * 10+9,none⟩=some (.slice P2u n2u c2u))/\w'.cell? ⟨bF,oF+at_ * 6,none⟩=some (.int .i64 g.1) from⟨(HEL.o _ hh).1,(HEL.o _ hh).2,(HE0.o.trans hh).cell y0⟩));clear hd y0 hg;subst hFA;by_cases h2:g.1<ou
   ·have j4:decide (g.1<ou)=true:=Qv h2;have H2:=hid h2;clear h2
    go_wp2_with fail
    refine rgH HELF.o HXS.o.drew (fun hSg1q0=>?_);refine Qp 0 1 2 3 4 5 ?_;refine Qp 6 7 8 9 10 11 ?_;refine Qp 12 13 14 15 16 17 ?_;refine wpAnyH_done (by kernel_rfl) ?_ _
    go_wp2
    first
     |go_roundw
     |refine⟨?rel, ?measure⟩
    case rel=>
     refine⟨at_+1,by omega,by go_num,hid HXS.o.drew,hid (fun q hq=>?_)⟩;rw[List.take_add_one,HG.o]at hq;rcases List.mem_append.1 hq with hq|hq
     ·exact HLO.o q hq
     ·simp at hq;rw[hq];exact H2.o
    case measure=>simp [intOf];omega
   ·have j4:decide (g.1<ou)=false:=Qw h2;have H2:=hid h2;clear h2
    go_wp2_with fail
    refine rgH HELF.o HXS.o.drew (fun hSg2q0=>?_);refine Qp 0 1 2 3 4 5 ?_;refine Qp 6 7 8 9 10 11 ?_;refine Qp 12 13 14 15 16 17 ?_;refine wpAnyH_done (by kernel_rfl) ?_ _;have HXS:=hid HXS.o.drew;by_cases h3:g.1=ou
    ·have j5:(g.1 == ou)=true:=by simp[h3]
     have H3:=hid h3;clear h3
     go_wp2_with fail
     refine rgH HELF.o HXS.o.drew (fun hSg3q0=>?_);refine Qp 0 1 2 3 4 5 ?_;refine Qp 6 7 8 9 10 11 ?_;refine Qp 12 13 14 15 16 17 ?_;refine wpAnyH_done (by kernel_rfl) ?_ _
     go_wp2
     go_ret;refine⟨D,_,_,_,F,rfl,(HF.o.ext (HE0.o.trans HXS.o.drew)).mono (fun b hb _=> .inl hb.1),.inl ⟨rfl,g.2, ?_⟩,HE0.o.trans HXS.o.drew⟩;show lkF F ou=some g.2;rw[<-H3.o];exact Jk HASC.o (Qx HG.o)
    ·have j5:(g.1 == ou)=false:=by simp[h3]
     have HGT:=hid (show ou<g.1 by have:=H2.o;omega);have HNE:=hid (Df HASC.o HG.o HLO.o HGT.o);have HHI:Hid (∀q,F[at_]? =some q->ou<q.1):=hid (fun q hq=>by rw[HG.o]at hq;cases hq;exact HGT.o);clear h3
     go_wp2_with fail
     refine rgH HELF.o HXS.o.drew (fun hSg4q0=>?_);refine Qp 0 1 2 3 4 5 ?_;refine Qp 6 7 8 9 10 11 ?_;refine Qp 12 13 14 15 16 17 ?_;refine wpAnyH_done (by kernel_rfl) ?_ _;have HX:=hid HXS.o.drew;generalize hV:World.drew _=V at HX ⊢;clear hV
     go_wp2_with (first
      |((with_reducible refine xP 40 (.tmp 49) none (some (.tmp 50)) rfl rfl ?_);refine bz rfl 40 59 (.tmp 49) (.tmp 50) rfl Tryz.underlying40 i0 HI.o (fdR (tyR D)) (HI1.o.trans (ZJ D).symm) rfl (HF.o.ext ((HE0.o.trans HX.o).alloc (.cells #[] 59))) at_ rfl hat ?_;intro A2 hA2;have HA2:=hid hA2;clear hA2)
      |(at_builtin;refine Yy rfl (.tmp 48) (.tmp 51) 40 rfl W0.heap.size 59 i0 _ 6 80 Tryz.underlying40 HI.o HI0.o HI1.o HI2.o rfl (fdR (tyR D)) (ZJ D) _ [] rfl (Qf.fresh0 (T:=fun b=>(P b/\b<w.heap.size)\/W0.heap.size<=b) V HX.o.size) A2 at_ fc (F.take at_) (fun b=>P b/\b<w.heap.size) rfl HA2.o (fun b hb _=>⟨.inl hb,Jf (by have h2:b<w.heap.size:=hb.2;have:=HE0.o.size;have:=HX.o.size;omega)⟩) (by simp;omega) (by simp;omega) (by have:=HX.o.size;simp;omega) ?_;intro A3 c3 w3 hown3 hg3 hloc;have HO3:Hid (Qf (fdR (tyR D)) w3 W0.heap.size 59 (fun b=>(P b/\b<w.heap.size)\/W0.heap.size<=b) (.slice A3 at_ c3) (F.take at_)):=hid (by have:=hown3;rwa [List.nil_append,show([]:List (Int×Ty)).length+at_=at_ by simp]at this);have HX3:=hid ((HX.o.alloc _).grown hg3 (fun q hq=>by have:=xX hq;have:=HX.o.size;omega));clear hown3 hg3 hloc)
      |fail)
     refine rgH HEL.o HX3.o.drew (fun hSg5q0=>?_);refine Qp 0 1 2 3 4 5 ?_;refine Zd 6 7 8 ?_;refine rgC 9 (fun K hK=>?_);go_simp;go_at_call 84;refine(HCT.o _ HX3.o.drew).mono ?_;rintro e4 w4 ⟨Dc,v4,t,rfl,ht,hv4,hx4⟩;have HX34:=hid hx4.drew_left;have HX4:=hid (HX3.o.trans hx4.drew_left);have HTC:=hid ht;have HV4:=hid hv4;obtain⟨A4,n4,c4,B4,m4,e4,rfl, -⟩:=hv4;clear hx4 ht;refine rgK hK (HEL.o _ HX4.o) (fun hSg5q1=>?_);clear hK K;refine rgT 10 ?_;refine rgC 11 (fun K hK=>?_);go_simp;refine rgK hK (HEL.o _ (HX4.o.alloc _)) (fun hSg5q2=>?_);clear hK K;refine rgC 12 (fun K hK=>?_);have hown4:=Qf.fd_up (show D<=max D Dc+1 by omega) (HO3.o.ext HX34.o)
     have hrel4:(fdR (tyR (max D Dc+1))).rel w4 (fun b=>((P b/\b<w.heap.size)\/W0.heap.size<=b)/\some b≠(Value.slice A3 at_ c3).ownBlock) [.int .i64 ou,.int .i64 t.kind,.int .i64 t.size,.int .i64 t.count,.slice A4 n4 c4,.slice B4 m4 e4] (ou,t):=(by
      refine VG.2 ⟨A4,n4,c4,B4,m4,e4,rfl,HIB.o,(TyV.up (d:=Dc) (d':=max D Dc) (by omega) HV4.o).mono fun b hb _=>?_⟩;have h3:=HO3.o.block;have h4:w3.drew.heap.size=w3.heap.size:=rfl;have h5:=HX3.o.size;have h6:=HE0.o.size;rcases hb with hb|hb
      ·exact⟨.inl ⟨HSP.o b hb.1,hb.2⟩,fun e=>by have:=(h3 b e.symm).1;omega⟩
      ·exact⟨.inr (by omega),fun e=>by have:=(h3 b e.symm).2;omega⟩)
     refine zp rfl (.tmp 53) (.tmp 64) 40 rfl W0.heap.size 59 i0 _ 6 80 Tryz.underlying40 HI.o HI0.o HI1.o HI2.o rfl (fdR (tyR (max D Dc+1))) (ZJ _) (.slice A3 at_ c3) (F.take at_) rfl hown4 (ou,t) rfl hrel4 (by rw[HTL.o];omega) (by rw[HTL.o];omega) (by have:=HX4.o.size;omega) ?_;intro A5 c5 w5 hown5 hg5 hloc5;rw[HTL.o]at hown5;have HO5:=hid hown5;have HX5:=hid ((HX4.o.alloc _).grown hg5 (fun q hq=>(hown4.block q hq).1));rw[HTL.o];clear hown5 hg5 hloc5 hown4 hrel4;refine rgK hK (HEL.o _ HX5.o) (fun hSg5q3=>?_);clear hK K;refine rgT 13 ?_;refine wpAnyH_done (by kernel_rfl) ?_ _
     go_wp2_with (first
      |((with_reducible refine xP 40 (.tmp 67) (some (.tmp 68)) none rfl rfl ?_);refine fW rfl 40 59 (.tmp 67) (.tmp 68) rfl Tryz.underlying40 i0 HI.o (fdR (tyR D)) (HI1.o.trans (ZJ D).symm) rfl (HF.o.ext (HE0.o.trans HX5.o)) at_ rfl hat ?_;intro A6 hA6;have HA6:=hid hA6;clear hA6)
      |(at_builtin;refine Yy rfl (.tmp 66) (.tmp 69) 40 rfl W0.heap.size 59 i0 _ 6 80 Tryz.underlying40 HI.o HI0.o HI1.o HI2.o rfl (fdR (tyR (max D Dc+1))) (ZJ _) (.slice A5 (at_+1) c5) (F.take at_ ++ [(ou,t)]) rfl HO5.o A6 (fn - at_) (fc - at_) (F.drop at_) (fun b=>P b/\b<w.heap.size) rfl (HA6.o.fd_up (by omega)) (fun b hb _=>⟨.inl hb,fun e=>by have h2:b<w.heap.size:=hb.2;have h1:=(HO5.o.block b e.symm).1;have:=HE0.o.size;omega⟩) (by rw[List.length_append,HTL.o];simp;omega) (by rw[List.length_append,HTL.o];simp;omega) (by exact HX5.o.size) ?_;intro A7 c7 w7 hown7 hg7 hloc;rw[show(F.take at_ ++ [(ou,t)]).length=at_+1 from by rw[List.length_append,HTL.o];rfl]at hown7 ⊢;have HX7:=hid (HX5.o.grown hg7 (fun q hq=>(HO5.o.block _ hq).1));have HO7:=hid hown7;clear hown7 hg7 hloc)
      |fail)
     go_ret;have hsl:=HO7.o.slT (S:=fun b=>P b\/w.heap.size<=b) (fun b hb=>hb.elim (fun h=> .inl h.1) (fun h=> .inr (by have:=HE0.o.size;omega))) (fun q hq=> .inr (by have:=(HO7.o.block q hq).1;have:=HE0.o.size;omega));refine⟨_,_,_,_,F.take at_ ++ [(ou,t)] ++ F.drop at_,rfl,hsl,.inr ⟨HNE.o,t,HTC.o, ?_⟩,HE0.o.trans HX7.o⟩;show _=XY ou t F;rw[wF HLO.o HHI.o];simp
  ·have j2:¬(at_:Int)<(fn:Int):=by omega
   have j3:decide ((at_:Int)<(fn:Int))=false:=Qw j2;have HELF:=hid (fun(w':World) (hh:Ext W0 w')=>(show(w'.cell? ⟨w.heap.size,0,none⟩=some (.slice (some ⟨bA,oA,none⟩) m me)/\w'.cell? ⟨w.heap.size,1,none⟩=some (.int .i64 n)/\w'.cell? ⟨w.heap.size,2,none⟩=some (.slice B N f))/\(w'.cell? ⟨bA,oA+k * 10,none⟩=some (.int .i64 kdu)/\w'.cell? ⟨bA,oA+k * 10+1,none⟩=some (.int .i64 (au:Int))/\w'.cell? ⟨bA,oA+k * 10+2,none⟩=some (.int .i64 cbu)/\w'.cell? ⟨bA,oA+k * 10+3,none⟩=some (.int .i64 ou)/\w'.cell? ⟨bA,oA+k * 10+4,none⟩=some (.int .i64 wdu)/\w'.cell? ⟨bA,oA+k * 10+5,none⟩=some (.int .i64 ctu.kind)/\w'.cell? ⟨bA,oA+k * 10+6,none⟩=some (.int .i64 ctu.size)/\w'.cell? ⟨bA,oA+k * 10+7,none⟩=some (.int .i64 ctu.count)/\w'.cell? ⟨bA,oA+k * 10+8,none⟩=some (.slice P1u n1u c1u)/\w'.cell? ⟨bA,oA+k * 10+9,none⟩=some (.slice P2u n2u c2u))/\True from⟨(HEL.o _ hh).1,(HEL.o _ hh).2,trivial⟩));have hFt:F.take at_=F:=Qj (by have:=HFL.o;omega);have HNE:Hid (∀g∈F,g.1≠ou):=hid (fun q hq e=>by have:=HLO.o q (by rw[hFt];exact hq);omega);have HHI:Hid (∀q,F[at_]? =some q->ou<q.1):=hid (fun q hq=>by have:=(Qz hq).1;have:=HFL.o;omega);clear hFt
   go_wp2_with fail
   refine rgH HELF.o HXS.o.drew (fun hSg6q0=>?_);refine QB 0 1 2 3 ?_;refine rgT 4 ?_;refine Qc 5 6 7 8 ?_;refine Qc 9 10 11 12 ?_;refine Qc 13 14 15 16 ?_;refine rgT 17 ?_;refine wpAnyH_done (by kernel_rfl) ?_ _;have HXS:=hid HXS.o.drew
   go_wp2_with fail
   refine rgH HELF.o HXS.o.drew (fun hSg7q0=>?_);refine QB 0 1 2 3 ?_;refine rgT 4 ?_;refine Qc 5 6 7 8 ?_;refine Qc 9 10 11 12 ?_;refine Qc 13 14 15 16 ?_;refine rgT 17 ?_;refine wpAnyH_done (by kernel_rfl) ?_ _;have HX:=hid HXS.o.drew;generalize hV:World.drew _=V at HX ⊢;clear hV
   go_wp2_with (first
    |((with_reducible refine xP 40 (.tmp 49) none (some (.tmp 50)) rfl rfl ?_);refine bz rfl 40 59 (.tmp 49) (.tmp 50) rfl Tryz.underlying40 i0 HI.o (fdR (tyR D)) (HI1.o.trans (ZJ D).symm) rfl (HF.o.ext ((HE0.o.trans HX.o).alloc (.cells #[] 59))) at_ rfl hat ?_;intro A2 hA2;have HA2:=hid hA2;clear hA2)
    |(at_builtin;refine Yy rfl (.tmp 48) (.tmp 51) 40 rfl W0.heap.size 59 i0 _ 6 80 Tryz.underlying40 HI.o HI0.o HI1.o HI2.o rfl (fdR (tyR D)) (ZJ D) _ [] rfl (Qf.fresh0 (T:=fun b=>(P b/\b<w.heap.size)\/W0.heap.size<=b) V HX.o.size) A2 at_ fc (F.take at_) (fun b=>P b/\b<w.heap.size) rfl HA2.o (fun b hb _=>⟨.inl hb,Jf (by have h2:b<w.heap.size:=hb.2;have:=HE0.o.size;have:=HX.o.size;omega)⟩) (by simp;omega) (by simp;omega) (by have:=HX.o.size;simp;omega) ?_;intro A3 c3 w3 hown3 hg3 hloc;have HO3:Hid (Qf (fdR (tyR D)) w3 W0.heap.size 59 (fun b=>(P b/\b<w.heap.size)\/W0.heap.size<=b) (.slice A3 at_ c3) (F.take at_)):=hid (by have:=hown3;rwa [List.nil_append,show([]:List (Int×Ty)).length+at_=at_ by simp]at this);have HX3:=hid ((HX.o.alloc _).grown hg3 (fun q hq=>by have:=xX hq;have:=HX.o.size;omega));clear hown3 hg3 hloc)
    |fail)
   refine rgH HEL.o HX3.o.drew (fun hSg8q0=>?_);refine Qp 0 1 2 3 4 5 ?_;refine Zd 6 7 8 ?_;refine rgC 9 (fun K hK=>?_);go_simp;go_at_call 84;refine(HCT.o _ HX3.o.drew).mono ?_;rintro e4 w4 ⟨Dc,v4,t,rfl,ht,hv4,hx4⟩;have HX34:=hid hx4.drew_left;have HX4:=hid (HX3.o.trans hx4.drew_left);have HTC:=hid ht;have HV4:=hid hv4;obtain⟨A4,n4,c4,B4,m4,e4,rfl, -⟩:=hv4;clear hx4 ht;refine rgK hK (HEL.o _ HX4.o) (fun hSg8q1=>?_);clear hK K;refine rgT 10 ?_;refine rgC 11 (fun K hK=>?_);go_simp;refine rgK hK (HEL.o _ (HX4.o.alloc _)) (fun hSg8q2=>?_);clear hK K;refine rgC 12 (fun K hK=>?_);have hown4:=Qf.fd_up (show D<=max D Dc+1 by omega) (HO3.o.ext HX34.o)
   have hrel4:(fdR (tyR (max D Dc+1))).rel w4 (fun b=>((P b/\b<w.heap.size)\/W0.heap.size<=b)/\some b≠(Value.slice A3 at_ c3).ownBlock) [.int .i64 ou,.int .i64 t.kind,.int .i64 t.size,.int .i64 t.count,.slice A4 n4 c4,.slice B4 m4 e4] (ou,t):=(by
    refine VG.2 ⟨A4,n4,c4,B4,m4,e4,rfl,HIB.o,(TyV.up (d:=Dc) (d':=max D Dc) (by omega) HV4.o).mono fun b hb _=>?_⟩;have h3:=HO3.o.block;have h4:w3.drew.heap.size=w3.heap.size:=rfl;have h5:=HX3.o.size;have h6:=HE0.o.size;rcases hb with hb|hb
    ·exact⟨.inl ⟨HSP.o b hb.1,hb.2⟩,fun e=>by have:=(h3 b e.symm).1;omega⟩
    ·exact⟨.inr (by omega),fun e=>by have:=(h3 b e.symm).2;omega⟩)
   refine zp rfl (.tmp 53) (.tmp 64) 40 rfl W0.heap.size 59 i0 _ 6 80 Tryz.underlying40 HI.o HI0.o HI1.o HI2.o rfl (fdR (tyR (max D Dc+1))) (ZJ _) (.slice A3 at_ c3) (F.take at_) rfl hown4 (ou,t) rfl hrel4 (by rw[HTL.o];omega) (by rw[HTL.o];omega) (by have:=HX4.o.size;omega) ?_;intro A5 c5 w5 hown5 hg5 hloc5;rw[HTL.o]at hown5;have HO5:=hid hown5;have HX5:=hid ((HX4.o.alloc _).grown hg5 (fun q hq=>(hown4.block q hq).1));rw[HTL.o];clear hown5 hg5 hloc5 hown4 hrel4;refine rgK hK (HEL.o _ HX5.o) (fun hSg8q3=>?_);clear hK K;refine rgT 13 ?_;refine wpAnyH_done (by kernel_rfl) ?_ _
   go_wp2_with (first
    |((with_reducible refine xP 40 (.tmp 67) (some (.tmp 68)) none rfl rfl ?_);refine fW rfl 40 59 (.tmp 67) (.tmp 68) rfl Tryz.underlying40 i0 HI.o (fdR (tyR D)) (HI1.o.trans (ZJ D).symm) rfl (HF.o.ext (HE0.o.trans HX5.o)) at_ rfl hat ?_;intro A6 hA6;have HA6:=hid hA6;clear hA6)
    |(at_builtin;refine Yy rfl (.tmp 66) (.tmp 69) 40 rfl W0.heap.size 59 i0 _ 6 80 Tryz.underlying40 HI.o HI0.o HI1.o HI2.o rfl (fdR (tyR (max D Dc+1))) (ZJ _) (.slice A5 (at_+1) c5) (F.take at_ ++ [(ou,t)]) rfl HO5.o A6 (fn - at_) (fc - at_) (F.drop at_) (fun b=>P b/\b<w.heap.size) rfl (HA6.o.fd_up (by omega)) (fun b hb _=>⟨.inl hb,fun e=>by have h2:b<w.heap.size:=hb.2;have h1:=(HO5.o.block b e.symm).1;have:=HE0.o.size;omega⟩) (by rw[List.length_append,HTL.o];simp;omega) (by rw[List.length_append,HTL.o];simp;omega) (by exact HX5.o.size) ?_;intro A7 c7 w7 hown7 hg7 hloc;rw[show(F.take at_ ++ [(ou,t)]).length=at_+1 from by rw[List.length_append,HTL.o];rfl]at hown7 ⊢;have HX7:=hid (HX5.o.grown hg7 (fun q hq=>(HO5.o.block _ hq).1));have HO7:=hid hown7;clear hown7 hg7 hloc)
    |fail)
   go_ret;have hsl:=HO7.o.slT (S:=fun b=>P b\/w.heap.size<=b) (fun b hb=>hb.elim (fun h=> .inl h.1) (fun h=> .inr (by have:=HE0.o.size;omega))) (fun q hq=> .inr (by have:=(HO7.o.block q hq).1;have:=HE0.o.size;omega));refine⟨_,_,_,_,F.take at_ ++ [(ou,t)] ++ F.drop at_,rfl,hsl,.inr ⟨HNE.o,t,HTC.o, ?_⟩,HE0.o.trans HX7.o⟩;show _=XY ou t F;rw[wF HLO.o HHI.o];simp
end
open Go.Maps
section
theorem aY (d:Nat)(w:World)(S:Nat->Prop)(t:Ty)(v:Value)(hv:TyV d w S v t):Calls Tryz.prog 23 #[v] w (gg (d+1) w S (fun u=>u=Ty.ptr t)):=by
 have hv0:=hv;obtain⟨A,na,ca,B,nb,cb,rfl, -⟩:=hv;obtain⟨W1,hW1⟩:=Qg ((w.alloc (.cells #[.int .i64 t.kind,.int .i64 t.size,.int .i64 t.count,.slice A na ca,.slice B nb cb] 42)).alloc (.cells #[.int .i64 0,.int .i64 0,.int .i64 0,.slice none 0 0,.slice none 0 0] 42));have hE1:Ext w W1:=by rw[<-hW1];exact((Ext.refl w).alloc _).alloc _
 have hs1:W1.heap.size=w.heap.size+2:=by rw[<-hW1];simp
 have hP:Qm W1 w.heap.size (.int .i64 t.kind) (.int .i64 t.size) (.int .i64 t.count) (.slice A na ca) (.slice B nb cb):=by rw[<-hW1];exact(Qm.new w _ _ _ _ _ _).ext ((Ext.refl _).alloc _)
 have hR:Qm W1 (w.heap.size+1) (.int .i64 0) (.int .i64 0) (.int .i64 0) (.slice none 0 0) (.slice none 0 0):=by
  rw[<-hW1];have:=Qm.new (w.alloc (.cells #[.int .i64 t.kind,.int .i64 t.size,.int .i64 t.count,.slice A na ca,.slice B nb cb] 42)) (.int .i64 0) (.int .i64 0) (.int .i64 0) (.slice none 0 0) (.slice none 0 0) 42
  rwa [show(w.alloc (.cells #[.int .i64 t.kind,.int .i64 t.size,.int .i64 t.count,.slice A na ca,.slice B nb cb] 42)).heap.size=w.heap.size+1 by simp]at this
 obtain⟨W2,hW2⟩:=Qg (W1.alloc (.cells #[.int .i64 t.kind,.int .i64 t.size,.int .i64 t.count,.slice A na ca,.slice B nb cb] 42));have hE2:Ext W1 W2:=by rw[<-hW2];exact(Ext.refl _).alloc _
 obtain⟨W3,hW3,hB3,hH3,hS3,hX3⟩:=QK (hR.ext hE2) (.int .i64 3) (.int .i64 0) (.int .i64 0) (.slice (some ⟨W1.heap.size,0,none⟩) 1 1) (.slice none 0 0);have HX3:=hid (hX3 w (hE1.trans hE2) (by omega))
 have hel:Sl (tyR (d+1)) W3 (fun b=>S b\/w.heap.size<=b) (.slice (some ⟨W1.heap.size,0,none⟩) 1 1) [t]:=by
  refine JG (Or.inr (by omega)) (xs:=[.int .i64 t.kind,.int .i64 t.size,.int .i64 t.count,.slice A na ca,.slice B nb cb]) (QD.single (Xb.2 ⟨_,(hv0.ext HX3.o).mono (fun b hb _=>Or.inl hb),rfl⟩)) (fun j u hu=>?_) (by simp) (by simp[maxLen])
  have h1:W2.cell? ⟨W1.heap.size,0+j,none⟩=some u:=by
   have:=JF W1 [.int .i64 t.kind,.int .i64 t.size,.int .i64 t.count,.slice A na ca,.slice B nb cb] 42 j u hu;have e:(⟨W1.heap.size,0,none⟩:Addr).add j=⟨W1.heap.size,0+j,none⟩:=by unfold Addr.add;split <;> simp_all
   rw[e]at this;rw[<-hW2];exact this
  exact(World.cell?_of_block (hH3 W1.heap.size (by omega))).trans h1
 have HEL:=hid hel;have HW3:=hid hW3;obtain⟨t0,t1,t2,t3,t4, -⟩:=hB3;obtain⟨r0,r1,r2,r3,r4,rf⟩:=hR.ext hE2;have u0:=rf 0;have u1:=rf 1;have u2:=rf 2;have u3:=rf 3;have u4:=rf 4;obtain⟨p0,p1,p2,p3,p4, -⟩:=hP;clear hv0 hE1 hs1 hR hE2 hW3 hH3 hS3 hX3 hel rf;go_enter Tryz.func23,Tryz.ntmps23
 go_wp2
 rw[HW3.o];clear r0 r1 r2 r3 r4 hW1 hW2;refine bodyPost_ret (v:= .agg #[.int .i64 3,.int .i64 0,.int .i64 0,.slice (some ⟨W1.heap.size,0,none⟩) 1 1,.slice none 0 0]) (by simp[results,Tryz.results23,go_sem,t0,t1,t2,t3,t4]) rfl ?_;exact⟨_,_,rfl,rfl,⟨some ⟨W1.heap.size,0,none⟩,1,1,none,0,0,rfl,HEL.o,Sl.nil,by show Qy 3;unfold Qy;omega,by show Qy 0;unfold Qy;omega,by show Qy 0;unfold Qy;omega⟩,HX3.o⟩
theorem cJ {o:Int}{t:Ty}:∀(F:List (Int×Ty)),(XY o t F).length=F.length+1
 |[]=>rfl
 |(p,u) :: F=>by
  unfold XY
  split
  ·simp
  ·simp[cJ F]
theorem Dp {t:Ty}{z:Int}(h:gm 256 t z)(hg:Q0 t 64=true):z > 256↔256<QV t:=by
 obtain⟨h1,h2,h3,h4⟩:=h 64 (by omega) hg;constructor
 ·intro h;omega
 ·intro h;by_cases hz:z<=256
  ·have:=h4 (by omega);omega
  ·omega
theorem sg {M:Nat}(hP:xc M):xc (M+1):=by
 intro d w S A m me B N f l n C hs x hx hmx;have HPO:=hid hP;clear hP
 replace hs:PrS d w (fun b=>S b/\b<w.heap.size) A m me B N f l n C:=⟨hs.sl.mono fun b hb hi=>⟨hb,hi.lt⟩,hs.cl,hs.ok,hs.cls,hs.lt,hs.len,hs.n20,hs.m20⟩
 obtain⟨W0,hW0⟩:=Qg (w.alloc (.cells #[.slice A m me,.int .i64 n,.slice B N f] 79));have hE0:Ext w W0:=by rw[<-hW0];exact(Ext.refl w).alloc _
 have b0:W0.cell? ⟨w.heap.size,0,none⟩=some (.slice A m me):=by rw[<-hW0];simp[go_sem]
 have b1:W0.cell? ⟨w.heap.size,1,none⟩=some (.int .i64 n):=by rw[<-hW0];simp[go_sem]
 have b2:W0.cell? ⟨w.heap.size,2,none⟩=some (.slice B N f):=by rw[<-hW0];simp[go_sem]
 have HE0:=hid hE0;have HS:=hid (hs.ext hE0);have HB0:=hid b0;have HB1:=hid b1;have HB2:=hid b2;have HM:=hid hs.sl.len;have HNM:=hid hs.num;obtain⟨hm1,hm2⟩:=hs.sl.cap;obtain⟨hf1,hf2⟩:=hs.cl.cap;have hN20:=hs.n20;have hM20:=hs.m20;clear hE0 hs;have HRB0:=hid (Qm.new W0 (.int .i64 0) (.int .i64 0) (.int .i64 0) (.slice none 0 0) (.slice none 0 0) 42);obtain⟨W1,hW1⟩:=Qg (W0.alloc (.cells #[.int .i64 0,.int .i64 0,.int .i64 0,.slice none 0 0,.slice none 0 0] 42));rw[hW1]at HRB0;have HE1:=hid (show Ext W0 W1 by rw[<-hW1];exact(Ext.refl _).alloc _);have HSZ0:=hid (show W0.heap.size=w.heap.size+1 by rw[<-hW0];simp);have HSZ1:=hid (show W1.heap.size=W0.heap.size+1 by rw[<-hW1];simp);have HS1:=hid (HS.o.ext HE1.o);have HSPO:=hid (sX HS1.o x hx);obtain⟨X,hXX⟩:=Qg (Zz l n x);have HXX:=hid hXX;obtain⟨px,hpx⟩:=Qg (QW C x);have HPX:=hid hpx;rw[hXX,hpx]at HSPO;rw[hXX]at hmx;rw[hXX,hpx];have HMX:=hid hmx;clear hXX hpx hmx;have b0:=HE1.o.cell HB0.o;have b1:=HE1.o.cell HB1.o;have b2:=HE1.o.cell HB2.o;go_enter Tryz.func36,Tryz.ntmps36
 go_wp2_with fail
 clear hW0 hW1 b0 b1 b2;refine HSPO.o.mono ?_;rintro e5 w5 ⟨b5,rfl,hb5,hx5⟩;have HX00:=hid hx5;have HB5:=hid hb5;clear hx5 hb5
 cases b5 with
 |true=>
  have HXZ:=HX00;have hle0:w.heap.size<=W0.heap.size:=HE0.o.size;obtain⟨r0,r1,r2,r3,r4,rf⟩:=(HRB0.o.ext HXZ.o);have u0:=rf 0;have u1:=rf 1;have u2:=rf 2;have u3:=rf 3;have u4:=rf 4;obtain⟨W9,hW9,hB9,hH9,hS9,hX9⟩:=QK ((HRB0.o.ext HXZ.o)) (.int .i64 6) (.int .i64 0) (.int .i64 0) (.slice none 0 0) (.slice none 0 0);obtain⟨t0,t1,t2,t3,t4, -⟩:=hB9;have HW9:=hid hW9;have HX9:=hid (hX9 w (HE0.o.trans (HE1.o.trans HXZ.o)) (by omega));have HH9:=hid hH9;have HZ9:=hid hS9;clear hW9 hH9 hS9 hX9 rf
  go_wp2
  rw[HW9.o];clear r0 r1 r2 r3 r4;refine bodyPost_ret (v:= .agg #[(.int .i64 6),(.int .i64 0),(.int .i64 0),(.slice none 0 0),(.slice none 0 0)]) (by simp[results,Tryz.results36,go_sem,t0,t1,t2,t3,t4]) rfl ?_;exact⟨0,_,Ty.any,rfl,.inl ⟨HB5.o.1 (by simp),rfl⟩,Vk,HX9.o⟩
 | false=>
  have HNS:=hid (show ¬X1 l X from fun h=>absurd (HB5.o.2 h) (by simp));clear HB5
  go_wp2
  go_loopw [5,6] (fun s5 s6 wr=>∃(k:Nat) (FA:Option Addr) (fn fc D:Nat) (F:List (Int×Ty)),k<=m/\fn<=k/\s5= .slice FA fn fc/\s6= .int .i64 k/\Hid (Sl (fdR (tyR D)) wr (fun b=>(S b/\b<w.heap.size)\/W1.heap.size<=b) (.slice FA fn fc) F)/\Hid (X7 l X M F k)/\Hid (Ext W1 wr)) (fun _ s6 _=>m - (intOf s6).toNat)
  case atStart=>exact⟨0,none,0,0,0,[],by omega,by omega,rfl,rfl,hid Sl.nil,hid X7.start,HX00⟩
  case round=>
   obtain⟨k,FA,fn,fc,D,F,hk,hfk,rfl,rfl,HF,HFR,HX⟩:=hrel;clear HX00;have b0:=(HE1.o.trans HX.o).cell HB0.o;have b1:=(HE1.o.trans HX.o).cell HB1.o;have b2:=(HE1.o.trans HX.o).cell HB2.o;by_cases h1:k<m
   ·skip;obtain⟨cu,du,bA,oA,P1u,n1u,c1u,P2u,n2u,c2u,hc,hok,hd,rfl,hcv,hbx⟩:=(HS1.o.ext HX.o).con h1;obtain⟨x0u,x1u,x2u,x3u,x4u,x5u,x6u,x7u,x8u,x9u⟩:=hbx;have HCVu:=hid hcv;have HCu:=hid hc;have HOKu:=hid hok;have HDu:=hid hd;obtain⟨kdu,cau,cbu,ou,wdu,ctu⟩:=cu;obtain⟨au,rfl⟩:∃a:Nat,cau=(a:Int):=⟨cau.toNat,(Qk hok.a0).symm⟩;have hau:au<n:=by have:=hok.a1;simp only at this;omega
    simp only at x0u x1u x2u x3u x4u x5u x6u x7u x8u x9u;clear hc hok hd hcv;obtain⟨bB,oB,rfl,y0⟩:=(HS1.o.ext HX.o).lab (x:=au) (by omega);have HVE:=hid (HS.o.cls au x (by have:=HM.o;omega) (by have:=HM.o;omega));rw[Z5 hau,HXX.o,HPX.o]at HVE;have HA:=hid (fun(w':World) (hw:Ext wr w')=>qj _ w' _ _ (HCVu.o.all.ext hw));obtain⟨q,hq⟩:=Qg (QW C au);rw[hq]at y0 HVE;obtain⟨y,hy⟩:=Qg (QY ⟨kdu,(au:Int),cbu,ou,wdu,ctu⟩);simp only at HA;rw[hy]at HA;have i1:(0:Int)<=(au:Int):=by omega
    have i2:(au:Int)<(N:Int):=by have:=HNM.o;omega
    have i3:(0:Int)<=(k:Int):=by omega
    have i4:(k:Int)<(m:Int):=by omega
    have HY:=hid hy;clear hq hy;have HEL:=hid (Ext.two (Ext.hc3 b0 b1 b2) (Ext.two (Ext.hc10 x0u x1u x2u x3u x4u x5u x6u x7u x8u x9u) (Ext.hc1 y0)));clear x0u x1u x2u x3u x4u x5u x6u x7u x8u x9u y0 b0 b1 b2;have b0:=(HE1.o.trans HX.o).cell HB0.o;have b1:=(HE1.o.trans HX.o).cell HB1.o;have b2:=(HE1.o.trans HX.o).cell HB2.o
    go_wp2_with fail
    clear b0 b1 b2
    cases y with
    | false=>
     refine rgH HEL.o (Ext.refl wr).drew (fun hSg1q0=>?_);refine QB 0 1 2 3 ?_;refine rgT 4 ?_;refine rgC 5 (fun K hK=>?_);go_simp;go_at_call 59;refine(HA.o _ (Ext.refl wr).drew).mono ?_;rintro e5 w5 ⟨rfl,hx5⟩;have HX5:=hid hx5.drew_left;clear hx5;refine rgK hK (HEL.o _ HX5.o) (fun hSg1q1=>?_);clear hK K;refine rgT 6 ?_;refine Qc 7 8 9 10 ?_;refine Qc 11 12 13 14 ?_;refine Qc 15 16 17 18 ?_;refine rgT 19 ?_;refine wpAnyH_done (by kernel_rfl) ?_ _
     go_wp2
     first
      |go_roundw
      |refine⟨?rel, ?measure⟩
     case rel=>exact⟨k+1,FA,fn,fc,D,F,by omega,by omega,rfl,by go_num,hid (HF.o.ext HX5.o),hid (HFR.o.skip HCu.o (fun h=>by rw[HY.o]at h;cases h.1)),hid (HX.o.trans HX5.o)⟩
     case measure=>simp [intOf];omega
    | true=>
     by_cases h2:q=px
     ·have g2:((q:Int) == (px:Int))=true:=by simp[h2]
      have HVX:=hid (HVE.o.1 h2);clear h2;refine rgH HEL.o (Ext.refl wr).drew (fun hSg2q0=>?_);refine QB 0 1 2 3 ?_;refine rgT 4 ?_;refine rgC 5 (fun K hK=>?_);go_simp;go_at_call 59;refine(HA.o _ (Ext.refl wr).drew).mono ?_;rintro e5 w5 ⟨rfl,hx5⟩;have HX5:=hid hx5.drew_left;clear hx5;refine rgK hK (HEL.o _ HX5.o) (fun hSg2q1=>?_);clear hK K;refine Qp 6 7 8 9 10 11 ?_;refine Qp 12 13 14 15 16 17 ?_;refine QJ 18 19 ?_;refine wpAnyH_done (by kernel_rfl) ?_ _;obtain⟨⟨b0,b1,b2⟩, -⟩:=HEL.o _ HX5.o;have HIN:=hid (sw HPO.o (HS1.o.ext (HX.o.trans HX5.o)) (fun b=>(S b/\b<w.heap.size)\/W1.heap.size<=b) (fun b hb=>Or.inl hb) D FA fn fc F (HF.o.ext HX5.o) HFR.o.asc (by omega) k h1 _ HCu.o HY.o (fun hw hr=>by have:=vz HS.o.ok (Qx HCu.o) hw HVX.o hr;have:=HMX.o;omega))
      go_wp2_with fail
      clear b0 b1 b2;refine HIN.o.mono ?_;rintro e6 w6 ⟨D6,A6,n6,c6,F6,rfl,hsl6,hq6,hx6⟩;have hl6:=hsl6.len;have hlF:=HF.o.len
      have hn6:n6<=k+1:=by
       rcases hq6 with⟨rfl, -⟩|⟨-,t, -,rfl⟩
       ·omega
       ·rw[cJ]at hl6;omega
      have HFR6:Hid (X7 l X M F6 (k+1)):=hid (by
       rcases hq6 with⟨rfl,t,ht⟩|⟨hn,t,ht,rfl⟩
       ·exact HFR.o.old HCu.o ht
       ·exact HFR.o.add HCu.o HY.o HVX.o hn ht)
      have HF6:Hid (Sl (fdR (tyR D6)) w6 (fun b=>(S b/\b<w.heap.size)\/W1.heap.size<=b) (.slice A6 n6 c6) F6):=hid (hsl6.mono (fun b hb _=>hb.elim id (fun h=> .inr (Nat.le_trans (HX.o.trans HX5.o).size h))));have HX6:=hid (HX.o.trans (HX5.o.trans hx6));clear hsl6 hq6 hx6 hl6 hlF
      go_wp2
      first
       |go_roundw
       |refine⟨?rel, ?measure⟩
      case rel=>exact⟨k+1,A6,n6,c6,D6,F6,by omega,by omega,rfl,by go_num,HF6,HFR6,HX6⟩
      case measure=>simp [intOf];omega
     ·have g2:((q:Int) == (px:Int))=false:=by simp;omega
      have H2:=hid h2;clear h2;refine rgH HEL.o (Ext.refl wr).drew (fun hSg3q0=>?_);refine QB 0 1 2 3 ?_;refine rgT 4 ?_;refine rgC 5 (fun K hK=>?_);go_simp;go_at_call 59;refine(HA.o _ (Ext.refl wr).drew).mono ?_;rintro e5 w5 ⟨rfl,hx5⟩;have HX5:=hid hx5.drew_left;clear hx5;refine rgK hK (HEL.o _ HX5.o) (fun hSg3q1=>?_);clear hK K;refine Qp 6 7 8 9 10 11 ?_;refine Qp 12 13 14 15 16 17 ?_;refine QJ 18 19 ?_;refine wpAnyH_done (by kernel_rfl) ?_ _
      go_wp2
      first
       |go_roundw
       |refine⟨?rel, ?measure⟩
      case rel=>exact⟨k+1,FA,fn,fc,D,F,by omega,by omega,rfl,by go_num,hid (HF.o.ext HX5.o),hid (HFR.o.skip HCu.o (fun h=>H2.o (HVE.o.2 h.2))),hid (HX.o.trans HX5.o)⟩
      case measure=>simp [intOf];omega
   ·obtain rfl:k=m:=by omega
    have j1:¬(k:Int)<(k:Int):=by omega
    have HFD:=hid (show Fields l (Q8 l M) X F from(by have:=HFR.o;rw[HM.o]at this;exact this.end HNS.o));have HTS:Hid (TyV D wr (fun b=>(S b/\b<w.heap.size)\/W1.heap.size<=b) (.agg #[.int .i64 5,.int .i64 0,.int .i64 0,.slice none 0 0,.slice FA fn fc]) (Ty.str F)):=hid ⟨none,0,0,FA,fn,fc,rfl,Sl.nil,HF.o,by show Qy 5;unfold Qy;omega,by show Qy 0;unfold Qy;omega,by show Qy 0;unfold Qy;omega⟩;have HPT:=hid (aY D wr _ _ _ HTS.o);obtain⟨t,ht⟩:=Qg (Ty.ptr (Ty.str F));rw[ht]at HPT;have HTE:=hid ht;clear ht
    go_wp2_with fail
    clear b0 b1 b2;refine HPT.o.mono ?_;rintro e7 w7 ⟨v7,t',rfl,rfl,hv7,hx7⟩;have HV7:Hid (TyV (D+1) w7 (fun b=>(S b/\b<w.heap.size)\/W1.heap.size<=b) v7 t'):=hid (hv7.mono (fun b hb _=>hb.elim id (fun h=> .inr (Nat.le_trans HX.o.size h))));obtain⟨A7,n7,c7,B7,m7,e7,rfl, -⟩:=hv7;have HX7:=hid (HX.o.trans hx7);clear hx7;obtain⟨W1t,hW1t⟩:=Qg ((w7).alloc (.cells #[.int .i64 0,.int .i64 0,.int .i64 0,.slice none 0 0,.slice none 0 0] 42));have hB1:Qm W1t (w7).heap.size (.int .i64 0) (.int .i64 0) (.int .i64 0) (.slice none 0 0) (.slice none 0 0):=by rw[<-hW1t];exact Qm.new w7 _ _ _ _ _ _
    have hE1:Ext (w7) W1t:=by rw[<-hW1t];exact(Ext.refl _).alloc _
    obtain⟨W2t,hW2,hB2,hH2,hS2,hX2⟩:=QK hB1 (.int .i64 (t').kind) (.int .i64 (t').size) (.int .i64 (t').count) (.slice A7 n7 c7) (.slice B7 m7 e7);have HXBt:=hid (hX2 (w7) hE1 (Nat.le_refl _));have HWBt:=hid hW2;have HBBt:=hid hB2;obtain⟨z0,z1,z2,z3,z4,zf⟩:=hB1;have y0:=zf 0;have y1:=zf 1;have y2:=zf 2;have y3:=zf 3;have y4:=zf 4;clear hW2 hB2 hH2 hS2 hX2 hE1 zf;go_upto_region 10 with fail
    rw[HWBt.o];clear z0 z1 z2 z3 z4 y0 y1 y2 y3 y4 hW1t;obtain⟨s0t,s1t,s2t,s3t,s4t, -⟩:=HBBt.o;have HXV:=hid (HX7.o.trans HXBt.o);have HVV:=hid (HV7.o.ext HXBt.o);have HCH:=hid (zk (D+1) W2t t' _ HVV.o.all)
    go_wp2_with fail
    refine HCH.o.mono ?_;rintro e8 w8 ⟨rfl,hx8⟩;have s0t:=hx8.cell s0t;have s1t:=hx8.cell s1t;have s2t:=hx8.cell s2t;have s3t:=hx8.cell s3t;have s4t:=hx8.cell s4t;have HXW:=hid (HXV.o.trans hx8);have HVW:=hid (HVV.o.ext hx8);clear hx8;obtain⟨ck,hck⟩:=Qg (Zm t');rw[hck];have HCK:=hid hck;clear hck;by_cases h3:ck=0
    ·have g3:((ck:Int) != 0)=false:=by simp[h3]
     have HSH:=hid (pq.1 (HCK.o.trans h3)).1;have HC0:=hid (HCK.o.trans h3);clear h3;have HCN:=hid (uD 256 (by omega) (D+1) w8 t' _ HVW.o.all)
     go_wp2_with fail
     refine HCN.o.mono ?_;rintro e9 w9 ⟨z,rfl,hx9,hz⟩;have HGT:=hid (Dp hz HSH.o);have s0t:=hx9.cell s0t;have s1t:=hx9.cell s1t;have s2t:=hx9.cell s2t;have s3t:=hx9.cell s3t;have s4t:=hx9.cell s4t;have HXZ:=hid (HXW.o.trans hx9);have HVZ:=hid (HVW.o.ext hx9);clear hx9 hz;by_cases h4:z > 256
     ·have HG:=hid (HGT.o.1 h4);clear s0t s1t s2t s3t s4t;have hle0:w.heap.size<=W0.heap.size:=HE0.o.size;obtain⟨r0,r1,r2,r3,r4,rf⟩:=(HRB0.o.ext HXZ.o);have u0:=rf 0;have u1:=rf 1;have u2:=rf 2;have u3:=rf 3;have u4:=rf 4;obtain⟨W9,hW9,hB9,hH9,hS9,hX9⟩:=QK ((HRB0.o.ext HXZ.o)) (.int .i64 6) (.int .i64 0) (.int .i64 0) (.slice none 0 0) (.slice none 0 0);obtain⟨t0,t1,t2,t3,t4, -⟩:=hB9;have HW9:=hid hW9;have HX9:=hid (hX9 w (HE0.o.trans (HE1.o.trans HXZ.o)) (by omega));have HH9:=hid hH9;have HZ9:=hid hS9;clear hW9 hH9 hS9 hX9 rf
      go_wp2
      rw[HW9.o];clear r0 r1 r2 r3 r4;refine bodyPost_ret (v:= .agg #[(.int .i64 6),(.int .i64 0),(.int .i64 0),(.slice none 0 0),(.slice none 0 0)]) (by simp[results,Tryz.results36,go_sem,t0,t1,t2,t3,t4]) rfl ?_;exact⟨0,_,Ty.any,rfl,.inr ⟨HNS.o,F,HFD.o,by rw[HTE.o,if_pos (.inr HG.o)]⟩,Vk,HX9.o⟩
     ·have HG:=hid (show ¬256<QV t' from fun h=>h4 (HGT.o.2 h));have hle0:w.heap.size<=W0.heap.size:=HE0.o.size;obtain⟨r0,r1,r2,r3,r4,rf⟩:=(HRB0.o.ext HXZ.o);have u0:=rf 0;have u1:=rf 1;have u2:=rf 2;have u3:=rf 3;have u4:=rf 4;obtain⟨W9,hW9,hB9,hH9,hS9,hX9⟩:=QK ((HRB0.o.ext HXZ.o)) (.int .i64 t'.kind) (.int .i64 t'.size) (.int .i64 t'.count) (.slice A7 n7 c7) (.slice B7 m7 e7);obtain⟨t0,t1,t2,t3,t4, -⟩:=hB9;have HW9:=hid hW9;have HX9:=hid (hX9 w (HE0.o.trans (HE1.o.trans HXZ.o)) (by omega));have HH9:=hid hH9;have HZ9:=hid hS9;clear hW9 hH9 hS9 hX9 rf
      go_wp2
      rw[HW9.o];clear r0 r1 r2 r3 r4;refine bodyPost_ret (v:= .agg #[(.int .i64 t'.kind),(.int .i64 t'.size),(.int .i64 t'.count),(.slice A7 n7 c7),(.slice B7 m7 e7)]) (by simp[results,Tryz.results36,go_sem,t0,t1,t2,t3,t4]) rfl ?_;have hty:=(HVZ.o.keep (w':=W9) (fun b hb _=>HH9.o b (by have:=HSZ1.o;have:=HSZ0.o;rcases hb with hb|hb <;> omega))).mono (S':=fun b=>S b\/w.heap.size<=b) (fun b hb _=>hb.elim (fun h=> .inl h.1) (fun h=> .inr (by have:=HSZ1.o;have:=HSZ0.o;omega)));exact⟨_,_,t',rfl,.inr ⟨HNS.o,F,HFD.o,by rw[HTE.o,if_neg (fun h=>h.elim (fun h=>h HC0.o) HG.o)]⟩,hty,HX9.o⟩
    ·have g3:((ck:Int) != 0)=true:=by simp;omega
     have HCN:=hid (show Zm t'≠0 by rw[HCK.o];exact h3);have HXZ:=HXW;clear h3 s0t s1t s2t s3t s4t;have hle0:w.heap.size<=W0.heap.size:=HE0.o.size;obtain⟨r0,r1,r2,r3,r4,rf⟩:=(HRB0.o.ext HXZ.o);have u0:=rf 0;have u1:=rf 1;have u2:=rf 2;have u3:=rf 3;have u4:=rf 4;obtain⟨W9,hW9,hB9,hH9,hS9,hX9⟩:=QK ((HRB0.o.ext HXZ.o)) (.int .i64 6) (.int .i64 0) (.int .i64 0) (.slice none 0 0) (.slice none 0 0);obtain⟨t0,t1,t2,t3,t4, -⟩:=hB9;have HW9:=hid hW9;have HX9:=hid (hX9 w (HE0.o.trans (HE1.o.trans HXZ.o)) (by omega));have HH9:=hid hH9;have HZ9:=hid hS9;clear hW9 hH9 hS9 hX9 rf
     go_wp2
     rw[HW9.o];clear r0 r1 r2 r3 r4;refine bodyPost_ret (v:= .agg #[(.int .i64 6),(.int .i64 0),(.int .i64 0),(.slice none 0 0),(.slice none 0 0)]) (by simp[results,Tryz.results36,go_sem,t0,t1,t2,t3,t4]) rfl ?_;exact⟨0,_,Ty.any,rfl,.inr ⟨HNS.o,F,HFD.o,by rw[HTE.o,if_pos (.inl HCN.o)]⟩,Vk,HX9.o⟩
theorem gW:∀M,xc M
 |0=>fun d w S A m me B N f l n C hs x hx h=>absurd h (Nat.not_lt_zero _)
 |M+1=>sg (gW M)
end
end Go.Proofs.YtlmipgdnlfjpaaaGreat
