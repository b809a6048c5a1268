/- Lemmas of mine, merged. -/
import Derived.Test.YtlmipgdnlfjpaaaGreatRwam
set_option maxRecDepth 100000
set_option maxHeartbeats 32000000
set_option linter.unusedSimpArgs false
set_option linter.unusedVariables false
namespace Go.Proofs.YtlmipgdnlfjpaaaGreat
open Go.RowKit Go.Deco
section
variable {d:Nat}{w:World}{S:Nat->Prop}{A B:Option Addr}{m me N f n:Nat}{l:List Con}{C:List Nat}
theorem tm (hs:PrS d w S A m me B N f l n C) (x y:Nat) (hx:x<n+m) (hy:y<n+m):Calls Tryz.prog 108 #[.agg #[.slice A m me,.int .i64 n,.slice B N f],.int .i64 (QW C x),.int .i64 (QW C y)] w (ZK w (Z3 l (Zz l n x) (Zz l n y))):=by
 have hpx:=hs.labLt hx;obtain⟨W0,hW0⟩:=Qg (w.alloc (.cells #[.slice A m me,.int .i64 n,.slice B N f] 79));have hE0:Ext w W0:=by rw[<-hW0];exact(Ext.refl w).alloc _
 have b0:W0.cell? ⟨w.heap.size,0,none⟩=some (.slice A m me):=by rw[<-hW0];simp[go_sem]
 have b1:W0.cell? ⟨w.heap.size,1,none⟩=some (.int .i64 n):=by rw[<-hW0];simp[go_sem]
 have b2:W0.cell? ⟨w.heap.size,2,none⟩=some (.slice B N f):=by rw[<-hW0];simp[go_sem]
 have HE0:=hid hE0;have HS:=hid (hs.ext hE0);have HB0:=hid b0;have HB1:=hid b1;have HB2:=hid b2;have HM:=hid hs.sl.len;have HNM:=hid hs.num;obtain⟨hm1,hm2⟩:=hs.sl.cap;obtain⟨hf1,hf2⟩:=hs.cl.cap;have hN20:=hs.n20;have hM20:=hs.m20;clear hE0 hs;obtain⟨r,hr⟩:=Qg (QW C);have HR:=hid hr;have HCL:=hid HS.o.cls;rw[hr]at HCL hpx ⊢;have HL0:=hid (show XQ l n r x y [r x] 0 from XQ.start (by have:=HM.o;omega));obtain⟨px,hx0⟩:=Qg (r x);obtain⟨py,hy0⟩:=Qg (r y);rw[hx0]at HL0 hpx ⊢;rw[hy0];have HPY:=hid hy0;have HXY:=hid (show x<n+l.length/\y<n+l.length from by have:=HM.o;omega);have hO0:=yK W0 px W0.heap.size (by omega) (Nat.le_refl _);have HX00:=hid ((Ext.refl W0).alloc (.cells #[.int .i64 px] 3));have HO0:=hid hO0;have hsz:W0.heap.size=w.heap.size+1:=by rw[<-hW0];simp
 have HSZ:=hid hsz;clear hr hx0 hy0 hO0;go_enter Tryz.func108,Tryz.ntmps108
 go_wp2
 rw[<-hsz];clear hW0 b0 b1 b2 hsz
 go_loopw [7,8] (fun s7 s8 wr=>∃(i:Nat) (T:List Nat) (Aa:Option Addr) (ca:Nat),i<=T.length/\s7= .slice Aa T.length ca/\s8= .int .i64 i/\Hid (XQ l n r x y T i)/\Hid (Qf QF wr W0.heap.size 3 No (.slice Aa T.length ca) T)/\Hid (Ext W0 wr)) (fun _ s8 _=>40 - (intOf s8).toNat)
 case atStart=>exact⟨0,[px],_,1,by simp,rfl,rfl,HL0,HO0,HX00⟩
 case round =>
  obtain⟨i,T,Aa,ca,hi,rfl,rfl,HL,HO,HX⟩:=hrel;clear HL0 HO0 HX00;have hTl:=HL.o.len;by_cases h1:i<T.length
  ·obtain ⟨q,hq⟩:∃q,T[i]? =some q:=⟨_,Qq h1⟩;obtain⟨g,rfl,hg1,hg2⟩:=HO.o.at0 (by omega);have HQ:=hid hq;have i1:(i:Int)<(T.length:Int):=by omega
   have hi40:i<40:=by have:=HM.o;omega
   clear hg1 hg2 hq
   go_wp2_with fail
   go_loopw [7,9] (fun s7 s9 wr=>∃(k:Nat) (T:List Nat) (g ca:Nat),k<=m/\s7= .slice (some ⟨g,0,none⟩) T.length ca/\s9= .int .i64 k/\Hid (XQ l n r x y T i)/\Hid (T[i]? =some q)/\Hid (Qf QF wr W0.heap.size 3 No (.slice (some ⟨g,0,none⟩) T.length ca) T)/\Hid (Ext W0 wr)/\Hid (∀(j:Nat) c,j<k->l[j]? =some c->QQ c=true->r c.a.toNat=q->r c.b.toNat∈T/\r c.b.toNat≠r y)) (fun _ s9 _=>m - (intOf s9).toNat)
   case atStart=>exact⟨0,T,g,ca,by omega,rfl,rfl,HL,HQ,HO,HX,hid (fun j c h=>absurd h (Nat.not_lt_zero _))⟩
   case round=>
    clear HL HQ HO HX hTl h1 i1;obtain⟨k,T,g,ca,hk,rfl,rfl,HL,HQ,HO,HX,HDN⟩:=hrel;have b0:=HX.o.cell HB0.o;have b1:=HX.o.cell HB1.o;have b2:=HX.o.cell HB2.o;obtain⟨nT,hnT⟩:=Qg (T.length);have HTL:=hid hnT;have hTl:=HL.o.len;have hiT:=(Qz HQ.o).1;have hcp:=HO.o.sl.cap.1;rw[hnT]at hTl hiT hcp ⊢;clear hnT;by_cases h1:k<m
    ·skip;obtain⟨cu,du,bA,oA,P1u,n1u,c1u,P2u,n2u,c2u,hc,hok,hd,rfl,hcv,hbx⟩:=(HS.o.ext HX.o).con h1;obtain⟨x0u,x1u,x2u,x3u,x4u,x5u,x6u,x7u,x8u,x9u⟩:=hbx;have HCVu:=hid hcv;have HCu:=hid hc;have HOKu:=hid hok;have HDu:=hid hd;obtain⟨kdu,cau,cbu,ou,wdu,ctu⟩:=cu;obtain⟨au,rfl⟩:∃a:Nat,cau=(a:Int):=⟨cau.toNat,(Qk hok.a0).symm⟩;have hau:au<n:=by have:=hok.a1;simp only at this;omega
     simp only at x0u x1u x2u x3u x4u x5u x6u x7u x8u x9u;clear hc hok hd hcv;obtain⟨bB,oB,rfl,y0⟩:=(HS.o.ext HX.o).lab (x:=au) (by omega);have HA:=hid (fun(w':World) (hw:Ext wr w')=>Yp _ w' _ _ (HCVu.o.all.ext hw));have HLN:=hid (fun(w':World) (hw:Ext wr w')=>(HS.o.ext (HX.o.trans hw)).lab (x:=n+k) (by omega));have hlk:=HS.o.labLt (x:=n+k) (by omega);have HCN:=hid (fun hw=>wX HCL.o HOKu.o HCu.o hw);have HEK:=hid (XQ.add HCL.o HS.o.ok HXY.o.1 HL.o HQ.o (Qx HCu.o));have HHI:=hid (XQ.hit HCL.o HS.o.ok HXY.o.1 HXY.o.2 HL.o HQ.o (Qx HCu.o));simp only[Int.toNat_natCast]at HCN HEK HHI;rw[HR.o]at y0 HLN hlk;obtain⟨pa,hpa⟩:=Qg (r au);rw[hpa]at y0;rw[hpa]at HEK HHI;obtain⟨pb,hpb⟩:=Qg (r (n+k));rw[hpb]at HLN HCN hlk;obtain⟨z,hz⟩:=Qg (QQ ⟨kdu,(au:Int),cbu,ou,wdu,ctu⟩);simp only at HA;rw[hz]at HA;have HZ:=hid hz;have HPA:=hid hpa;have i1:(0:Int)<=(au:Int):=by omega
     have i2:(au:Int)<(N:Int):=by have:=HNM.o;omega
     have i3:(0:Int)<=(k:Int):=by omega
     have i4:(k:Int)<(m:Int):=by omega
     have i5:(0:Int)<=(i:Int):=by omega
     have i6:(i:Int)<(nT:Int):=by omega
     have i7:IntKind.i64.wrap ((n:Int)+(k:Int))=((n+k:Nat):Int):=by rw[IntWalk.i64_in _ (by omega)];omega
     have i8:(0:Int)<=((n+k:Nat):Int):=by omega
     have i9:((n+k:Nat):Int)<(N:Int):=by have:=HNM.o;omega
     have t0:=(HO.o.num_cell HQ.o).1;have HEL:=hid (Ext.two (Ext.hc3 b0 b1 b2) (Ext.two (Ext.hc10 x0u x1u x2u x3u x4u x5u x6u x7u x8u x9u) (Ext.hc2 y0 t0)));clear hz hpa hpb x0u x1u x2u x3u x4u x5u x6u x7u x8u x9u y0 t0 b1 b2
     go_wp2_with fail
     clear b0
     cases z with
     | false=>
      refine rgH HEL.o (Ext.refl wr).drew (fun hSg1q0=>?_);refine QB 0 1 2 3 ?_;refine rgT 4 ?_;refine rgC 5 (fun K hK=>?_);go_simp;go_at_call 58;refine(HA.o _ (Ext.refl wr).drew).mono ?_;rintro e5 w5 ⟨rfl,hx5⟩;have HX5:=hid hx5.drew_left;clear hx5;refine rgK hK (HEL.o _ HX5.o) (fun hSg1q1=>?_);clear hK K;refine QJ 6 7 ?_;refine Qc 8 9 10 11 ?_;refine Qc 12 13 14 15 ?_;refine Qc 16 17 18 19 ?_;refine ZM 20 21 ?_;refine rgU 22 ?_;refine rgT 23 ?_;refine wpAnyH_done (by kernel_rfl) ?_ _
      go_wp2
      first
       |go_roundw
       |refine⟨?rel, ?measure⟩
      case rel=>
       refine⟨k+1,T,g,ca,by omega,by rw[HTL.o],by go_num,HL,HQ,hid (HO.o.ext HX5.o),hid (HX.o.trans HX5.o),hid (fun j c hj hc hw ha=>?_)⟩;by_cases hjk:j=k
       ·subst hjk;rw[HCu.o]at hc;cases hc;simp only[Int.toNat_natCast]at ha;rw[HZ.o]at hw;cases hw
       ·exact HDN.o j c (by omega) hc hw ha
      case measure=>simp [intOf];omega
     | true =>
      have HEK:=hid (HEK.o HZ.o);have HHI:=hid (HHI.o HZ.o);have HCN:=hid (HCN.o HZ.o);by_cases h2:pa=q
      ·have g2:((pa:Int) != (q:Int))=false:=by simp[h2]
       have H2:=hid h2;clear h2;refine rgH HEL.o (Ext.refl wr).drew (fun hSg2q0=>?_);refine QB 0 1 2 3 ?_;refine rgT 4 ?_;refine rgC 5 (fun K hK=>?_);go_simp;go_at_call 58;refine(HA.o _ (Ext.refl wr).drew).mono ?_;rintro e5 w5 ⟨rfl,hx5⟩;have HX5:=hid hx5.drew_left;clear hx5;refine rgK hK (HEL.o _ HX5.o) (fun hSg2q1=>?_);clear hK K;refine Qp 6 7 8 9 10 11 ?_;refine Qp 12 13 14 15 16 17 ?_;refine Qp 18 19 20 21 22 23 ?_;refine wpAnyH_done (by kernel_rfl) ?_ _;obtain⟨bB',oB',hh,y5⟩:=HLN.o _ HX5.o;injection hh with hh
       injection hh with h2 h3
       subst h2 h3;obtain⟨b1,b2⟩:=(HEL.o _ HX5.o).1.2;have b0:=(HEL.o _ HX5.o).1.1;by_cases h3:pb=py
       ·have g3:((pb:Int) == (py:Int))=true:=by simp[h3]
        have H3:=hid h3;clear h3
        go_wp2
        go_ret;refine ZK.of ⟨fun _=>HHI.o H2.o ?_,fun _=>rfl⟩ (HE0.o.trans (HX.o.trans HX5.o));rw[<-HCN.o,H3.o,HPY.o]
       ·have g3:((pb:Int) == (py:Int))=false:=by simp;omega
        have H3:=hid h3;have HH:=hid (pk w5 _ _ _ _ (HO.o.ext HX5.o).sl pb);rw[HTL.o]at HH;clear h3
        go_wp2_with fail
        refine HH.o.mono ?_;rintro e6 w6 ⟨rfl,hx6⟩;have HX6:=hid (HX5.o.trans hx6);clear hx6 y5 b0 b1 b2;by_cases h4:pb∈T
        ·have g4:decide (pb∈T)=true:=Qv h4;have H4:=hid h4;clear h4;rw[g4];clear g4;have HX5:=HX6
         go_wp2
         first
          |go_roundw
          |refine⟨?rel, ?measure⟩
         case rel=>
          refine⟨k+1,T,g,ca,by omega,by rw[HTL.o],by go_num,HL,HQ,hid (HO.o.ext HX5.o),hid (HX.o.trans HX5.o),hid (fun j c hj hc hw ha=>?_)⟩;by_cases hjk:j=k
          ·subst hjk;rw[HCu.o]at hc;cases hc;simp only[Int.toNat_natCast]at ha;exact⟨by rw[<-HCN.o];exact H4.o,by rw[<-HCN.o,HPY.o];exact H3.o⟩
          ·exact HDN.o j c (by omega) hc hw ha
         case measure=>simp [intOf];omega
        ·have g4:decide (pb∈T)=false:=Qw h4;have HEK:=hid (HEK.o H2.o (by rw[<-HCN.o];have:=HM.o;omega) (by rw[<-HCN.o];exact h4));rw[g4];clear g4 h4;have HO6:=hid (HO.o.ext HX6.o)
         go_wp2_with (first
          |(at_builtin;refine Yg rfl (.tmp 65) (.tmp 67) rfl W0.heap.size (.slice (some ⟨g,0,none⟩) T.length ca) T (by rw[HTL.o];rfl) (HO6.o.ext ((Ext.refl _).alloc _)) w6.heap.size pb rfl (by simp[go_sem]) (by omega) (by have:=HM.o;rw[HTL.o];omega) (by have:=(HO6.o.block g rfl).1;have:=(HO6.o.block g rfl).2;simp;omega) ?_;intro A9 c9' w9 ho9 hg9 hl9;have HO9:=hid ho9;have HG9:=hid hg9;clear ho9 hg9 hl9)
          |fail)
         have HX9:=hid ((((HX.o.trans HX6.o).alloc (.cells #[.int .i64 (pb:Int)] 3)).grown HG9.o (fun k hk=>(HO6.o.block k hk).1)));obtain⟨g9,rfl, -, -⟩:=HO9.o.at0 (by omega)
         first
          |go_roundw
          |refine⟨?rel, ?measure⟩
         case rel=>
          have e9:r cbu.toNat=pb:=HCN.o.symm;have hek:=HEK.o;rw[e9]at hek;refine⟨k+1,T ++ [pb],g9,c9',by omega,by simp,by go_num,hid hek,hid ?_,hid ?_,HX9,hid (fun j c hj hc hw ha=>?_)⟩
          ·rw[List.getElem?_append_left (by rw[HTL.o];omega)];exact HQ.o
          ·have:=HO9.o
           rwa [show T.length+1=(T ++ [pb]).length by simp]at this
          ·by_cases hjk:j=k
           ·subst hjk;rw[HCu.o]at hc;cases hc;simp only;rw[e9,HPY.o];exact⟨by simp,H3.o⟩
           ·have:=HDN.o j c (by omega) hc hw ha;exact⟨List.mem_append_left _ this.1,this.2⟩
         case measure=>simp [intOf];omega
      ·have g2:((pa:Int) != (q:Int))=true:=by simp;omega
       have H2:=hid h2;clear h2;refine rgH HEL.o (Ext.refl wr).drew (fun hSg3q0=>?_);refine QB 0 1 2 3 ?_;refine rgT 4 ?_;refine rgC 5 (fun K hK=>?_);go_simp;go_at_call 58;refine(HA.o _ (Ext.refl wr).drew).mono ?_;rintro e5 w5 ⟨rfl,hx5⟩;have HX5:=hid hx5.drew_left;clear hx5;refine rgK hK (HEL.o _ HX5.o) (fun hSg3q1=>?_);clear hK K;refine Qp 6 7 8 9 10 11 ?_;refine Qp 12 13 14 15 16 17 ?_;refine Qp 18 19 20 21 22 23 ?_;refine wpAnyH_done (by kernel_rfl) ?_ _
       go_wp2
       first
        |go_roundw
        |refine⟨?rel, ?measure⟩
       case rel=>
        refine⟨k+1,T,g,ca,by omega,by rw[HTL.o],by go_num,HL,HQ,hid (HO.o.ext HX5.o),hid (HX.o.trans HX5.o),hid (fun j c hj hc hw ha=>?_)⟩;by_cases hjk:j=k
        ·subst hjk;rw[HCu.o]at hc;cases hc;simp only[Int.toNat_natCast]at ha;rw[HPA.o]at ha;exact absurd ha H2.o
        ·exact HDN.o j c (by omega) hc hw ha
       case measure=>simp [intOf];omega
    ·obtain rfl:k=m:=by omega
     have i1:¬(k:Int)<(k:Int):=by omega
     go_wp2
     first
      |go_roundw
      |refine⟨?rel, ?measure⟩
     case rel=>
      refine⟨i+1,T,_,ca,by rw[HTL.o];omega,by rw[HTL.o],by go_num,hid (HL.o.next HQ.o (fun c hc hw ha=>?_)),HO,HX⟩;obtain⟨j,hj⟩:=List.getElem?_of_mem hc;exact HDN.o j c (by have:=(Qz hj).1;have:=HM.o;omega) hj hw ha
     case measure=>simp [intOf];omega
  ·obtain rfl:i=T.length:=by omega
   have i1:¬(T.length:Int)<(T.length:Int):=by omega
   go_wp2
   go_ret;exact ZK.of ⟨fun h=>(by cases h),fun h=>absurd h (HL.o.end HCL.o HS.o.ok HXY.o.1 HXY.o.2)⟩ (HE0.o.trans HX.o)
theorem mJ (hs:PrS d w S A m me B N f l n C)(k:Nat)(hk:k<m)(c:Con)(hc:l[k]? =some c)(hw:QQ c=true):Calls Tryz.prog 82 #[.agg #[.slice A m me,.int .i64 n,.slice B N f],.int .i64 k] w (ZK w (Rec l c)):=by
 have HWI:=hid hw;have HCC:=hid hc;clear hw hc;obtain⟨W0,hW0⟩:=Qg (w.alloc (.cells #[.slice A m me,.int .i64 n,.slice B N f] 79));have hE0:Ext w W0:=by rw[<-hW0];exact(Ext.refl w).alloc _
 have b0:W0.cell? ⟨w.heap.size,0,none⟩=some (.slice A m me):=by rw[<-hW0];simp[go_sem]
 have b1:W0.cell? ⟨w.heap.size,1,none⟩=some (.int .i64 n):=by rw[<-hW0];simp[go_sem]
 have b2:W0.cell? ⟨w.heap.size,2,none⟩=some (.slice B N f):=by rw[<-hW0];simp[go_sem]
 have HE0:=hid hE0;have HS:=hid (hs.ext hE0);have HB0:=hid b0;have HB1:=hid b1;have HB2:=hid b2;have HM:=hid hs.sl.len;have HNM:=hid hs.num;obtain⟨hm1,hm2⟩:=hs.sl.cap;obtain⟨hf1,hf2⟩:=hs.cl.cap;have hN20:=hs.n20;have hM20:=hs.m20;clear hE0 hs;obtain⟨cu,du,bA,oA,P1u,n1u,c1u,P2u,n2u,c2u,hc,hok,hd,rfl,hcv,hbx⟩:=(HS.o).con hk;obtain⟨x0u,x1u,x2u,x3u,x4u,x5u,x6u,x7u,x8u,x9u⟩:=hbx;have HCVu:=hid hcv;have HCu:=hid hc;have HOKu:=hid hok;have HDu:=hid hd;obtain⟨kdu,cau,cbu,ou,wdu,ctu⟩:=cu;obtain⟨au,rfl⟩:∃a:Nat,cau=(a:Int):=⟨cau.toNat,(Qk hok.a0).symm⟩;have hau:au<n:=by have:=hok.a1;simp only at this;omega
 simp only at x0u x1u x2u x3u x4u x5u x6u x7u x8u x9u;clear hc hok hd hcv;obtain rfl:c=⟨kdu,(au:Int),cbu,ou,wdu,ctu⟩:=by have:=HCC.o;rw[HCu.o]at this;cases this;rfl
 obtain⟨bB,oB,rfl,y0⟩:=HS.o.lab (x:=au) (by omega);obtain⟨nk,hnk⟩:=Qg (n+k);obtain⟨bB',oB',hh,yk⟩:=(HS.o).lab (x:=nk) (by omega);injection hh with hh
 injection hh with h2 h3
 subst h2 h3;have HNK:=hid hnk;have HVE:=hid (HS.o.cls nk au (by have:=HM.o;omega) (by have:=HM.o;omega));have HLD:=hid (fun(w':World) (hw:Ext W0 w')=>tm (HS.o.ext hw) nk au (by omega) (by omega));have hnv:Zz l n nk=cbu:=by rw[<-hnk];exact KG HCu.o HWI.o
 rw[hnv,Z5 hau]at HVE;simp only[hnv,Z5 hau]at HLD;clear hnv;obtain⟨pa,hpa⟩:=Qg (QW C au);obtain⟨pb,hpb⟩:=Qg (QW C nk);rw[hpa]at y0 HVE HLD;rw[hpb]at yk HVE HLD;have i1:(0:Int)<=(au:Int):=by omega
 have i2:(au:Int)<(N:Int):=by have:=HNM.o;omega
 have i3:(0:Int)<=(k:Int):=by omega
 have i4:(k:Int)<(m:Int):=by omega
 have i7:IntKind.i64.wrap ((n:Int)+(k:Int))=(nk:Int):=by rw[IntWalk.i64_in _ (by omega)];omega
 have i8:(0:Int)<=(nk:Int):=by omega
 have i9:(nk:Int)<(N:Int):=by have:=HNM.o;omega
 have HEL:=hid (Ext.two (Ext.hc3 b0 b1 b2) (Ext.two (Ext.hc10 x0u x1u x2u x3u x4u x5u x6u x7u x8u x9u) (Ext.hc2 y0 yk)));clear hpa hpb hnk;go_enter Tryz.func82,Tryz.ntmps82
 go_wp2_with fail
 clear hW0 x0u x1u x2u x3u x4u x5u x6u x7u x8u x9u y0 yk b0 b1 b2;refine rgH HEL.o (Ext.refl W0).drew (fun hSg4q0=>?_);refine Qp 0 1 2 3 4 5 ?_;refine Qp 6 7 8 9 10 11 ?_;refine Qp 12 13 14 15 16 17 ?_;refine QJ 18 19 ?_;refine wpAnyH_done (by kernel_rfl) ?_ _;obtain⟨⟨b0,b1,b2⟩, -⟩:=HEL.o _ (Ext.refl W0).drew;by_cases h3:pb=pa
 ·have g3:((pb:Int) == (pa:Int))=true:=by simp[h3]
  have H3:=hid h3;clear h3
  go_wp2
  go_ret;exact ZK.of ⟨fun _=> .inl (HVE.o.1 H3.o),fun _=>rfl⟩ HE0.o.drew
 ·have g3:((pb:Int) == (pa:Int))=false:=by simp;omega
  have H3:=hid h3;clear h3
  go_wp2_with fail
  refine(HLD.o _ (Ext.refl W0).drew).mono ?_;rintro e6 w6 ⟨b,rfl,hb,hx6⟩;have HX6:=hid (HE0.o.trans hx6.drew_left);have HB:=hid hb;clear hx6 hb b0 b1 b2
  go_wp2
  go_ret;exact ZK.of ⟨fun h=> .inr (HB.o.1 h),fun h=>h.elim (fun h=>absurd (HVE.o.2 h) H3.o) HB.o.2⟩ HX6.o
end
end Go.Proofs.YtlmipgdnlfjpaaaGreat
namespace Go.Deco
open Go Go.RowKit
theorem iJ {P:Ty->Prop}{t u:Ty}(h:ZG P t)(hP:∀s,P s->Zq s=true)(hu:Zq u=true):ZG (fun s=>P s\/s=u) (KZ t u):=by
 obtain⟨h1,h2,h3⟩:=h;rw[wG h1 hu];refine⟨KY h1 hu,fun s hs=>?_,fun v hv hx=>?_⟩
 ·rcases hs with hs|rfl
  ·exact VD (QP (hP s hs)) (QP h1) (QP (KY h1 hu)) (h2 s hs) (YQ (QP h1) (QP hu))
  ·exact qp (QP h1) (QP hu)
 ·exact qq (QP h1) (QP hu) (QP hv) (h3 v hv fun s hs=>hx s (.inl hs)) (hx u (.inr rfl))
def YM (l:List Con)(T:List Nat)(k:Nat)(s:Ty):Prop:=∃(j:Nat) (c:Con),j<k/\l[j]? =some c/\c.kind=1/\c.a.toNat∈T/\s=c.type
theorem ez {l:List Con}{T:List Nat}:ZG (YM l T 0) Ty.unk:=⟨xw,fun s ⟨j,c,h,_⟩=>absurd h (Nat.not_lt_zero _),fun u _ _=>Kb u⟩
theorem mW {l:List Con}{T:List Nat}{k:Nat}{t:Ty}{c:Con}(h:ZG (YM l T k) t)(hc:l[k]? =some c)(hn:¬(c.kind=1/\c.a.toNat∈T)):ZG (YM l T (k+1)) t:=h.congr fun s=>by
 constructor
 ·rintro⟨j,e,h1,h2⟩;exact⟨j,e,by omega,h2⟩
 ·rintro⟨j,e,h1,h2,h3,h4,h5⟩;by_cases hj:j=k
  ·subst hj;rw[hc]at h2;cases h2;exact absurd ⟨h3,h4⟩ hn
  ·exact⟨j,e,by omega,h2,h3,h4,h5⟩
theorem hX {l:List Con}{n:Int}{T:List Nat}{k:Nat}{t:Ty}{c:Con}(hok:∀c∈l,OkC n c)(h:ZG (YM l T k) t)(hc:l[k]? =some c)(h1:c.kind=1)(h2:c.a.toNat∈T):ZG (YM l T (k+1)) (KZ t c.type):=
 (iJ h (fun s ⟨j,e,_,he,hk,_,hs⟩=>by rw[hs];exact(hok e (Qx he)).t hk) ((hok c (Qx hc)).t h1)).congr fun s=>by
  constructor
  ·rintro(⟨j,e,k1,k2⟩|rfl)
   ·exact⟨j,e,by omega,k2⟩
   ·exact⟨k,c,by omega,hc,h1,h2,rfl⟩
  ·rintro⟨j,e,k1,k2,k3,k4,k5⟩;by_cases hj:j=k
   ·subst hj;rw[hc]at k2;cases k2;exact .inr k5
   ·exact .inl ⟨j,e,by omega,k2,k3,k4,k5⟩
theorem Gz {l:List Con}{n x:Nat}{T:List Nat}{t:Ty}(hT:∀y,y∈T↔ETo l n x y)(h:ZG (YM l T l.length) t):k8 l n x t:=ZG.congr h fun s=>by
 constructor
 ·rintro⟨j,c,h1,h2,h3,h4,h5⟩;exact⟨c,Qx h2,h3,(hT _).1 h4,h5⟩
 ·rintro⟨c,hc,h3,h4,h5⟩;obtain⟨j,hj⟩:=List.getElem?_of_mem hc;exact⟨j,c,(Qz hj).1,hj,h3,(hT _).2 h4,h5⟩
end Go.Deco
namespace Go.Proofs.YtlmipgdnlfjpaaaGreat
open Go.RowKit Go.Deco
section
variable {d:Nat}{w:World}{S:Nat->Prop}{A B:Option Addr}{m me N f n:Nat}{l:List Con}{C:List Nat}
def gg (d:Nat)(w:World)(S:Nat->Prop)(P:Ty->Prop)(e:Ending)(w':World):Prop:=∃v t,e= .returned v/\P t/\TyV d w' (fun b=>S b\/w.heap.size<=b) v t/\Ext w w'
theorem vG (hs:PrS d w S A m me B N f l n C) (x:Nat) (hx:x<n+m):Calls Tryz.prog 37 #[.agg #[.slice A m me,.int .i64 n,.slice B N f],.int .i64 x] w (gg d w S (k8 l n x)):=by
 replace hs:PrS d w (fun b=>S b/\b<w.heap.size) A m me B N f l n C:=⟨hs.sl.mono fun b hb hi=>⟨hb,hi.lt⟩,hs.cl,hs.ok,hs.cls,hs.lt,hs.len,hs.n20,hs.m20⟩
 obtain⟨W0,hW0⟩:=Qg (w.alloc (.cells #[.slice A m me,.int .i64 n,.slice B N f] 79));have hE0:Ext w W0:=by rw[<-hW0];exact(Ext.refl w).alloc _
 have b0:W0.cell? ⟨w.heap.size,0,none⟩=some (.slice A m me):=by rw[<-hW0];simp[go_sem]
 have b1:W0.cell? ⟨w.heap.size,1,none⟩=some (.int .i64 n):=by rw[<-hW0];simp[go_sem]
 have b2:W0.cell? ⟨w.heap.size,2,none⟩=some (.slice B N f):=by rw[<-hW0];simp[go_sem]
 have HE0:=hid hE0;have HS:=hid (hs.ext hE0);have HB0:=hid b0;have HB1:=hid b1;have HB2:=hid b2;have HM:=hid hs.sl.len;have HNM:=hid hs.num;obtain⟨hm1,hm2⟩:=hs.sl.cap;obtain⟨hf1,hf2⟩:=hs.cl.cap;have hN20:=hs.n20;have hM20:=hs.m20;clear hE0 hs;have HRB0:=hid (Qm.new W0 (.int .i64 0) (.int .i64 0) (.int .i64 0) (.slice none 0 0) (.slice none 0 0) 42);obtain⟨W1,hW1⟩:=Qg (W0.alloc (.cells #[.int .i64 0,.int .i64 0,.int .i64 0,.slice none 0 0,.slice none 0 0] 42));rw[hW1]at HRB0;have HE1:=hid (show Ext W0 W1 by rw[<-hW1];exact(Ext.refl _).alloc _);have HL0:=hid (show Vz l n x [x] 0 from Vz.start (by have:=HM.o;omega));have HO0:=hid (yK W1 x W1.heap.size (by omega) (Nat.le_refl _));have HX00:=hid ((Ext.refl W1).alloc (.cells #[.int .i64 x] 3));have HSZ0:=hid (show W0.heap.size=w.heap.size+1 by rw[<-hW0];simp);have HSZ1:=hid (show W1.heap.size=W0.heap.size+1 by rw[<-hW1];simp);go_enter Tryz.func37,Tryz.ntmps37
 go_wp2
 clear hW0 hW1 b0 b1 b2
 go_loopw [5,6] (fun s5 s6 wr=>∃(i:Nat) (T:List Nat) (Aa:Option Addr) (ca:Nat),i<=T.length/\s5= .slice Aa T.length ca/\s6= .int .i64 i/\Hid (Vz l n x T i)/\Hid (Qf QF wr W1.heap.size 3 No (.slice Aa T.length ca) T)/\Hid (Ext W1 wr)) (fun _ s6 _=>40 - (intOf s6).toNat)
 case atStart=>exact⟨0,[x],_,1,by simp,rfl,rfl,HL0,HO0,HX00⟩
 case round=>
  obtain⟨i,T,Aa,ca,hi,rfl,rfl,HL,HO,HXV⟩:=hrel;have HX:=hid (HE1.o.trans HXV.o);clear HL0 HO0 HX00;have hTl:=HL.o.len;by_cases h1:i<T.length
  ·obtain ⟨q,hq⟩:∃q,T[i]? =some q:=⟨_,Qq h1⟩;obtain⟨g,rfl,hg1,hg2⟩:=HO.o.at0 (by omega);have HQ:=hid hq;have i1:(i:Int)<(T.length:Int):=by omega
   have hi40:i<40:=by have:=HM.o;omega
   have hqn:q<n+m:=by have:=HL.o.lt q (Qx hq);have:=HM.o;omega
   clear hg1 hg2 hq
   go_wp2_with fail
   go_loopw [5,7] (fun s5 s7 wr=>∃(k:Nat) (T:List Nat) (g ca:Nat),k<=N/\s5= .slice (some ⟨g,0,none⟩) T.length ca/\s7= .int .i64 k/\Hid (Vz l n x T i)/\Hid (T[i]? =some q)/\Hid (Qf QF wr W1.heap.size 3 No (.slice (some ⟨g,0,none⟩) T.length ca) T)/\Hid (Ext W1 wr)/\Hid (∀j:Nat,j<k->Jm l n j q->j∈T)) (fun _ s7 _=>N - (intOf s7).toNat)
   case atStart=>exact⟨0,T,g,ca,by omega,rfl,rfl,HL,HQ,HO,HXV,hid (fun j h=>absurd h (Nat.not_lt_zero _))⟩
   case round=>
    clear HL HQ HO HX HXV hTl h1 i1;obtain⟨k,T,g,ca,hk,rfl,rfl,HL,HQ,HO,HXV,HDN⟩:=hrel;have HX:=hid (HE1.o.trans HXV.o);have b0:=HX.o.cell HB0.o;have b1:=HX.o.cell HB1.o;have b2:=HX.o.cell HB2.o;obtain⟨nT,hnT⟩:=Qg (T.length);have HTL:=hid hnT;have hTl:=HL.o.len;have hiT:=(Qz HQ.o).1;have hcp:=HO.o.sl.cap.1;rw[hnT]at hTl hiT hcp ⊢;clear hnT;by_cases h1:k<N
    ·have HA:=hid (fun(w':World) (hw:Ext wr w')=>pk w' _ _ _ _ (HO.o.ext hw).sl k);rw[HTL.o]at HA;have HFL:=hid (fun(w':World) (hw:Ext wr w')=>tg (HS.o.ext (HX.o.trans hw)) k q (by have:=HNM.o;omega) hqn);have i3:(0:Int)<=(k:Int):=by omega
     have i4:(k:Int)<(N:Int):=by omega
     have i5:(0:Int)<=(i:Int):=by omega
     have i6:(i:Int)<(nT:Int):=by omega
     have t0:=(HO.o.num_cell HQ.o).1;have HEL:=hid (Ext.two (Ext.hc3 b0 b1 b2) (Ext.hc1 t0));clear t0;obtain⟨z,hz⟩:=Qg (decide (k∈T));rw[hz]at HA;have HMD:=hid hz;clear hz
     go_wp2_with fail
     clear b0 b1 b2
     cases z with
     | true=>
      refine rgH HEL.o (Ext.refl wr).drew (fun hSg1q0=>?_);refine QJ 0 1 ?_;refine rgC 2 (fun K hK=>?_);go_simp;go_at_call 63;refine(HA.o _ (Ext.refl wr).drew).mono ?_;rintro e5 w5 ⟨rfl,hx5⟩;have HX5:=hid hx5.drew_left;clear hx5;refine rgK hK (HEL.o _ HX5.o) (fun hSg1q1=>?_);clear hK K;refine QJ 3 4 ?_;refine Qc 5 6 7 8 ?_;refine ZM 9 10 ?_;refine rgC 11 (fun K hK=>?_);refine cast (if_neg (fun h=>Bool.noConfusion (show false=true from h))).symm ?_;refine rgK hK (by assumption) (fun hSg1q2=>?_);clear hK K;refine rgT 12 ?_;refine wpAnyH_done (by kernel_rfl) ?_ _
      go_wp2
      first
       |go_roundw
       |refine⟨?rel, ?measure⟩
      case rel=>
       refine⟨k+1,T,g,ca,by omega,by rw[HTL.o],by go_num,HL,HQ,hid (HO.o.ext HX5.o),hid (HXV.o.trans HX5.o),hid (fun j hj hf=>?_)⟩;by_cases hjk:j=k
       ·subst hjk;exact of_decide_eq_true HMD.o
       ·exact HDN.o j (by omega) hf
      case measure=>simp [intOf];omega
     | false=>
      refine rgH HEL.o (Ext.refl wr).drew (fun hSg2q0=>?_);refine QJ 0 1 ?_;refine rgC 2 (fun K hK=>?_);go_simp;go_at_call 63;refine(HA.o _ (Ext.refl wr).drew).mono ?_;rintro e5 w5 ⟨rfl,hx5⟩;have HX5:=hid hx5.drew_left;clear hx5;refine rgK hK (HEL.o _ HX5.o) (fun hSg2q1=>?_);clear hK K;refine Qp 3 4 5 6 7 8 ?_;refine QJ 9 10 ?_;refine rgC 11 (fun K hK=>?_);go_simp;go_at_call 64;refine(HFL.o _ HX5.o).mono ?_;rintro e6 w6 ⟨b6,rfl,hb6,hx6⟩;have HX6:=hid (HX5.o.trans hx6);have HB6:=hid hb6;clear hx6 hb6;refine rgK hK (HEL.o _ HX6.o) (fun hSg2q2=>?_);clear hK K;refine rgT 12 ?_;refine wpAnyH_done (by kernel_rfl) ?_ _
      cases b6 with
      | false=>
       go_wp2
       first
        |go_roundw
        |refine⟨?rel, ?measure⟩
       case rel=>
        refine⟨k+1,T,g,ca,by omega,by rw[HTL.o],by go_num,HL,HQ,hid (HO.o.ext HX6.o),hid (HXV.o.trans HX6.o),hid (fun j hj hf=>?_)⟩;by_cases hjk:j=k
        ·subst hjk;exact absurd (HB6.o.2 hf) (by simp)
        ·exact HDN.o j (by omega) hf
       case measure=>simp [intOf];omega
      | true=>
       have HADD:=hid (HL.o.add HQ.o (HB6.o.1 (by simp)) HS.o.ok (of_decide_eq_false HMD.o));have HO6:=hid (HO.o.ext HX6.o)
       go_wp2_with (first
        |(at_builtin;refine Yg rfl (.tmp 38) (.tmp 40) rfl W1.heap.size (.slice (some ⟨g,0,none⟩) T.length ca) T (by rw[HTL.o];rfl) (HO6.o.ext ((Ext.refl _).alloc _)) w6.heap.size k rfl (by simp[go_sem]) (by have:=HNM.o;omega) (by have:=HM.o;rw[HTL.o];omega) (by have:=(HO6.o.block g rfl).1;have:=(HO6.o.block g rfl).2;simp;omega) ?_;intro A9 c9' w9 ho9 hg9 hl9;have HO9:=hid ho9;have HG9:=hid hg9;clear ho9 hg9 hl9)
        |fail)
       have HX9:=hid ((((HXV.o.trans HX6.o).alloc (.cells #[.int .i64 (k:Int)] 3)).grown HG9.o (fun k hk=>(HO6.o.block k hk).1)));obtain⟨g9,rfl, -, -⟩:=HO9.o.at0 (by omega)
       first
        |go_roundw
        |refine⟨?rel, ?measure⟩
       case rel=>
        refine⟨k+1,T ++ [k],g9,c9',by omega,by simp,by go_num,HADD,hid ?_,hid ?_,HX9,hid (fun j hj hf=>?_)⟩
        ·rw[List.getElem?_append_left (by rw[HTL.o];omega)];exact HQ.o
        ·have:=HO9.o
         rwa [show T.length+1=(T ++ [k]).length by simp]at this
        ·by_cases hjk:j=k
         ·subst hjk;simp
         ·exact List.mem_append_left _ (HDN.o j (by omega) hf)
       case measure=>simp [intOf];omega
    ·obtain rfl:k=N:=by omega
     have i1:¬(k:Int)<(k:Int):=by omega
     go_wp2
     first
      |go_roundw
      |refine⟨?rel, ?measure⟩
     case rel=>
      refine⟨i+1,T,_,ca,by rw[HTL.o];omega,by rw[HTL.o],by go_num,hid (HL.o.next HQ.o (fun y hf=>?_)),HO,HXV⟩;exact HDN.o y (by have:=(bG HS.o.ok hf).1;have:=HM.o;have:=HNM.o;omega) hf
     case measure=>simp [intOf];omega
  ·obtain rfl:i=T.length:=by omega
   have i1:¬(T.length:Int)<(T.length:Int):=by omega
   have HT:=hid (fun y=>(HL.o.end (y:=y)));obtain⟨V,hV⟩:∃V,V=wr:=⟨_,rfl⟩;obtain rfl:=hV;have HSL:=hid HO.o.sl;obtain⟨V1,hV1⟩:=Qg (V.alloc (.cells #[.int .i64 0,.int .i64 0,.int .i64 0,.slice none 0 0,.slice none 0 0] 42));have HEV:=hid (show Ext V V1 by rw[<-hV1];exact(Ext.refl _).alloc _);have HTB0:=hid (show Qm V1 V.heap.size (.int .i64 0) (.int .i64 0) (.int .i64 0) (.slice none 0 0) (.slice none 0 0) by rw[<-hV1];exact Qm.new V _ _ _ _ _ _);have HVS:=hid (show W1.heap.size<=V.heap.size from HXV.o.size);clear HL HO hTl
   go_wp2
   clear hV1
   go_loopw [9] (fun s9 wr=>∃(k:Nat) (t:Ty) (A1:Option Addr) (n1 c1:Nat) (B1:Option Addr) (m1 e1:Nat),k<=m/\s9= .int .i64 k/\Hid (Qm wr V.heap.size (.int .i64 t.kind) (.int .i64 t.size) (.int .i64 t.count) (.slice A1 n1 c1) (.slice B1 m1 e1))/\Hid (TyV d wr (fun b=>(S b/\b<w.heap.size)\/V.heap.size+1<=b) (.agg #[.int .i64 t.kind,.int .i64 t.size,.int .i64 t.count,.slice A1 n1 c1,.slice B1 m1 e1]) t)/\Hid (ZG (YM l T k) t)/\Hid (Ext V wr)) (fun s9 _=>m - (intOf s9).toNat)
   case atStart=>exact⟨0,Ty.unk,none,0,0,none,0,0,by omega,rfl,HTB0,hid ZF,hid ez,HEV⟩
   case round=>
    obtain⟨k,t,A1,n1,c1,B1,m1,e1,hk,rfl,HTB,HTV,HLB,HXW⟩:=hrel;clear HTB0 HEV;have HXT:=hid (HX.o.trans HXW.o);have b0:=HXT.o.cell HB0.o;have b1:=HXT.o.cell HB1.o;have b2:=HXT.o.cell HB2.o;by_cases h1:k<m
    ·skip;obtain⟨cu,du,bA,oA,P1u,n1u,c1u,P2u,n2u,c2u,hc,hok,hd,rfl,hcv,hbx⟩:=(HS.o.ext HXT.o).con h1;obtain⟨x0u,x1u,x2u,x3u,x4u,x5u,x6u,x7u,x8u,x9u⟩:=hbx;have HCVu:=hid hcv;have HCu:=hid hc;have HOKu:=hid hok;have HDu:=hid hd;obtain⟨kdu,cau,cbu,ou,wdu,ctu⟩:=cu;obtain⟨au,rfl⟩:∃a:Nat,cau=(a:Int):=⟨cau.toNat,(Qk hok.a0).symm⟩;have hau:au<n:=by have:=hok.a1;simp only at this;omega
     simp only at x0u x1u x2u x3u x4u x5u x6u x7u x8u x9u;clear hc hok hd hcv;have i3:(0:Int)<=(k:Int):=by omega
     have i4:(k:Int)<(m:Int):=by omega
     by_cases k1:kdu=1
     ·have g1:(kdu == 1)=true:=by simp[k1]
      have K1:=hid k1;have HA:=hid (pk wr _ _ _ _ (HSL.o.ext HXW.o) au);clear k1
      go_wp2_with fail
      refine HA.o.mono ?_;rintro e5 w5 ⟨rfl,hx5⟩;have HX5:=hid hx5;obtain⟨z,hz⟩:=Qg (decide (au∈T));rw[hz];have HMD:=hid hz;clear hz hx5
      cases z with
      | false=>
       clear b0 b1 b2 x0u x1u x2u x3u x4u x5u x6u x7u x8u x9u
       go_wp2
       first
        |go_roundw
        |refine⟨?rel, ?measure⟩
       case rel=>exact⟨k+1,t,A1,n1,c1,B1,m1,e1,by omega,by go_num,hid (HTB.o.ext HX5.o),hid (HTV.o.ext HX5.o),hid (mW HLB.o HCu.o (fun h=>absurd h.2 (by simpa using of_decide_eq_false HMD.o))),hid (HXW.o.trans HX5.o)⟩
       case measure=>simp [intOf];omega
      | true=>
       obtain⟨y0,y1,y2,y3,y4, -⟩:=HTB.o;have HCT:Hid (TyV d wr (fun b=>(S b/\b<w.heap.size)\/V.heap.size+1<=b) (.agg #[.int .i64 ctu.kind,.int .i64 ctu.size,.int .i64 ctu.count,.slice P1u n1u c1u,.slice P2u n2u c2u]) ctu):=hid ((TyV.up (d:=du) (d':=d) (by have:=HDu.o;omega) (J3 (c:=⟨kdu,(au:Int),cbu,ou,wdu,ctu⟩) HCVu.o).2).mono (fun b hb _=>Or.inl hb));have HJ:=hid (fun w' (hw:Ext wr w')=>lc d w' (fun b=>(S b/\b<w.heap.size)\/V.heap.size+1<=b) t ctu _ _ (HTV.o.ext hw) (HCT.o.ext hw));obtain⟨tj,htj⟩:=Qg (KZ t ctu);have HLJ:=hid (hX HS.o.ok HLB.o HCu.o K1.o (by simpa using of_decide_eq_true HMD.o));simp only at HLJ HJ;rw[htj]at HLJ HJ;have HEL:=hid (Ext.two (Ext.hc3 b0 b1 b2) (Ext.two (Ext.hc10 x0u x1u x2u x3u x4u x5u x6u x7u x8u x9u) (Ext.hc5 y0 y1 y2 y3 y4)));clear b0 b1 b2 x0u x1u x2u x3u x4u x5u x6u x7u x8u x9u y0 y1 y2 y3 y4 htj;go_upto_region 15 with fail
       refine rgS 8 rfl rfl HEL.o HX5.o.drew (fun hSg3q0=>?_);refine Qp 0 1 2 3 4 5 ?_;refine rgT 6 ?_;refine rgC 7 (fun K hK=>?_);go_simp;go_at_call 44;refine(HJ.o _ HX5.o.drew).mono ?_;rintro e7 w7 ⟨v7,rfl,hv7,hx7⟩;have HV7:Hid (TyV d w7 (fun b=>(S b/\b<w.heap.size)\/V.heap.size+1<=b) v7 tj):=hid (hv7.mono (fun b hb _=>by rcases hb with hb|hb;exact hb;exact .inr (by have hb':w5.heap.size<=b:=hb;have:=HX5.o.size;have:=HTB.o.lt;omega)));have HX7:=hid (HX5.o.trans hx7.drew_left);obtain⟨A7,n7,c7,B7,m7,e7,rfl, -⟩:=hv7;clear hx7;refine rgK hK (HEL.o _ HX7.o) (fun hSg3q1=>?_);clear hK K;refine wpAnyH_done (by kernel_rfl) ?_ _;change wpList _ _ _ _ _ _;obtain⟨r0,r1,r2,r3,r4,rf⟩:=HTB.o.ext HX7.o;have u0:=rf 0;have u1:=rf 1;have u2:=rf 2;have u3:=rf 3;have u4:=rf 4;obtain⟨W3,hW3,hB3,hH3,hS3,hX3⟩:=QK (HTB.o.ext HX7.o) (.int .i64 tj.kind) (.int .i64 tj.size) (.int .i64 tj.count) (.slice A7 n7 c7) (.slice B7 m7 e7);have HW3:=hid hW3;have HX3:=hid (hX3 V (HXW.o.trans HX7.o) (Nat.le_refl _));have HH3:=hid hH3;have HB3:=hid hB3;clear hW3 hH3 hX3 hS3 hB3 rf
       go_wp2
       rw[HW3.o];clear r0 r1 r2 r3 r4 u0 u1 u2 u3 u4
       first
        |go_roundw
        |refine⟨?rel, ?measure⟩
       case rel=>exact⟨k+1,tj,A7,n7,c7,B7,m7,e7,by omega,by go_num,HB3,hid (HV7.o.keep (fun b hb _=>HH3.o b (by have:=HVS.o;have:=HSZ1.o;have:=HSZ0.o;rcases hb with hb|hb <;> omega))),HLJ,HX3⟩
       case measure=>simp [intOf];omega
     ·have g1:(kdu == 1)=false:=by simp[k1]
      have K1:=hid k1;clear k1
      go_wp2
      first
       |go_roundw
       |refine⟨?rel, ?measure⟩
      case rel=>exact⟨k+1,t,A1,n1,c1,B1,m1,e1,by omega,by go_num,HTB,HTV,hid (mW HLB.o HCu.o (fun h=>K1.o h.1)),HXW⟩
      case measure=>simp [intOf];omega
    ·obtain rfl:k=m:=by omega
     have i1:¬(k:Int)<(k:Int):=by omega
     obtain⟨y0,y1,y2,y3,y4, -⟩:=HTB.o;have hle0:w.heap.size<=W0.heap.size:=HE0.o.size;obtain⟨r0,r1,r2,r3,r4,rf⟩:=(HRB0.o.ext (HXV.o.trans HXW.o));have u0:=rf 0;have u1:=rf 1;have u2:=rf 2;have u3:=rf 3;have u4:=rf 4;obtain⟨W9,hW9,hB9,hH9,hS9,hX9⟩:=QK ((HRB0.o.ext (HXV.o.trans HXW.o))) (.int .i64 t.kind) (.int .i64 t.size) (.int .i64 t.count) (.slice A1 n1 c1) (.slice B1 m1 e1);obtain⟨t0,t1,t2,t3,t4, -⟩:=hB9;have HW9:=hid hW9;have HX9:=hid (hX9 w (HE0.o.trans HXT.o) (by omega));have HH9:=hid hH9;have HZ9:=hid hS9;clear hW9 hH9 hS9 hX9 rf
     go_wp2
     rw[HW9.o];clear r0 r1 r2 r3 r4;refine bodyPost_ret (v:= .agg #[(.int .i64 t.kind),(.int .i64 t.size),(.int .i64 t.count),(.slice A1 n1 c1),(.slice B1 m1 e1)]) (by simp[results,Tryz.results37,go_sem,t0,t1,t2,t3,t4]) rfl ?_;refine⟨_,t,rfl,Gz HT.o (by have:=HLB.o;rwa [HM.o]at this), ?_,HX9.o⟩;refine(HTV.o.keep (w':=W9) (fun b hb _=>HH9.o b (by have:=HVS.o;have:=HSZ1.o;have:=HSZ0.o;rcases hb with hb|hb <;> omega))).mono (fun b hb _=>?_);rcases hb with hb|hb
     ·exact .inl hb.1
     ·exact .inr (by have:=HVS.o;have:=HSZ1.o;have:=HSZ0.o;omega)
end
end Go.Proofs.YtlmipgdnlfjpaaaGreat
namespace Go.Deco
open Go Go.RowKit
def xQ (l:List Con)(X:Int)(k:Nat)(c:Con):Prop:=
 (c.kind=1/\c.type.kind≠0)\/(QY c=true/\c.off<0)\/(QY c=true/\∃(i:Nat) (e:Con),i<k/\l[i]? =some e/\QY e=true/\VE l e.a X/\e.off=c.off/\e.width≠c.width)\/
  (QQ c=true/\Rec l c/\Xg l c 2/\Xg l c 3)\/(QQ c=true/\¬Q9 l c.b/\∃t,X2 l c t/\Xq t 0 4≠some t)
theorem qk {l:List Con}{X:Int}:X1 l X↔∃(k:Nat) (c:Con),l[k]? =some c/\VE l c.a X/\xQ l X k c:=by
 constructor
 ·rintro⟨c,hc,hv,h⟩;obtain⟨k,hk⟩:=List.getElem?_of_mem hc;rcases h with h|h|⟨h1,e,he,h2,h3,h4,h5⟩|h|h
  ·exact⟨k,c,hk,hv,.inl h⟩
  ·exact⟨k,c,hk,hv,.inr (.inl h)⟩
  ·obtain⟨i,hi⟩:=List.getElem?_of_mem he;rcases Nat.lt_trichotomy i k with hlt|heq|hgt
   ·exact⟨k,c,hk,hv,.inr (.inr (.inl ⟨h1,i,e,hlt,hi,h2,h3,h4,h5⟩))⟩
   ·subst heq;rw[hk]at hi;cases hi;exact absurd rfl h5
   ·exact⟨i,e,hi,h3,.inr (.inr (.inl ⟨h2,k,c,hgt,hk,h1,hv,h4.symm,fun q=>h5 q.symm⟩))⟩
  ·exact⟨k,c,hk,hv,.inr (.inr (.inr (.inl h)))⟩
  ·exact⟨k,c,hk,hv,.inr (.inr (.inr (.inr h)))⟩
 ·rintro⟨k,c,hk,hv,h⟩;refine⟨c,Qx hk,hv, ?_⟩;rcases h with h|h|⟨h1,i,e,_,he,h2⟩|h|h
  ·exact .inl h
  ·exact .inr (.inl h)
  ·exact .inr (.inr (.inl ⟨h1,e,Qx he,h2⟩))
  ·exact .inr (.inr (.inr (.inl h)))
  ·exact .inr (.inr (.inr (.inr h)))
end Go.Deco
namespace Go.Proofs.YtlmipgdnlfjpaaaGreat
open Go.RowKit Go.Deco
section
variable {d:Nat}{w:World}{S:Nat->Prop}{A B:Option Addr}{m me N f n:Nat}{l:List Con}{C:List Nat}
theorem sX (hs:PrS d w S A m me B N f l n C) (x:Nat) (hx:x<n+m):Calls Tryz.prog 60 #[.agg #[.slice A m me,.int .i64 n,.slice B N f],.int .i64 (QW C x)] w (ZK w (X1 l (Zz l n x))):=by
 obtain⟨W0,hW0⟩:=Qg (w.alloc (.cells #[.slice A m me,.int .i64 n,.slice B N f] 79));have hE0:Ext w W0:=by rw[<-hW0];exact(Ext.refl w).alloc _
 have b0:W0.cell? ⟨w.heap.size,0,none⟩=some (.slice A m me):=by rw[<-hW0];simp[go_sem]
 have b1:W0.cell? ⟨w.heap.size,1,none⟩=some (.int .i64 n):=by rw[<-hW0];simp[go_sem]
 have b2:W0.cell? ⟨w.heap.size,2,none⟩=some (.slice B N f):=by rw[<-hW0];simp[go_sem]
 have HE0:=hid hE0;have HS:=hid (hs.ext hE0);have HB0:=hid b0;have HB1:=hid b1;have HB2:=hid b2;have HM:=hid hs.sl.len;have HNM:=hid hs.num;obtain⟨hm1,hm2⟩:=hs.sl.cap;obtain⟨hf1,hf2⟩:=hs.cl.cap;have hN20:=hs.n20;have hM20:=hs.m20;clear hE0 hs;obtain⟨X,hXX⟩:=Qg (Zz l n x);have HXX:=hid hXX;obtain⟨px,hpx⟩:=Qg (QW C x);have HPX:=hid hpx;rw[hXX,hpx];clear hXX hpx;go_enter Tryz.func60,Tryz.ntmps60
 go_wp2
 clear hW0 b0 b1 b2
 go_loopw [5] (fun s wr=>∃k:Nat,k<=m/\s= .int .i64 k/\Hid (Ext W0 wr)/\Hid (∀(j:Nat) c,j<k->l[j]? =some c->¬(VE l c.a X/\xQ l X j c))) (fun s _=>m - (intOf s).toNat)
 case atStart=>exact⟨0,by omega,rfl,hid (Ext.refl _),hid (fun j c h=>absurd h (Nat.not_lt_zero _))⟩
 case round =>
  obtain⟨k,hk,rfl,HX,HF⟩:=hrel;obtain⟨U,hU⟩:∃U,U=wr:=⟨_,rfl⟩;obtain rfl:=hU;by_cases h1:k<m
  ·skip;obtain⟨cu,du,bA,oA,P1u,n1u,c1u,P2u,n2u,c2u,hc,hok,hd,rfl,hcv,hbx⟩:=(HS.o.ext HX.o).con h1;obtain⟨x0u,x1u,x2u,x3u,x4u,x5u,x6u,x7u,x8u,x9u⟩:=hbx;have HCVu:=hid hcv;have HCu:=hid hc;have HOKu:=hid hok;have HDu:=hid hd;obtain⟨kdu,cau,cbu,ou,wdu,ctu⟩:=cu;obtain⟨au,rfl⟩:∃a:Nat,cau=(a:Int):=⟨cau.toNat,(Qk hok.a0).symm⟩;have hau:au<n:=by have:=hok.a1;simp only at this;omega
   simp only at x0u x1u x2u x3u x4u x5u x6u x7u x8u x9u;clear hc hok hd hcv;obtain⟨bB,oB,rfl,y0⟩:=(HS.o.ext HX.o).lab (x:=au) (by omega);have HVE:=hid (HS.o.cls au x (by have:=HM.o;omega) (by have:=HM.o;omega));rw[Z5 hau,HXX.o,HPX.o]at HVE;obtain⟨pa,hpa⟩:=Qg (QW C au);rw[hpa]at y0 HVE;have i1:(0:Int)<=(au:Int):=by omega
   have i2:(au:Int)<(N:Int):=by have:=HNM.o;omega
   have i3:(0:Int)<=(k:Int):=by omega
   have i4:(k:Int)<(m:Int):=by omega
   have HST:Hid (¬(VE l (au:Int) X/\xQ l X k ⟨kdu,(au:Int),cbu,ou,wdu,ctu⟩)->∀(j:Nat) e,j<k+1->l[j]? =some e->¬(VE l e.a X/\xQ l X j e)):=hid (fun hn j e hj he=>by
    by_cases hji:j=k
    ·subst hji;rw[HCu.o]at he;cases he;exact hn
    ·exact HF.o j e (by omega) he)
   clear hpa;obtain⟨W1u,hW1u⟩:=Qg ((U).alloc (.cells #[.int .i64 0,.int .i64 0,.int .i64 0,.int .i64 0,.int .i64 0,.int .i64 0,.int .i64 0,.int .i64 0,.slice none 0 0,.slice none 0 0] 44));have hB1:Zg W1u (U).heap.size ZW:=by rw[<-hW1u];exact Zg.new U ZW _
   have hE1:Ext U W1u:=by rw[<-hW1u];exact(Ext.refl _).alloc _
   obtain⟨W2u,hW2,hB2,hH2,hS2,hX2⟩:=Jj hB1 ⟨kdu,(au:Int),cbu,ou,wdu,ctu⟩ P1u n1u c1u P2u n2u c2u;simp only at hW2 hB2;have HXCu:=hid (hX2 U hE1 (Nat.le_refl _));have HWCu:=hid hW2;have HBCu:=hid hB2;have z0:=hB1.1 0 _ rfl;have z1:=hB1.1 1 _ rfl;have z2:=hB1.1 2 _ rfl;have z3:=hB1.1 3 _ rfl;have z4:=hB1.1 4 _ rfl;have z5:=hB1.1 5 _ rfl;have z6:=hB1.1 6 _ rfl;have z7:=hB1.1 7 _ rfl;have z8:=hB1.1 8 _ rfl;have z9:=hB1.1 9 _ rfl;have y0:=hB1.2.1 0;have y1:=hB1.2.1 1;have y2:=hB1.2.1 2;have y3:=hB1.2.1 3;have y4:=hB1.2.1 4;have y5:=hB1.2.1 5;have y6:=hB1.2.1 6;have y7:=hB1.2.1 7;have y8:=hB1.2.1 8;have y9:=hB1.2.1 9;clear hW2 hB2 hH2 hS2 hX2 hE1 hB1;have b0:=HX.o.cell HB0.o;go_upto_region 5 with fail
   rw[HWCu.o];clear z0 z1 z2 z3 z4 z5 z6 z7 z8 z9 y0 y1 y2 y3 y4 y5 y6 y7 y8 y9 x0u x1u x2u x3u x4u x5u x6u x7u x8u x9u hW1u;obtain⟨c0,c1,c2,c3,c4,c5,c6,c7,c8,c9⟩:=HBCu.o;rw[Nat.zero_add]at c1 c2 c3 c4 c5 c6 c7 c8 c9;simp only at c0 c1 c2 c3 c4 c5 c6 c7 c8 c9;clear b0;have HXR:=hid (HX.o.trans HXCu.o);have y0:=HXCu.o.cell y0;have b0:=HXR.o.cell HB0.o;have b1:=HXR.o.cell HB1.o;have b2:=HXR.o.cell HB2.o;obtain⟨V,hV⟩:∃V,V=W2u:=⟨_,rfl⟩;obtain rfl:=hV;have HBX:=hid (Ext.two (Ext.hc3 b0 b1 b2) (Ext.hc10 c0 c1 c2 c3 c4 c5 c6 c7 c8 c9));have HCVV:=hid (HCVu.o.ext HXCu.o);have HAC:=hid (fun(w':World) (hw:Ext V w')=>qj _ w' _ _ (HCVV.o.all.ext hw));have HWC:=hid (fun(w':World) (hw:Ext V w')=>Yp _ w' _ _ (HCVV.o.all.ext hw));obtain⟨y,hy⟩:=Qg (QY ⟨kdu,(au:Int),cbu,ou,wdu,ctu⟩);simp only at HAC HWC;rw[hy]at HAC;have HY:=hid hy;clear HWCu HBCu HCVu hy;by_cases hp:pa=px
   ·have g0 : ((pa:Int) != (px:Int))=false:=by simp[hp]
    have HVX:=hid (HVE.o.1 hp);clear hp;go_upto_region 6 with fail
    clear y0
    go_cut [48] from 31 to 47 (fun s48 wx=>∃b:Bool,s48= .bool b/\Hid (b=true↔((kdu=1/\ctu.kind≠0)\/(y=true/\ou<0)))/\Hid (Ext V wx))
    case rest =>
     clear b0 b1 b2 c0 c1 c2 c3 c4 c5 c6 c7 c8 c9;obtain⟨b,rfl,HB,HX6⟩:=hcut;obtain⟨V6,hV6⟩:∃V6,V6=wc:=⟨_,rfl⟩;obtain rfl:=hV6
     cases b with
     |true=>
      go_wp2
      go_ret;exact ZK.of ⟨fun _=>qk.2 ⟨k,_,HCu.o,HVX.o,(HB.o.1 (by simp)).elim (fun h=> .inl h) (fun h=> .inr (.inl ⟨HY.o.trans h.1,h.2⟩))⟩,fun _=>rfl⟩ (HE0.o.trans (HXR.o.trans HX6.o))
     | false =>
      go_wp2
      go_loopw [7] (fun s7 wr=>∃i:Nat,i<=k/\s7= .int .i64 i/\Hid (Ext V wr)/\Hid (∀(j:Nat) e,j<i->l[j]? =some e->¬(y=true/\QY e=true/\VE l e.a X/\e.off=ou/\e.width≠wdu))) (fun s7 _=>k - (intOf s7).toNat)
      case atStart=>exact⟨0,by omega,rfl,HX6,hid (fun j c h=>absurd h (Nat.not_lt_zero _))⟩
      case round=>
       obtain⟨i,hi,rfl,HXL,HDN⟩:=hrel;clear HX6;obtain⟨⟨b0,b1,b2⟩,c0,c1,c2,c3,c4,c5,c6,c7,c8,c9⟩:=HBX.o _ HXL.o;by_cases h2:i<k
       ·have him:i<m:=by omega
        have HXT:=hid (HXR.o.trans HXL.o);obtain⟨cv,dv,bA',oA',P1v,n1v,c1v,P2v,n2v,c2v,hc,hok,hd,hh,hcv,hbx⟩:=(HS.o.ext HXT.o).con him;injection hh with hh
        injection hh with h2 h3
        subst h2 h3;obtain⟨x0v,x1v,x2v,x3v,x4v,x5v,x6v,x7v,x8v,x9v⟩:=hbx;have HCVv:=hid hcv;have HCv:=hid hc;have HOKv:=hid hok;have HDv:=hid hd;obtain⟨kdv,cav,cbv,ov,wdv,ctv⟩:=cv;obtain⟨av,rfl⟩:∃a:Nat,cav=(a:Int):=⟨cav.toNat,(Qk hok.a0).symm⟩;have hav:av<n:=by have:=hok.a1;simp only at this;omega
        simp only at x0v x1v x2v x3v x4v x5v x6v x7v x8v x9v;clear hc hok hd hcv;obtain⟨bB',oB',hh,yv⟩:=((HS.o.ext HXT.o)).lab (x:=av) (by omega);injection hh with hh
        injection hh with h2 h3
        subst h2 h3;have HVV:=hid (HS.o.cls av x (by have:=HM.o;omega) (by have:=HM.o;omega));rw[Z5 hav,HXX.o,HPX.o]at HVV;obtain⟨qv,hqv⟩:=Qg (QW C av);rw[hqv]at yv HVV;have HAE:=hid (fun(w':World) (hw:Ext wr w')=>qj _ w' _ _ (HCVv.o.all.ext hw));obtain⟨zv,hzv⟩:=Qg (QY ⟨kdv,(av:Int),cbv,ov,wdv,ctv⟩);simp only at HAE;rw[hzv]at HAE;have HZV:=hid hzv;have j1:(0:Int)<=(av:Int):=by omega
        have j2:(av:Int)<(N:Int):=by have:=HNM.o;omega
        have j3:(0:Int)<=(i:Int):=by omega
        have j4:(i:Int)<(m:Int):=by omega
        have j5:(i:Int)<(k:Int):=by omega
        have HEL:=hid (Ext.two (Ext.hc3 b0 b1 b2) (Ext.two (Ext.hc10 c0 c1 c2 c3 c4 c5 c6 c7 c8 c9) (Ext.two (Ext.hc10 x0v x1v x2v x3v x4v x5v x6v x7v x8v x9v) (Ext.hc1 yv))));clear hqv hzv;clear b0 b1 b2 c0 c1 c2 c3 c4 c5 c6 c7 c8 c9 x0v x1v x2v x3v x4v x5v x6v x7v x8v x9v yv
        go_wp2_with fail
        cases y with
        | false=>
         refine rgH HEL.o (Ext.refl wr).drew (fun hSg1q0=>?_);refine rgT 0 ?_;refine rgC 1 (fun K hK=>?_);go_simp;go_at_call 59;refine(HAC.o _ (HXL.o.trans (Ext.refl wr).drew)).mono ?_;rintro e5 w5 ⟨rfl,hx5⟩;have HX5:=hid hx5.drew_left;clear hx5;refine rgK hK (HEL.o _ HX5.o) (fun hSg1q1=>?_);clear hK K;refine rgT 2 ?_;refine Qc 3 4 5 6 ?_;refine rgU 7 ?_;refine rgC 8 (fun K hK=>?_);refine cast (if_neg (fun h=>Bool.noConfusion (show false=true from h))).symm ?_;refine rgK hK (by assumption) (fun hSg1q2=>?_);clear hK K;refine QJ 9 10 ?_;refine Qc 11 12 13 14 ?_;refine Qc 15 16 17 18 ?_;refine Qc 19 20 21 22 ?_;refine QJ 23 24 ?_;refine Qc 25 26 27 28 ?_;refine Qc 29 30 31 32 ?_;refine rgU 33 ?_;refine QJ 34 35 ?_;refine Qc 36 37 38 39 ?_;refine Qc 40 41 42 43 ?_;refine rgU 44 ?_;refine rgT 45 ?_;refine wpAnyH_done (by kernel_rfl) ?_ _
         go_wp2
         first
          |go_roundw
          |refine⟨?rel, ?measure⟩
         case rel=>
          refine⟨i+1,by omega,by go_num,hid (HXL.o.trans HX5.o),hid (fun j e hj he h=>?_)⟩;by_cases hji:j=i
          ·subst hji;rw[HCv.o]at he;cases he;obtain⟨q1,q2,q3,q4,q5⟩:=h;exact absurd q1 (by simp)
          ·exact HDN.o j e (by omega) he ⟨(by first|exact h.1|simp),h.2⟩
         case measure=>simp [intOf];omega
        | true =>
         cases zv with
         | false=>
          refine rgH HEL.o (Ext.refl wr).drew (fun hSg2q0=>?_);refine rgT 0 ?_;refine rgC 1 (fun K hK=>?_);go_simp;go_at_call 59;refine(HAC.o _ (HXL.o.trans (Ext.refl wr).drew)).mono ?_;rintro e5 w5 ⟨rfl,hx5⟩;have HX5:=hid hx5.drew_left;clear hx5;refine rgK hK (HEL.o _ HX5.o) (fun hSg2q1=>?_);clear hK K;refine Qp 2 3 4 5 6 7 ?_;refine rgC 8 (fun K hK=>?_);go_simp;go_at_call 59;refine(HAE.o _ HX5.o).mono ?_;rintro e6 w6 ⟨rfl,hx6⟩;have HX6:=hid (HX5.o.trans hx6);clear hx6;refine rgK hK (HEL.o _ HX6.o) (fun hSg2q2=>?_);clear hK K;refine QJ 9 10 ?_;refine Qc 11 12 13 14 ?_;refine Qc 15 16 17 18 ?_;refine Qc 19 20 21 22 ?_;refine QJ 23 24 ?_;refine Qc 25 26 27 28 ?_;refine Qc 29 30 31 32 ?_;refine rgU 33 ?_;refine QJ 34 35 ?_;refine Qc 36 37 38 39 ?_;refine Qc 40 41 42 43 ?_;refine rgU 44 ?_;refine rgT 45 ?_;refine wpAnyH_done (by kernel_rfl) ?_ _
          go_wp2
          first
           |go_roundw
           |refine⟨?rel, ?measure⟩
          case rel=>
           refine⟨i+1,by omega,by go_num,hid (HXL.o.trans HX6.o),hid (fun j e hj he h=>?_)⟩;by_cases hji:j=i
           ·subst hji;rw[HCv.o]at he;cases he;obtain⟨q1,q2,q3,q4,q5⟩:=h;rw[HZV.o]at q2;cases q2
           ·exact HDN.o j e (by omega) he ⟨(by first|exact h.1|simp),h.2⟩
          case measure=>simp [intOf];omega
         | true=>
          by_cases h3:qv=px
          ·have g3:((qv:Int) == (px:Int))=true:=by simp[h3]
           have HQV:=hid (HVV.o.1 h3);clear h3;by_cases h4:ov=ou
           ·have g4:(ov == ou)=true:=by simp[h4]
            have H4:=hid h4;clear h4;obtain⟨r,g5⟩:=Qg ((wdv != wdu));have HRR:Hid (r=true↔wdv≠wdu):=hid (by rw[<-g5];simp);refine rgH HEL.o (Ext.refl wr).drew (fun hSg3q0=>?_);refine rgT 0 ?_;refine rgC 1 (fun K hK=>?_);go_simp;go_at_call 59;refine(HAC.o _ (HXL.o.trans (Ext.refl wr).drew)).mono ?_;rintro e5 w5 ⟨rfl,hx5⟩;have HX5:=hid hx5.drew_left;clear hx5;refine rgK hK (HEL.o _ HX5.o) (fun hSg3q1=>?_);clear hK K;refine Qp 2 3 4 5 6 7 ?_;refine rgC 8 (fun K hK=>?_);go_simp;go_at_call 59;refine(HAE.o _ HX5.o).mono ?_;rintro e6 w6 ⟨rfl,hx6⟩;have HX6:=hid (HX5.o.trans hx6);clear hx6;refine rgK hK (HEL.o _ HX6.o) (fun hSg3q2=>?_);clear hK K;refine Qp 9 10 11 12 13 14 ?_;refine Qp 15 16 17 18 19 20 ?_;refine Qp 21 22 23 24 25 26 ?_;refine Qp 27 28 29 30 31 32 ?_;refine Qp 33 34 35 36 37 38 ?_;refine Qp 39 40 41 42 43 44 ?_;refine rgT 45 ?_;refine wpAnyH_done (by kernel_rfl) ?_ _
            cases r with
            |true=>
             go_wp2
             go_ret;exact ZK.of ⟨fun _=>qk.2 ⟨k,_,HCu.o,HVX.o,.inr (.inr (.inl ⟨HY.o,i,_,h2,HCv.o,HZV.o,HQV.o,H4.o,HRR.o.1 (by simp)⟩))⟩,fun _=>rfl⟩ (HE0.o.trans (HXT.o.trans HX6.o))
            | false=>
             go_wp2
             first
              |go_roundw
              |refine⟨?rel, ?measure⟩
             case rel=>
              refine⟨i+1,by omega,by go_num,hid (HXL.o.trans HX6.o),hid (fun j e hj he h=>?_)⟩;by_cases hji:j=i
              ·subst hji;rw[HCv.o]at he;cases he;obtain⟨q1,q2,q3,q4,q5⟩:=h;exact absurd (HRR.o.2 q5) (by simp)
              ·exact HDN.o j e (by omega) he ⟨(by first|exact h.1|simp),h.2⟩
             case measure=>simp [intOf];omega
           ·have g4:(ov == ou)=false:=by simp[h4]
            have H4:=hid h4;clear h4;refine rgH HEL.o (Ext.refl wr).drew (fun hSg4q0=>?_);refine rgT 0 ?_;refine rgC 1 (fun K hK=>?_);go_simp;go_at_call 59;refine(HAC.o _ (HXL.o.trans (Ext.refl wr).drew)).mono ?_;rintro e5 w5 ⟨rfl,hx5⟩;have HX5:=hid hx5.drew_left;clear hx5;refine rgK hK (HEL.o _ HX5.o) (fun hSg4q1=>?_);clear hK K;refine Qp 2 3 4 5 6 7 ?_;refine rgC 8 (fun K hK=>?_);go_simp;go_at_call 59;refine(HAE.o _ HX5.o).mono ?_;rintro e6 w6 ⟨rfl,hx6⟩;have HX6:=hid (HX5.o.trans hx6);clear hx6;refine rgK hK (HEL.o _ HX6.o) (fun hSg4q2=>?_);clear hK K;refine Qp 9 10 11 12 13 14 ?_;refine Qp 15 16 17 18 19 20 ?_;refine Qp 21 22 23 24 25 26 ?_;refine Qp 27 28 29 30 31 32 ?_;refine Zd 33 34 35 ?_;refine Qc 36 37 38 39 ?_;refine Qc 40 41 42 43 ?_;refine rgU 44 ?_;refine rgT 45 ?_;refine wpAnyH_done (by kernel_rfl) ?_ _
            go_wp2
            first
             |go_roundw
             |refine⟨?rel, ?measure⟩
            case rel=>
             refine⟨i+1,by omega,by go_num,hid (HXL.o.trans HX6.o),hid (fun j e hj he h=>?_)⟩;by_cases hji:j=i
             ·subst hji;rw[HCv.o]at he;cases he;obtain⟨q1,q2,q3,q4,q5⟩:=h;exact H4.o q4
             ·exact HDN.o j e (by omega) he ⟨(by first|exact h.1|simp),h.2⟩
            case measure=>simp [intOf];omega
          ·have g3:((qv:Int) == (px:Int))=false:=by simp;omega
           have H3:=hid h3;clear h3;refine rgH HEL.o (Ext.refl wr).drew (fun hSg5q0=>?_);refine rgT 0 ?_;refine rgC 1 (fun K hK=>?_);go_simp;go_at_call 59;refine(HAC.o _ (HXL.o.trans (Ext.refl wr).drew)).mono ?_;rintro e5 w5 ⟨rfl,hx5⟩;have HX5:=hid hx5.drew_left;clear hx5;refine rgK hK (HEL.o _ HX5.o) (fun hSg5q1=>?_);clear hK K;refine Qp 2 3 4 5 6 7 ?_;refine rgC 8 (fun K hK=>?_);go_simp;go_at_call 59;refine(HAE.o _ HX5.o).mono ?_;rintro e6 w6 ⟨rfl,hx6⟩;have HX6:=hid (HX5.o.trans hx6);clear hx6;refine rgK hK (HEL.o _ HX6.o) (fun hSg5q2=>?_);clear hK K;refine Qp 9 10 11 12 13 14 ?_;refine Qp 15 16 17 18 19 20 ?_;refine QB 21 22 23 24 ?_;refine Qc 25 26 27 28 ?_;refine Qc 29 30 31 32 ?_;refine rgU 33 ?_;refine QJ 34 35 ?_;refine Qc 36 37 38 39 ?_;refine Qc 40 41 42 43 ?_;refine rgU 44 ?_;refine rgT 45 ?_;refine wpAnyH_done (by kernel_rfl) ?_ _
           go_wp2
           first
            |go_roundw
            |refine⟨?rel, ?measure⟩
           case rel=>
            refine⟨i+1,by omega,by go_num,hid (HXL.o.trans HX6.o),hid (fun j e hj he h=>?_)⟩;by_cases hji:j=i
            ·subst hji;rw[HCv.o]at he;cases he;obtain⟨q1,q2,q3,q4,q5⟩:=h;exact H3.o (HVV.o.2 q3)
            ·exact HDN.o j e (by omega) he ⟨(by first|exact h.1|simp),h.2⟩
           case measure=>simp [intOf];omega
       ·have j5:¬(i:Int)<(k:Int):=by omega
        have HNO:Hid (¬((kdu=1/\ctu.kind≠0)\/(y=true/\ou<0))):=hid (fun h=>absurd (HB.o.2 h) (by simp))
        have HND:Hid (∀(P:Prop),(QQ ⟨kdu,(au:Int),cbu,ou,wdu,ctu⟩=true->¬(Rec l ⟨kdu,(au:Int),cbu,ou,wdu,ctu⟩/\Xg l ⟨kdu,(au:Int),cbu,ou,wdu,ctu⟩ 2/\Xg l ⟨kdu,(au:Int),cbu,ou,wdu,ctu⟩ 3))->
          (QQ ⟨kdu,(au:Int),cbu,ou,wdu,ctu⟩=true->¬(¬Q9 l cbu/\∃t,X2 l ⟨kdu,(au:Int),cbu,ou,wdu,ctu⟩ t/\Xq t 0 4≠some t))->xQ l X k ⟨kdu,(au:Int),cbu,ou,wdu,ctu⟩->P):=hid (fun P n1 n2 h=>by
         rcases h with h|h|⟨h1,j,e,h3,h4,h5,h6,h7,h8⟩|h|h
         ·exact absurd (.inl h) HNO.o
         ·exact absurd (.inr ⟨by rw[<-HY.o];exact h.1,h.2⟩) HNO.o
         ·exact absurd ⟨by rw[<-HY.o];exact h1,h5,h6,h7,h8⟩ (HDN.o j e (by omega) h4)
         ·exact absurd h.2 (n1 h.1)
         ·exact absurd h.2 (n2 h.1))
        clear HB HDN HNO
        go_wp2_with fail
        refine(HWC.o _ HXL.o).mono ?_;rintro e7 w7 ⟨rfl,hx7⟩;have HX7:=hid (HXL.o.trans hx7);have b0:=hx7.cell b0;have b1:=hx7.cell b1;have b2:=hx7.cell b2;clear hx7 c0 c1 c2 c3 c4 c5 c6 c7 c8 c9;obtain⟨zw,hzw⟩:=Qg (QQ ⟨kdu,(au:Int),cbu,ou,wdu,ctu⟩);rw[hzw];have HZW:=hid hzw;clear hzw
        cases zw with
        | false=>
         clear b0 b1 b2
         go_wp2
         first
          |go_roundw
          |refine⟨?rel, ?measure⟩
         case rel=>
          refine⟨k+1,by omega,by go_num,hid HXR.o.trans HX7.o,hid (HST.o (fun h=>?_))⟩;exact HND.o _ (fun q=>by rw[HZW.o]at q;cases q) (fun q=>by rw[HZW.o]at q;cases q) h.2
         case measure=>simp [intOf];omega
        | true =>
         have HP7:=hid (HS.o.ext (HXR.o.trans HX7.o));have HRC:=hid (mJ HP7.o k h1 _ HCu.o HZW.o);have HU:=hid (fun(w':World) (hw:Ext w7 w') (kind:Int)=>uQ (HP7.o.ext hw) k h1 kind _ HCu.o);have HB7:=hid (Ext.hc3 b0 b1 b2);go_upto_region 14 with fail
         go_cut [115] from 103 to 114 (fun s wx=>∃b:Bool,s= .bool b/\Hid (b=true↔(Rec l ⟨kdu,(au:Int),cbu,ou,wdu,ctu⟩/\Xg l ⟨kdu,(au:Int),cbu,ou,wdu,ctu⟩ 2/\Xg l ⟨kdu,(au:Int),cbu,ou,wdu,ctu⟩ 3))/\Hid (Ext w7 wx))
         case rest=>
          obtain⟨b,rfl,HB14,HX8⟩:=hcut;obtain⟨V8,hV8⟩:∃V8,V8=wc:=⟨_,rfl⟩;obtain rfl:=hV8;clear b0 b1 b2 HRC HU
          cases b with
          |true=>
           go_wp2
           go_ret;exact ZK.of ⟨fun _=>qk.2 ⟨k,_,HCu.o,HVX.o,.inr (.inr (.inr (.inl ⟨HZW.o,HB14.o.1 (by simp)⟩)))⟩,fun _=>rfl⟩ (HE0.o.trans (HXR.o.trans (HX7.o.trans HX8.o)))
          | false=>
           have HXA:=hid (HXR.o.trans (HX7.o.trans HX8.o));have HP8:=hid (HP7.o.ext HX8.o);obtain⟨nk,hnk⟩:=Qg (n+k);have HNK:=hid hnk;obtain⟨bB',oB',hh,yk⟩:=(HP8.o).lab (x:=nk) (by omega);injection hh with hh
           injection hh with h2 h3
           subst h2 h3;have hnv:Zz l n nk=cbu:=by rw[<-hnk];exact KG HCu.o HZW.o
           have HLI:=hid (pD HS.o.cls HS.o.ok (x:=nk) (by have:=HM.o;omega));rw[hnv]at HLI;obtain⟨pn,hpn⟩:=Qg (QW C nk);rw[hpn]at yk HLI;have HIP:=hid (fun(w':World) (hw:Ext V8 w')=>vD (HP8.o.ext hw) pn);have i5:IntKind.i64.wrap ((n:Int)+(k:Int))=(nk:Int):=by rw[IntWalk.i64_in _ (by omega)];omega
           have i6:(0:Int)<=(nk:Int):=by omega
           have i7:(nk:Int)<(N:Int):=by have:=HNM.o;omega
           have hnk2:nk<n+m:=by omega
           have HEL2:=hid (fun(w':World) (hh:Ext V8 w')=>(show(w'.cell? ⟨w.heap.size,0,none⟩=some (.slice (some ⟨bA,oA,none⟩) m me)/\w'.cell? ⟨w.heap.size,1,none⟩=some (.int .i64 n)/\w'.cell? ⟨w.heap.size,2,none⟩=some (.slice (some ⟨bB,oB,none⟩) N f))/\w'.cell? ⟨bB,oB+nk,none⟩=some (.int .i64 pn) from⟨HB7.o _ (HX8.o.trans hh),hh.cell yk⟩));clear hnk hnv hpn yk
           go_wp2_with fail
           refine rgH HEL2.o (Ext.refl V8).drew (fun hSg6q0=>?_);refine Qp 0 1 2 3 4 5 ?_;refine Zd 6 7 8 ?_;refine rgC 9 (fun K hK=>?_);go_simp;go_at_call 35;refine(HIP.o _ (Ext.refl V8).drew).mono ?_;rintro e9 w9 ⟨b9,rfl,hb9,hx9⟩;have HX9:=hid hx9.drew_left;have HB9:=hid hb9;clear hx9 hb9;refine rgK hK (HEL2.o _ HX9.o) (fun hSg6q1=>?_);clear hK K;refine rgT 10 ?_;refine wpAnyH_done (by kernel_rfl) ?_ _
           cases b9 with
           | true=>
            go_wp2
            first
             |go_roundw
             |refine⟨?rel, ?measure⟩
            case rel=>
             refine⟨k+1,by omega,by go_num,hid HXA.o.trans HX9.o,hid (HST.o (fun h=>?_))⟩;exact HND.o _ (fun _ q=>absurd (HB14.o.2 q) (by simp)) (fun _ q=>q.1 (HLI.o.1 (HB9.o.1 (by simp)))) h.2
            case measure=>simp [intOf];omega
           | false=>
            have HNP:=hid (show ¬Q9 l cbu from fun q=>absurd (HB9.o.2 (HLI.o.2 q)) (by simp));have HSC:=hid (vG (HP8.o.ext HX9.o) nk hnk2);obtain⟨⟨b0,b1,b2⟩, -⟩:=HEL2.o _ HX9.o
            go_wp2_with fail
            refine HSC.o.mono ?_;rintro e10 w10 ⟨v10,t,rfl,ht,hv10,hx10⟩;have HTC:=hid (uy HS.o.ok HCu.o HZW.o (by rw[HNK.o];exact ht));have HV10:=hid hv10.all;obtain⟨A10,n10,c10,B10,m10,e10,rfl, -⟩:=hv10;have HXB:=hid (HXA.o.trans (HX9.o.trans hx10));clear hx10 ht b0 b1 b2;obtain⟨W1t,hW1t⟩:=Qg ((w10).alloc (.cells #[.int .i64 0,.int .i64 0,.int .i64 0,.slice none 0 0,.slice none 0 0] 42));have hB1:Qm W1t (w10).heap.size (.int .i64 0) (.int .i64 0) (.int .i64 0) (.slice none 0 0) (.slice none 0 0):=by rw[<-hW1t];exact Qm.new w10 _ _ _ _ _ _
            have hE1:Ext (w10) W1t:=by rw[<-hW1t];exact(Ext.refl _).alloc _
            obtain⟨W2t,hW2,hB2,hH2,hS2,hX2⟩:=QK hB1 (.int .i64 (t).kind) (.int .i64 (t).size) (.int .i64 (t).count) (.slice A10 n10 c10) (.slice B10 m10 e10);have HXBt:=hid (hX2 (w10) hE1 (Nat.le_refl _));have HWBt:=hid hW2;have HBBt:=hid hB2;obtain⟨z0,z1,z2,z3,z4,zf⟩:=hB1;have y0:=zf 0;have y1:=zf 1;have y2:=zf 2;have y3:=zf 3;have y4:=zf 4;clear hW2 hB2 hH2 hS2 hX2 hE1 zf;go_upto_region 18 with fail
            rw[HWBt.o];clear z0 z1 z2 z3 z4 y0 y1 y2 y3 y4 hW1t;obtain⟨s0t,s1t,s2t,s3t,s4t, -⟩:=HBBt.o;have HFA:=hid (sQ d W2t W2t t _ 0 4 (Ext.refl _) (HV10.o.ext HXBt.o) (by unfold Qy;omega))
            go_wp2_with fail
            refine HFA.o.mono ?_;rintro e11 w11 ⟨v11,b11,x11,rfl,hv11,hx11,ho11⟩;have HV11:=hid (hv11.ext hx11);have HO11:=hid ho11;obtain⟨A11,n11,c11,B11,m11,e11,rfl, -⟩:=hv11;have s0t:=hx11.cell s0t;have s1t:=hx11.cell s1t;have s2t:=hx11.cell s2t;have s3t:=hx11.cell s3t;have s4t:=hx11.cell s4t;have HVT:=hid (HV10.o.ext (HXBt.o.trans hx11));have HXD:=hid (HXB.o.trans (HXBt.o.trans hx11));clear hx11 ho11;obtain⟨W1f,hW1f⟩:=Qg ((w11).alloc (.cells #[.int .i64 0,.int .i64 0,.int .i64 0,.slice none 0 0,.slice none 0 0] 42));have hB1:Qm W1f (w11).heap.size (.int .i64 0) (.int .i64 0) (.int .i64 0) (.slice none 0 0) (.slice none 0 0):=by rw[<-hW1f];exact Qm.new w11 _ _ _ _ _ _
            have hE1:Ext (w11) W1f:=by rw[<-hW1f];exact(Ext.refl _).alloc _
            obtain⟨W2f,hW2,hB2,hH2,hS2,hX2⟩:=QK hB1 (.int .i64 (x11).kind) (.int .i64 (x11).size) (.int .i64 (x11).count) (.slice A11 n11 c11) (.slice B11 m11 e11);have HXBf:=hid (hX2 (w11) hE1 (Nat.le_refl _));have HWBf:=hid hW2;have HBBf:=hid hB2;obtain⟨z0,z1,z2,z3,z4,zf⟩:=hB1;have y0:=zf 0;have y1:=zf 1;have y2:=zf 2;have y3:=zf 3;have y4:=zf 4;clear hW2 hB2 hH2 hS2 hX2 hE1 zf;have s0t:=HXBf.o.cell s0t;go_upto_region 19 with fail
            rw[HWBf.o];clear z0 z1 z2 z3 z4 y0 y1 y2 y3 y4 hW1f;obtain⟨s0f,s1f,s2f,s3f,s4f, -⟩:=HBBf.o;have s1t:=HXBf.o.cell s1t;have s2t:=HXBf.o.cell s2t;have s3t:=HXBf.o.cell s3t;have s4t:=HXBf.o.cell s4t;have HXE:=hid (HXD.o.trans HXBf.o)
            cases b11 with
            |false=>
             have HNF:Hid (Xq t 0 4≠some t):=hid (fun q=>by rcases HO11.o with h|h;cases h.1;rw[h.2]at q;cases q)
             go_wp2
             go_ret;exact ZK.of ⟨fun _=>qk.2 ⟨k,_,HCu.o,HVX.o,.inr (.inr (.inr (.inr ⟨HZW.o,HNP.o,t,HTC.o,HNF.o⟩)))⟩,fun _=>rfl⟩ (HE0.o.trans (HXE.o))
            | true=>
             have HFT:Hid (Xq t 0 4=some x11):=hid (HO11.o.elim (fun h=>h.2) (fun h=>by cases h.1));have HSM:=hid (jx d W2f x11 t _ _ (HV11.o.ext HXBf.o) (HVT.o.ext HXBf.o))
             go_wp2_with fail
             refine HSM.o.mono ?_;rintro e12 w12 ⟨rfl,hx12⟩;have HXF:=hid (HXE.o.trans hx12);obtain⟨sm,hsm⟩:=Qg (ZC x11 t);rw[hsm];have HSS:=hid hsm;clear hsm hx12 s0t s1t s2t s3t s4t s0f s1f s2f s3f s4f
             cases sm with
             |false=>
              have HNF:Hid (Xq t 0 4≠some t):=hid (fun q=>by rw[HFT.o]at q;cases q;rw[(Vp _ _).2 rfl]at HSS;cases HSS.o)
              go_wp2
              go_ret;exact ZK.of ⟨fun _=>qk.2 ⟨k,_,HCu.o,HVX.o,.inr (.inr (.inr (.inr ⟨HZW.o,HNP.o,t,HTC.o,HNF.o⟩)))⟩,fun _=>rfl⟩ (HE0.o.trans (HXF.o))
             | true=>
              have HEQ:Hid (Xq t 0 4=some t):=hid (by rw[HFT.o,(Vp _ _).1 HSS.o])
              go_wp2
              first
               |go_roundw
               |refine⟨?rel, ?measure⟩
              case rel=>
               refine⟨k+1,by omega,by go_num,hid HXF.o,hid (HST.o (fun h=>?_))⟩;exact HND.o _ (fun _ q=>absurd (HB14.o.2 q) (by simp)) (fun _ q=>by obtain⟨u,hu,hn⟩:=q.2;rw[hu.unique HTC.o]at hn;exact hn HEQ.o) h.2
              case measure=>simp [intOf];omega
         go_wp2_with fail
         refine HRC.o.mono ?_;rintro e8 w8 ⟨r1,rfl,hr1,hx8⟩;have b0:=hx8.cell b0;have b1:=hx8.cell b1;have b2:=hx8.cell b2;have HX8:=hid hx8;have HR1:=hid hr1;clear hx8 hr1
         cases r1 with
         |false=>
          clear b0 b1 b2
          go_wp2
          go_meet;exact⟨false,rfl,hid ⟨fun h=>(by cases h),fun h=>absurd (HR1.o.2 h.1) (by simp)⟩,HX8⟩
         | true=>
          go_wp2_with fail
          refine(HU.o _ HX8.o 2).mono ?_;rintro e8 w9 ⟨r2,rfl,hr,hx8⟩;have b0:=hx8.cell b0;have b1:=hx8.cell b1;have b2:=hx8.cell b2;have HX8:=hid (HX8.o.trans hx8);have HR2:=hid hr;clear hx8 hr
          cases r2 with
          |false=>
           clear b0 b1 b2
           go_wp2
           go_meet;exact⟨false,rfl,hid ⟨fun h=>(by cases h),fun h=>absurd (HR2.o.2 h.2.1) (by simp)⟩,HX8⟩
          |true=>
           go_wp2_with fail
           refine(HU.o _ HX8.o 3).mono ?_;rintro e8 w9 ⟨r3,rfl,hr,hx8⟩;have b0:=hx8.cell b0;have b1:=hx8.cell b1;have b2:=hx8.cell b2;have HX8:=hid (HX8.o.trans hx8);have HR3:=hid hr;clear hx8 hr;clear b0 b1 b2
           go_wp2
           go_meet;exact⟨r3,rfl,hid ⟨fun h=>⟨HR1.o.1 (by simp),HR2.o.1 (by simp),HR3.o.1 h⟩,fun h=>HR3.o.2 h.2.2⟩,HX8⟩
    clear b0 b1 b2;by_cases e1:kdu=1
    ·have g1:(kdu == 1)=true:=by simp[e1]
     by_cases e2:ctu.kind=0
     ·have g2:(ctu.kind != 0)=false:=by simp[e2]
      have E2:=hid e2;clear e1 e2
      go_wp2_with fail
      refine(HAC.o _ (Ext.refl V)).mono ?_;rintro e5 w5 ⟨rfl,hx5⟩;have c3:=hx5.cell c3;have HX5:=hid hx5;clear hx5 c0 c1 c2 c4 c5 c6 c7 c8 c9
      cases y with
      |false=>
       go_wp2
       go_meet;exact⟨false,rfl,hid ⟨fun h=>(by cases h),fun h=>h.elim (fun h=>absurd E2.o h.2) (fun h=>(by cases h.1))⟩,HX5⟩
      |true=>
       obtain⟨r,g3⟩:=Qg (decide (ou<0));have HR3:Hid (r=true↔ou<0):=hid (by rw[<-g3];simp)
       go_wp2
       go_meet;exact⟨r,rfl,hid ⟨fun h=> .inr ⟨by simp,HR3.o.1 h⟩,fun h=>h.elim (fun h=>absurd E2.o h.2) (fun h=>HR3.o.2 h.2)⟩,HX5⟩
     ·have g2:(ctu.kind != 0)=true:=by simp[e2]
      have E1:=hid e1;have E2:=hid e2;clear e1 e2
      go_wp2
      go_meet;exact⟨true,rfl,hid ⟨fun _=> .inl ⟨E1.o,E2.o⟩,fun _=>rfl⟩,hid (Ext.refl _)⟩
    ·have g1:(kdu == 1)=false:=by simp[e1]
     have E1:=hid e1;clear e1
     go_wp2_with fail
     refine(HAC.o _ (Ext.refl V)).mono ?_;rintro e5 w5 ⟨rfl,hx5⟩;have c3:=hx5.cell c3;have HX5:=hid hx5;clear hx5 c0 c1 c2 c4 c5 c6 c7 c8 c9
     cases y with
     |false=>
      go_wp2
      go_meet;exact⟨false,rfl,hid ⟨fun h=>(by cases h),fun h=>h.elim (fun h=>absurd h.1 E1.o) (fun h=>(by cases h.1))⟩,HX5⟩
     |true=>
      obtain⟨r,g3⟩:=Qg (decide (ou<0));have HR3:Hid (r=true↔ou<0):=hid (by rw[<-g3];simp)
      go_wp2
      go_meet;exact⟨r,rfl,hid ⟨fun h=> .inr ⟨by simp,HR3.o.1 h⟩,fun h=>h.elim (fun h=>absurd h.1 E1.o) (fun h=>HR3.o.2 h.2)⟩,HX5⟩
   ·have g0:((pa:Int) != (px:Int))=true:=by simp;omega
    have HP:=hid hp;clear hp
    go_wp2
    first
     |go_roundw
     |refine⟨?rel, ?measure⟩
    case rel=>
     refine⟨k+1,by omega,by go_num,hid HXR.o,hid (HST.o (fun h=>?_))⟩;exact HP.o (HVE.o.2 h.1)
    case measure=>simp [intOf];omega
  ·obtain rfl:k=m:=by omega
   have i1:¬(k:Int)<(k:Int):=by omega
   have b0:=HX.o.cell HB0.o
   go_wp2
   go_ret;refine ZK.of ⟨fun h=>(by cases h),fun h=>?_⟩ (HE0.o.trans HX.o);obtain⟨j,c,hc,h⟩:=qk.1 h;exact absurd h (HF.o j c (by have:=(Qz hc).1;have:=HM.o;omega) hc)
end
end Go.Proofs.YtlmipgdnlfjpaaaGreat
