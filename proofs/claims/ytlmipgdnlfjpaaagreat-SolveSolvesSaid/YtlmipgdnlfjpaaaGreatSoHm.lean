/- Lemmas of mine, merged. -/
import Derived.Test.YtlmipgdnlfjpaaaGreatCelm
set_option linter.unusedSimpArgs false
set_option linter.unusedVariables false
namespace Go.Proofs.YtlmipgdnlfjpaaaGreat
open Go.RowKit Go.Deco Go.Maps
set_option maxRecDepth 100000 in
set_option maxHeartbeats 16000000 in
theorem sZ (d:Nat) (w:World) (A:Option Addr) (m e:Nat) (l:List Con) (n:Nat) (hs:Sl (Zf (tyR d)) w All (.slice A m e) l) (hn:n<=65536) (hm:m<=65536) (hok:∀c∈l,OkC n c):Calls Tryz.prog 26 #[.slice A m e,.int .i64 n] w (D9 (.slice A m e) l n w):=by
 have hlen:=hs.len;obtain⟨hc1,hc2⟩:=hs.cap;obtain⟨b0,hb0⟩:=Qg (w.heap.size);obtain⟨W1,hW1⟩:=Qg ((((((w.alloc (.map #[] 0)).alloc (.map #[] 0)).alloc (.map #[] 0)).alloc (.map #[] 0)).alloc (.map #[] 0)).alloc (.cells #[.slice A m e,.int .i64 n,.slice none 0 0,.map none,.map (some (b0+1+1+1+1)),.map (some (b0+1+1+1)),.slice none 0 0,.slice none 0 0,.map (some b0),.map (some (b0+1)),.map (some (b0+1+1))] 75));have hE1:Ext w W1:=by rw[<-hW1];exact((((((Ext.refl w).alloc _).alloc _).alloc _).alloc _).alloc _).alloc _
 have hBX:Zg W1 (b0+1+1+1+1+1) (svL (.slice A m e) n b0 (b0+1) (b0+1+1) (b0+1+1+1) (b0+1+1+1+1) (.slice none 0 0) (.map none) (.slice none 0 0) (.slice none 0 0)):=by
  rw[<-hW1];have h:=Zg.new (((((w.alloc (.map #[] 0)).alloc (.map #[] 0)).alloc (.map #[] 0)).alloc (.map #[] 0)).alloc (.map #[] 0)) (svL (.slice A m e) n b0 (b0+1) (b0+1+1) (b0+1+1+1) (b0+1+1+1+1) (.slice none 0 0) (.map none) (.slice none 0 0) (.slice none 0 0)) 75;simp only[World.size_alloc,hb0]at h;exact h
 have hM1:MapG (QG Tryz.underlying3) W1 b0 0 (fun _=>none):=by
  rw[<-hW1,<-hb0];exact((((((MapG.made (QG Tryz.underlying3) w).ext ((Ext.refl _).alloc _)).ext ((Ext.refl _).alloc _)).ext ((Ext.refl _).alloc _)).ext ((Ext.refl _).alloc _)).ext ((Ext.refl _).alloc _))
 have hM2:MapG (QG Tryz.underlying3) W1 (b0+1) 0 (fun _=>none):=by
  rw[<-hW1];have h:=MapG.made (QG Tryz.underlying3) (w.alloc (.map #[] 0));simp only[World.size_alloc,hb0]at h;exact((((h.ext ((Ext.refl _).alloc _)).ext ((Ext.refl _).alloc _)).ext ((Ext.refl _).alloc _)).ext ((Ext.refl _).alloc _))
 have hM3:MapG (QG Tryz.underlying3) W1 (b0+1+1) 0 (fun _=>none):=by
  rw[<-hW1];have h:=MapG.made (QG Tryz.underlying3) ((w.alloc (.map #[] 0)).alloc (.map #[] 0));simp only[World.size_alloc,hb0]at h;exact(((h.ext ((Ext.refl _).alloc _)).ext ((Ext.refl _).alloc _)).ext ((Ext.refl _).alloc _))
 have hM4:MapG (QG Tryz.underlying3) W1 (b0+1+1+1) 0 (fun _=>none):=by
  rw[<-hW1];have h:=MapG.made (QG Tryz.underlying3) (((w.alloc (.map #[] 0)).alloc (.map #[] 0)).alloc (.map #[] 0));simp only[World.size_alloc,hb0]at h;exact((h.ext ((Ext.refl _).alloc _)).ext ((Ext.refl _).alloc _))
 have hM5:MapG (QG Tryz.underlying3) W1 (b0+1+1+1+1) 0 (fun _=>none):=by
  rw[<-hW1];have h:=MapG.made (QG Tryz.underlying3) ((((w.alloc (.map #[] 0)).alloc (.map #[] 0)).alloc (.map #[] 0)).alloc (.map #[] 0));simp only[World.size_alloc,hb0]at h;exact h.ext ((Ext.refl _).alloc _)
 have HSZ:Hid (W1.heap.size=b0+6):=hid (by rw[<-hW1];simp[hb0]);have HE1:=hid hE1;have HW1:=hid hW1;have HBX:=hid hBX;have HM1:=hid hM1;have HM2:=hid hM2;have HM3:=hid hM3;have HM4:=hid hM4;have HM5:=hid hM5;have HS:=hid hs;have HL:=hid hlen;have HOK:=hid hok;have HB0:=hid hb0;clear hs hlen hok hE1 hW1 hBX hM1 hM2 hM3 hM4 hM5;have hmm:=@run_makeMap Tryz.prog;have hqm:∀(w:World) (r:Option Nat),(binOp .eql 93 (.map r) (.map none)).run Tryz.prog w= .ok (.bool r.isNone) w:=fun w r=>run_eql_map_nil w _ _ _ r Tryz.underlying93;go_enter Tryz.func26,Tryz.ntmps26;go_upto_region 2 with fail
 rw[HW1.o];clear hb0;generalize hsb:b0+1+1+1+1+1=sb at HBX ⊢;generalize hob:b0+1+1+1+1=ob at HBX HM5 ⊢;generalize hdb:b0+1+1+1=db at HBX HM4 ⊢;generalize hrb:b0+1+1=rb at HBX HM3 ⊢;generalize hcb:b0+1=cb at HBX HM2 ⊢;have HNM:Hid (cb=b0+1/\rb=b0+2/\db=b0+3/\ob=b0+4/\sb=b0+5):=hid (by omega);clear hsb hob hdb hrb hcb HW1;have e1:IntKind.i64.wrap ((n:Int)+(m:Int))=(n:Int)+(m:Int):=IntWalk.i64_in _ (by omega)
 go_wp2_with fail
 clear e1
 go_loopw [29] (fun i wr=>∃(k:Nat) (PA:Option Addr) (cap:Nat),k<=n+m/\i= .int .i64 k/\Hid (Qf QF wr (b0+6) 3 No (.slice PA k cap) (List.range k))/\Hid (Zg wr sb (svL (.slice A m e) n b0 cb rb db ob (.slice PA k cap) (.map none) (.slice none 0 0) (.slice none 0 0)))/\Hid (Chg (fun b=>b=sb) W1 wr)) (fun i _=>n+m - (intOf i).toNat)
 case atStart=>exact⟨0,none,0,by omega,rfl,hid Qf.nil,HBX,hid (Chg.refl _ _)⟩
 case round =>
  obtain⟨k,PA,cap,hk,rfl,HO,HB,HC⟩:=hrel;by_cases h1:k<n+m
  ·have i1:(k:Int)<(n:Int)+(m:Int):=by omega
   have c2:=HB.o.1 2 _ rfl
   go_wp2_with (first
    |(at_builtin;refine Yg rfl (.tmp 36) (.tmp 38) rfl (b0+6) (.slice PA k cap) (List.range k) rfl (HO.o.ext ((Ext.refl wr).alloc _)) wr.heap.size k rfl (by simp[go_sem]) (by omega) (by simp;omega) (by have:=HC.o.size;have:=HSZ.o;simp;omega) ?_;intro A5 c5 w5 ho5 hg5 hl5;have HO5:=hid ho5;have HG5:=hid hg5;have HB5:=hid (DG HB.o hg5 (fun g hg=>(HO.o.block g hg).1) (by have:=HNM.o;omega));have c2:=HB5.o.1 2 _ rfl;have f2:=HB5.o.2.1 2;clear ho5 hg5 hl5)
    |fail)
   first
    |go_roundw
    |refine⟨?rel, ?measure⟩
   case rel=>
    have hl:(List.range k).length=k:=by simp
    have ho:=HO5.o;rw[hl]at ho;refine⟨k+1,A5,c5,by omega,by go_num,hid ?_,hid (HB5.o.put (i:=2) (by simp[svL]) _),hid (((HC.o.ext ((Ext.refl wr).alloc (.cells #[.int .i64 (k:Int)] 3))).trans' (Chg.of_grown' (M:=fun b=>b0+6<=b) HG5.o (fun b hb=>(HO.o.block b hb).1)) (fun b hb=> .inr (by rw[HSZ.o];exact hb))).set (p:=⟨sb,2,none⟩) _ rfl)⟩;rw[List.range_succ];exact ho.set_far (fun e=>by have h1:b0+6<=sb:=(ho.block _ e).1;have:=HNM.o;omega) (fun _ h=>h.elim)
   case measure=>simp [intOf];omega
  ·obtain rfl :k=n+m:=by omega
   have i1:¬((n+m:Nat):Int)<(n:Int)+(m:Int):=by omega
   have hpb:∃pb,b0+6<=pb/\X8 wr PA pb cap (n+m) (List.range (n+m)):=by
    rcases Nat.eq_zero_or_pos (n+m) with h0|h0
    ·exact⟨b0+6,Nat.le_refl _,by simp,jP _,.inl h0⟩
    ·obtain⟨g,rfl,hg1,hg2⟩:=HO.o.at0 h0;refine⟨g,hg1,by simp,jP _,.inr ⟨rfl, ?_,jP _,by simp;omega⟩⟩;rw[List.length_range];exact HO.o.lower (Nat.zero_le _)
   obtain⟨pb,hpb1,hpq⟩:=hpb;have HPB:=hid hpb1;have HPQ:=hid hpq;have HNE:Hid (sb≠pb):=hid (by have:=HNM.o;omega);have HX2:=hid (Chg.old HE1.o HC.o (fun b hb=>by have:=HNM.o;have:=HB0.o;omega));have HMS:=hid (And.intro (HC.o.map HM1.o (by have:=HNM.o;omega)) (And.intro (HC.o.map HM2.o (by have:=HNM.o;omega)) (And.intro (HC.o.map HM3.o (by have:=HNM.o;omega)) (And.intro (HC.o.map HM4.o (by have:=HNM.o;omega)) (HC.o.map HM5.o (by have:=HNM.o;omega))))));obtain⟨W2,hW2⟩:∃W2,W2=wr:=⟨_,rfl⟩;obtain rfl:=hW2;have HB2:=hid HB.o;clear hpb1 hpq i1 h1 hk HO HC HM1 HM2 HM3 HM4 HM5 HB HE1 HSZ
   go_wp2_with fail
   go_loopw [45] (fun i wr=>∃(k:Nat) (P:List Nat),k<=m/\i= .int .i64 k/\Hid (X8 wr PA pb cap (n+m) P)/\Hid (VQ l n (Qb P))/\Hid (Cl2 l n (Qb P) k)/\Hid (Chg (fun b=>b=pb) W2 wr)) (fun i _=>m - (intOf i).toNat)
   case atStart=>exact⟨0,List.range (n+m),by omega,rfl,HPQ,hid (tV (tK l n) (fun x=>tP _ x)),hid Cl2.start,hid (Chg.refl _ _)⟩
   case round =>
    obtain⟨k,P,hk,rfl,HP,HSO,HCL,HC⟩:=hrel;by_cases h1:k<m
    ·obtain⟨c,hc⟩:∃c,l[k]? =some c:=⟨_,Qq (by have:=HL.o;omega)⟩;have HXR:=hid (Chg.old HX2.o HC.o (fun b hb=>by have:=HPB.o;have:=HB0.o;omega));have HCC:=hid hc;have HCO:=hid (HOK.o c (Qx hc));obtain⟨d',bx,ox,P1,np1,cp1,P2,np2,cp2,hd,rfl,hv1,hbx, -⟩:=((HS.o.ext HXR.o)).con_at hc;have HCV:=hid hv1;obtain⟨x0,x1,x2,x3,x4,x5,x6,x7,x8,x9⟩:=hbx;obtain⟨W13,hW13⟩:=Qg ((wr).alloc (.cells #[.int .i64 0,.int .i64 0,.int .i64 0,.int .i64 0,.int .i64 0,.int .i64 0,.int .i64 0,.int .i64 0,.slice none 0 0,.slice none 0 0] 48));have hB1:Zg W13 (wr).heap.size ZW:=by rw[<-hW13];exact Zg.new wr ZW _
     have hE1:Ext wr W13:=by rw[<-hW13];exact(Ext.refl _).alloc _
     obtain⟨W23,hW2,hB2,hH2,hS2,hX2⟩:=Jj hB1 c P1 np1 cp1 P2 np2 cp2;have HXC3:=hid (hX2 wr hE1 (Nat.le_refl _));have HWC3:=hid hW2;have HBC3:=hid hB2;have z0:=hB1.1 0 _ rfl;have z1:=hB1.1 1 _ rfl;have z2:=hB1.1 2 _ rfl;have z3:=hB1.1 3 _ rfl;have z4:=hB1.1 4 _ rfl;have z5:=hB1.1 5 _ rfl;have z6:=hB1.1 6 _ rfl;have z7:=hB1.1 7 _ rfl;have z8:=hB1.1 8 _ rfl;have z9:=hB1.1 9 _ rfl;have y0:=hB1.2.1 0;have y1:=hB1.2.1 1;have y2:=hB1.2.1 2;have y3:=hB1.2.1 3;have y4:=hB1.2.1 4;have y5:=hB1.2.1 5;have y6:=hB1.2.1 6;have y7:=hB1.2.1 7;have y8:=hB1.2.1 8;have y9:=hB1.2.1 9;have HCV3:=hid (HCV.o.ext HXC3.o);clear hW2 hB2 hH2 hS2 hX2 hE1 hv1 HCV hB1;obtain⟨rfl,hpp⟩:=HP.o.pos (by omega);have HPP:=hid hpp;have HC5:=hid (HC.o.ext HXC3.o);have HB5:=hid (HB2.o.chg HC5.o (fun e=>HNE.o e));clear hc hpp;go_upto_region 10 with fail
     rw[HWC3.o];clear z0 z1 z2 z3 z4 z5 z6 z7 z8 z9 y0 y1 y2 y3 y4 y5 y6 y7 y8 y9 x0 x1 x2 x3 x4 x5 x6 x7 x8 x9 hW13;obtain⟨c0,c1,c2,c3,c4,c5,c6,c7,c8,c9⟩:=HBC3.o;rw[Nat.zero_add]at c1 c2 c3 c4 c5 c6 c7 c8 c9;obtain⟨kd,ca,cb',off,wd,ct⟩:=c;simp only at c0 c1 c2 c3 c4 c5 c6 c7 c8 c9 HCV3 HBC3 HWC3;have ha:=HCO.o.a0;obtain⟨an,rfl⟩:∃an:Nat,ca=an:=⟨ca.toNat,(Qk ha).symm⟩;have HLN:Hid (an<n/\l.length=m):=hid ⟨by have:=HCO.o.a1;simp at this;omega,HL.o.symm⟩;by_cases h2:kd=0
     ·have g2:(kd == 0)=true:=by simp[h2]
      have hb:=HCO.o.b0 (by simp[h2]);obtain⟨bn,rfl⟩:∃bn:Nat,cb'=bn:=⟨cb'.toNat,(Qk hb).symm⟩;have HLB:Hid (bn<n):=hid (by have:=HCO.o.b1 (by simp[h2]);simp at this;omega);have HU:=hid (pZ W23 sb pb cap P (HPP.o.ext HXC3.o) (by rw[HP.o.1];exact HB5.o.1 2 _ rfl) HNE.o an bn (by have:=HP.o.1;have:=HLN.o;omega) (by have:=HP.o.1;have:=HLB.o;omega));have HK0:=hid h2;clear h2 ha hb
      go_wp2_with fail
      refine HU.o.mono ?_;rintro e w6 ⟨rfl,P',hu,hp',hc'⟩;have HUN:=hid hu;have HP6:=hid hp';have HC6:=hid (HC5.o.trans hc');clear hu hp' hc' c0 c1 c2 c3 c4 c5 c6 c7 c8 c9
      go_wp2
      first
       |go_roundw
       |refine⟨?rel, ?measure⟩
      case rel=>
       refine⟨k+1,P',by omega,by go_num,hid ⟨HUN.o.len.trans HP.o.1,HUN.o.dn,.inr ⟨rfl,HP6.o⟩⟩,hid ?_,hid ?_,HC6⟩
       ·refine xD HSO.o (x0:=an) (y0:=bn) (by have:=HLN.o;omega) (by have:=HLN.o;have:=HLB.o;omega) ?_ HUN.o.root;rw[Z5 HLN.o.1,Z5 HLB.o];exact .sub (Qx HCC.o) HK0.o
       ·refine HCL.o.step HCC.o (jf HUN.o.root) (fun _=>dw HUN.o.root) (fun hw=>?_);exact absurd HK0.o (Zp hw).2.1
      case measure=>simp [intOf];omega
     ·have g2:(kd == 0)=false:=by simp[h2]
      have HK0:=hid h2;have HWD:=hid (ky d' W23 _ _ HCV3.o);obtain⟨wv,hwv⟩:=Qg (QQ ⟨kd,an,cb',off,wd,ct⟩);rw[hwv]at HWD;have HWV:=hid hwv;clear h2 ha hwv
      go_wp2_with fail
      refine HWD.o.mono ?_;rintro e w5 ⟨rfl,hx5⟩;have HX5:=hid (HXC3.o.trans hx5);have c2:=hx5.cell c2;clear hx5 c0 c1 c3 c4 c5 c6 c7 c8 c9
      cases wv with
      | false=>
       clear c2
       go_wp2
       first
        |go_roundw
        |refine⟨?rel, ?measure⟩
       case rel=>exact⟨k+1,P,by omega,by go_num,hid ((HP.o.ext HX5.o)),HSO,hid (HCL.o.step HCC.o (fun _ _ h=>h) (fun h=>absurd h HK0.o) (fun h=>by rw[HWV.o]at h;cases h)),hid (HC.o.ext HX5.o)⟩
       case measure=>simp [intOf];omega
      | true=>
       have hb:=HCO.o.b0 (Zp HWV.o).1;obtain⟨bn,rfl⟩:∃bn:Nat,cb'=bn:=⟨cb'.toNat,(Qk hb).symm⟩;have HLB:Hid (bn<n):=hid (by have:=HCO.o.b1 (Zp HWV.o).1;simp at this;omega)
       have HU:Hid (Calls Tryz.prog 48 #[.pointer (some ⟨sb,0,none⟩),.int .i64 ((n:Int)+(k:Int)),.int .i64 bn] w5 (yp w5 pb cap P (n+k) bn)):=hid (by
        rw[show((n:Int)+(k:Int))=((n+k:Nat):Int) by omega];exact pZ w5 sb pb cap P (HPP.o.ext HX5.o) (by rw[HP.o.1];exact(HB2.o.chg (HC.o.ext HX5.o) (fun e=>HNE.o e)).1 2 _ rfl) HNE.o (n+k) bn (by have:=HP.o.1;omega) (by have:=HP.o.1;have:=HLB.o;omega))
       have e1:IntKind.i64.wrap ((n:Int)+(k:Int))=(n:Int)+(k:Int):=IntWalk.i64_in _ (by omega);clear hb
       go_wp2_with fail
       refine HU.o.mono ?_;rintro e w6 ⟨rfl,P',hu,hp',hc'⟩;have HUN:=hid hu;have HP6:=hid hp';have HC6:=hid ((HC.o.ext HX5.o).trans hc');clear hu hp' hc' c2
       go_wp2
       first
        |go_roundw
        |refine⟨?rel, ?measure⟩
       case rel=>
        refine⟨k+1,P',by omega,by go_num,hid ⟨HUN.o.len.trans HP.o.1,HUN.o.dn,.inr ⟨rfl,HP6.o⟩⟩,hid ?_,hid ?_,HC6⟩
        ·refine xD HSO.o (x0:=n+k) (y0:=bn) (by have:=HLN.o;omega) (by have:=HLN.o;have:=HLB.o;omega) ?_ HUN.o.root;rw[Z5 HLB.o,KG HCC.o HWV.o];exact .refl _
        ·exact HCL.o.step HCC.o (jf HUN.o.root) (fun h=>absurd h HK0.o) (fun _=>dw HUN.o.root)
       case measure=>simp [intOf];omega
    ·obtain rfl:k=m:=by omega
     have i1:¬(k:Int)<(k:Int):=by omega
     have HX3:=hid (Chg.old HX2.o HC.o (fun b hb=>by have:=HPB.o;have:=HB0.o;omega));have HB3:=hid (HB2.o.chg HC.o (fun e=>HNE.o e));obtain⟨t1,t2,t3,t4,t5⟩:=HMS.o;have HM3:=hid (And.intro (HC.o.map t1 (by have:=HNM.o;have:=HPB.o;omega)) (And.intro (HC.o.map t2 (by have:=HNM.o;have:=HPB.o;omega)) (And.intro (HC.o.map t3 (by have:=HNM.o;have:=HPB.o;omega)) (And.intro (HC.o.map t4 (by have:=HNM.o;have:=HPB.o;omega)) (HC.o.map t5 (by have:=HNM.o;have:=HPB.o;omega))))));have HSZ3:Hid (b0+6<=wr.heap.size/\(0<n+k->pb<wr.heap.size)):=hid ⟨by have:=HB3.o.2.2;have:=HNM.o;omega,fun h=>(HP.o.pos h).2.lt⟩;obtain⟨W3,hW3⟩:∃W3,W3=wr:=⟨_,rfl⟩;obtain rfl:=hW3;clear t1 t2 t3 t4 t5 i1 HMS HC HB2 HX2 hk
     go_wp2_with fail
     go_loopw [9] (fun s9 wr=>∃(ch:Bool) (P:List Nat) (cv:Value),s9= .bool ch/\Hid (X8 wr PA pb cap (n+k) P)/\Hid (VQ l n (Qb P))/\Hid (Cl2 l n (Qb P) k)/\Hid (Zg wr sb (svL (.slice A k e) n b0 cb rb db ob (.slice PA (n+k) cap) cv (.slice none 0 0) (.slice none 0 0)))/\Hid (Chg (fun b=>b=pb\/b=sb) W3 wr)/\
      Hid (ch=false->∃cm nc fc,cv= .map (some cm)/\W3.heap.size<=cm/\nc<=k/\Zy plK wr cm cm nc fc (fun p=>if 0<=p.1.1 then X4 l (Qb P) (p.1.1.toNat,p.1.2) else [])/\kf l n (Qb P))) (fun s9 wr=>2 * xK wr pb (n+k)+(match s9 with| .bool true=>1|_=>0))
     case atStart=>exact⟨true,P,.map none,rfl,HP,HSO,HCL,HB3,hid (Chg.refl _ _),hid (fun h=>by cases h)⟩
     case round=>
      clear HP HSO HCL P HB3;obtain⟨ch,P,cv,rfl,HP,HSO,HCL,HB,HC,HFN⟩:=hrel
      cases ch with
      | false=>
       obtain⟨cm,nc,fc,rfl,hcm,hnc,hmo,hcl⟩:=HFN.o rfl;have HMOC:=hid hmo;have HCLS:=hid (bg HOK.o HSO.o hcl);have HCM:Hid (W3.heap.size<=cm/\nc<=k):=hid ⟨hcm,hnc⟩;obtain⟨W5,hW5⟩:∃W5,W5=wr:=⟨_,rfl⟩;obtain rfl:=hW5;have HX5:=hid (Chg.old HX3.o HC.o (fun b hb=>by have:=HPB.o;have:=HB0.o;have:=HNM.o;rcases hb with hb|hb <;> omega));obtain⟨t1,t2,t3,t4,t5⟩:=HM3.o;have hnb:∀b,b<b0+5->¬(b=pb\/b=sb):=fun b hb hh=>by have:=HPB.o;have:=HNM.o;omega
       have HM5:=hid (And.intro (HC.o.map t1 (hnb _ (by omega))) (And.intro (HC.o.map t2 (hnb _ (by have:=HNM.o;omega))) (And.intro (HC.o.map t3 (hnb _ (by have:=HNM.o;omega))) (And.intro (HC.o.map t4 (hnb _ (by have:=HNM.o;omega))) (HC.o.map t5 (hnb _ (by have:=HNM.o;omega)))))));obtain⟨lo,hlo⟩:=Qg (W5.heap.size);have HLO:Hid (W5.heap.size=lo/\cm<lo/\b0+6<=cm/\sb<lo/\(0<n+k->pb<cm)):=hid ⟨hlo,by have:=hmo.map.lt;omega,by have:=HSZ3.o;omega,by have:=HB.o.2.2;omega,fun h=>by have:=HSZ3.o.2 h;omega⟩;have HBP5:=hid HB.o;clear hcm hnc hmo hcl t1 t2 t3 t4 t5 hnb hlo HFN HC HM3 HX3 HSZ3 HSO HCL HB
       go_wp2_with fail
       go_loopw [123] (fun i wr=>∃(j:Nat) (PP:List Nat) (no nd:Nat) (fo:Int->Option Value) (ib:Int->Nat) (fi:Int->Int->Option Value),j<=k/\i= .int .i64 j/\no<=2 * j/\nd<=j/\Hid (XM P PP)/\Hid (X8 wr PA pb cap (n+k) PP)/\Hid (Z0 wr lo ob no fo ib fi (Zx l (Qb P) j))/\Hid ((∀q v,fo q=some v->∃o,Zx l (Qb P) j q o≠[])/\∀q,Full (fi q) (Zx l (Qb P) j q))/\Hid (MapG (QG Tryz.underlying3) wr db nd (VB l (Qb P) j))/\Hid (Chg (fun b=>(b=pb/\pb<cm)\/b=ob\/b=db) W5 wr)) (fun i _=>k - (intOf i).toNat)
       case atStart=>
        exact⟨0,P,0,0,_,_,_,by omega,rfl,by omega,by omega,hid (XM.refl HP.o.2.1),HP,hid ((Z0.made HM5.o.2.2.2.2 lo).same (fun q o=>oq q o)),hid ⟨fun q v h=>(by cases h),fun q o h=>absurd rfl h⟩,hid (HM5.o.2.2.2.1.same (fun q=>oG q)),hid (Chg.refl _ _)⟩
       case round=>
        obtain⟨j,PP,no,nd,fo,ib,fi,hj,rfl,hno,hnd,HSP,HPQ,HOM,HNF,HDM,HC⟩:=hrel;have hnbs:¬((sb=pb/\pb<cm)\/sb=ob\/sb=db):=fun hh=>by have:=HNE.o;have:=HNM.o;omega
        have HBX5:=hid (HBP5.o.chg HC.o hnbs);have HSZ5:Hid (lo<=wr.heap.size):=hid (by have:=HC.o.size;have:=HLO.o;omega);clear hnbs;by_cases h1:j<k
        ·obtain⟨c,hc⟩:∃c,l[j]? =some c:=⟨_,Qq (by have:=HL.o;omega)⟩;have HXR:=hid (Chg.old HX5.o HC.o (fun b hb=>by have:=HPB.o;have:=HB0.o;have:=HNM.o;rcases hb with hb|hb|hb <;> omega));have HCC:=hid hc;have HCO:=hid (HOK.o c (Qx hc));obtain⟨d',bx,ox,P1,np1,cp1,P2,np2,cp2,hd,rfl,hv1,hbx, -⟩:=((HS.o.ext HXR.o)).con_at hc;have HCV:=hid hv1;obtain⟨x0,x1,x2,x3,x4,x5,x6,x7,x8,x9⟩:=hbx;obtain⟨W17,hW17⟩:=Qg ((wr).alloc (.cells #[.int .i64 0,.int .i64 0,.int .i64 0,.int .i64 0,.int .i64 0,.int .i64 0,.int .i64 0,.int .i64 0,.slice none 0 0,.slice none 0 0] 48));have hB1:Zg W17 (wr).heap.size ZW:=by rw[<-hW17];exact Zg.new wr ZW _
         have hE1:Ext wr W17:=by rw[<-hW17];exact(Ext.refl _).alloc _
         obtain⟨W27,hW2,hB2,hH2,hS2,hX2⟩:=Jj hB1 c P1 np1 cp1 P2 np2 cp2;have HXC7:=hid (hX2 wr hE1 (Nat.le_refl _));have HWC7:=hid hW2;have HBC7:=hid hB2;have z0:=hB1.1 0 _ rfl;have z1:=hB1.1 1 _ rfl;have z2:=hB1.1 2 _ rfl;have z3:=hB1.1 3 _ rfl;have z4:=hB1.1 4 _ rfl;have z5:=hB1.1 5 _ rfl;have z6:=hB1.1 6 _ rfl;have z7:=hB1.1 7 _ rfl;have z8:=hB1.1 8 _ rfl;have z9:=hB1.1 9 _ rfl;have y0:=hB1.2.1 0;have y1:=hB1.2.1 1;have y2:=hB1.2.1 2;have y3:=hB1.2.1 3;have y4:=hB1.2.1 4;have y5:=hB1.2.1 5;have y6:=hB1.2.1 6;have y7:=hB1.2.1 7;have y8:=hB1.2.1 8;have y9:=hB1.2.1 9;have HCV7:=hid (HCV.o.ext HXC7.o);clear hW2 hB2 hH2 hS2 hX2 hE1 hv1 HCV hB1;obtain⟨hpa,hpp⟩:=HPQ.o.pos (by omega);have HPA:=hid hpa;have HPP:=hid hpp;have HPC:Hid (pb<cm/\cm<lo/\sb<lo/\lo<=wr.heap.size):=hid ⟨HLO.o.2.2.2.2 (by omega),HLO.o.2.1,HLO.o.2.2.2.1,HSZ5.o⟩;clear hc hpp hpa;go_upto_region 30 with fail
         rw[HWC7.o];clear z0 z1 z2 z3 z4 z5 z6 z7 z8 z9 y0 y1 y2 y3 y4 y5 y6 y7 y8 y9 x0 x1 x2 x3 x4 x5 x6 x7 x8 x9 hW17;obtain⟨c0,c1,c2,c3,c4,c5,c6,c7,c8,c9⟩:=HBC7.o;rw[Nat.zero_add]at c1 c2 c3 c4 c5 c6 c7 c8 c9;obtain⟨kd,ca,cb',off,wd,ct⟩:=c;simp only at c0 c1 c2 c3 c4 c5 c6 c7 c8 c9 HCV7 HBC7 HWC7;have ha:=HCO.o.a0;obtain⟨an,rfl⟩:∃an:Nat,ca=an:=⟨ca.toNat,(Qk ha).symm⟩;have HLN:Hid (an<n/\l.length=k):=hid ⟨by have:=HCO.o.a1;simp at this;omega,HL.o.symm⟩;have HWD:=hid (yb d' W27 _ _ HCV7.o);obtain⟨wv,hwv⟩:=Qg (QY ⟨kd,an,cb',off,wd,ct⟩);rw[hwv]at HWD;have HWV:=hid hwv;have HOF:=hid ((J3 (c:=⟨kd,(an:Int),cb',off,wd,ct⟩) HCV7.o).1.2.2.2.1);clear ha hwv
         go_wp2_with fail
         refine HWD.o.mono ?_;rintro e w5 ⟨rfl,hx5⟩;have HX5':=hid (HXC7.o.trans hx5);have HX5B:Hid (wr.heap.size<w5.heap.size):=hid (World.block_lt_of_cell? _ _ (hx5.cell c0));have c0:=hx5.cell c0;have c1:=hx5.cell c1;have c3:=hx5.cell c3;have c5:=hx5.cell c5;have HWN:Hid (lo<=wr.heap.size/\wr.heap.size≠pb):=hid ⟨HPC.o.2.2.2,by have:=HPC.o;omega⟩;have HF:=hid (fun w' (hw:Ext w5 w')=>zY w' sb pb cap PP (HPP.o.ext (HX5'.o.trans hw)) (by rw[HPQ.o.1,<-HPA.o];exact(HBX5.o.ext (HX5'.o.trans hw)).1 2 _ rfl) HNE.o an (by have:=HPQ.o.1;have:=HLN.o;omega));obtain⟨q,hq⟩:=Qg (Qb P an);have hq':Qb PP an=q:=by rw[HSP.o.root];exact hq
         have HQ:=hid hq;have HQL:Hid (q<n+k):=hid (by rw[<-hq];have:=xj HP.o.2.1 (k:=an) (by have:=HP.o.1;have:=HLN.o;omega);have:=HP.o.1;omega);have HQB:Hid (Qy (q:Int)):=hid (by unfold Qy;have:=HQL.o;omega);unfold kV at HF;rw[hq']at HF;clear hx5 c2 c4 c6 c7 c8 c9 hq hq'
         cases wv with
         | true=>
          clear c0 c5
          go_wp2_with fail
          refine(HF.o _ (Ext.refl _)).mono ?_;rintro e w6 ⟨rfl,P1,hs1,hp1,hc1⟩;have HS1:=hid (HSP.o.trans hs1);have HP1:=hid hp1;have HC1:=hid hc1;have HX5'':=hid HX5'.o;have hbx6:=(HBX5.o.ext HX5'.o).chg hc1 (fun e=>HNE.o e);have HBX6:=hid hbx6;have b4:=hbx6.1 4 _ rfl;have c3:=hc1.cell c3 (fun e=>HWN.o.2 e);have hom:=(HOM.o.ext HX5'.o).chg hc1 (fun e=>by have:=HPB.o;have:=HNM.o;omega) (fun b hb _ e=>by have:=HPC.o;omega);have HOM6:=hid hom;have HLK:=hid (fun(W:World) (f:Int->Option Value) (m:Nat) (h:MapG (QG Tryz.underlying3) W ob m f)=>YZ h HQB.o);clear hs1 hp1 hc1 hbx6 hom
          cases hfq:fo q with
          | none=>
           have HFQ:=hid hfq;have h6:=HLK.o w6 fo no HOM6.o.map;rw[hfq,Option.getD_none]at h6;have HL6:=hid h6;clear h6;clear hfq;have hma:=HOM6.o.map.ext ((Ext.refl w6).alloc (.map #[] 0));have HMA:=hid hma;clear hma
           go_wp2_with (first
            |((with_reducible refine Vy 68 (.tmp 137) (.tmp 138) rfl rfl ?_);refine Vf rfl (.tmp 137) (.tmp 138) 68 rfl HL6.o ?_)
            |(at_mapUpdate;refine jb _ rfl (.tmp 144) (.tmp 145) (.tmp 146) 68 rfl 93 Tryz.underlying68 (QG Tryz.underlying3) ob no fo rfl HMA.o (by unfold maxLen;omega) (q:Int) rfl HQB.o (.map (some w6.heap.size)) rfl ?_;intro w8 hm8 hg8;have HM8:=hid hm8;have HG8:=hid hg8;clear hm8 hg8)
            |fail)
           have hlo6:lo<=w6.heap.size:=by have:=HPC.o;have:=HX5''.o.size;have:=HC1.o.size;omega
           have hnew:=HOM6.o.new HFQ.o hlo6 (by have:=HNM.o;have:=HPC.o;omega) HM8.o HG8.o;have hcw:Chg (fun b=>b=ob) w6 w8:=(Chg.of_ext _ ((Ext.refl w6).alloc (.map #[] 0))).trans (Chg.of_grown HG8.o rfl);obtain⟨mb,hmb⟩:=Qg (w6.heap.size);rw[hmb]at hnew hlo6;obtain⟨fo8,hfo8⟩:=Qg ((fun j=>if j=(q:Int) then some (Value.map (some mb)) else fo j));obtain⟨ib8,hib8⟩:=Qg ((fun j=>if j=(q:Int) then mb else ib j));obtain⟨fi8,hfi8⟩:=Qg ((fun j=>if j=(q:Int) then (fun _=>none) else fi j));rw[hfo8,hib8,hfi8]at hnew;have HOM8:=hid hnew;have HFQ8:Hid (fo8 (q:Int)=some (.map (some mb))):=hid (by rw[<-hfo8];simp);have HMB8:Hid (ib8 (q:Int)=mb):=hid (by rw[<-hib8];simp)
           have HNF8:Hid ((∀q',q'≠(q:Int)->∀v,fo8 q'=some v->∃o,Zx l (Qb P) j q' o≠[])/\∀q',Full (fi8 q') (Zx l (Qb P) j q')):=hid ⟨fun q' hq' v hv=>by rw[<-hfo8]at hv;simp only[if_neg hq']at hv;exact HNF.o.1 q' v hv,fun q' o ho=>by
            rw[<-hfi8]at ho;by_cases hq':q'=(q:Int)
            ·simp[hq']at ho
            ·simp only[if_neg hq']at ho;exact HNF.o.2 q' o ho⟩
           have HRX8:Hid ((QM (fi8 (q:Int)) off).ownBlock≠some wr.heap.size):=hid (by rw[<-hfi8];simp[QM,Value.ownBlock]);have HB8:=hid (HBX6.o.chg hcw (fun e=>by have:=HNM.o;omega));have c3:=hcw.cell c3 (fun e=>by have h1:wr.heap.size=ob:=e;have:=HPC.o;have:=HNM.o;omega);have HPR8:=hid (HP1.o.chg hcw (fun e=>by have:=HPB.o;have:=HNM.o;omega));have HDM8:=hid (((HDM.o.ext HX5''.o).kept' HC1.o (by have:=HPB.o;have:=HNM.o;omega)).kept' hcw (by have:=HNM.o;omega));have HC8:=hid (((HC.o.ext HX5''.o).trans' HC1.o (fun b hb=> .inl (.inl ⟨hb,HPC.o.1⟩))).trans' hcw (fun b hb=> .inl (.inr (.inl hb))));have HLO8:Hid (lo<=w8.heap.size):=hid (by have:=hcw.size;omega);have HWL8:Hid (wr.heap.size<w8.heap.size):=hid (by have:=HC1.o.size;have:=hcw.size;have:=HX5B.o;omega);clear hlo6 hnew hcw hmb hfo8 hib8 hfi8 HL6 HMA HM8 HG8 b4;go_upto_region 34 with fail
           have HRN:Hid (∀g,(QM (fi8 (q:Int)) off).ownBlock=some g->lo<=g/\g<w8.heap.size):=hid (fun g hg=>((HOM8.o.yes _ _ HFQ8.o).2.2.row off).block g hg);have HMB9:Hid (lo<=mb/\mb<w8.heap.size):=hid (by have h:=HOM8.o.yes _ _ HFQ8.o;rw[HMB8.o]at h;exact⟨h.2.1,h.2.2.map.lt⟩)
           have HRM:Hid (∀g,(QM (fi8 (q:Int)) off).ownBlock=some g->g≠mb/\g≠ob/\g≠sb):=hid (fun g hg=>by
            have h:=HOM8.o.yes _ _ HFQ8.o;rw[HMB8.o]at h;have h1:=h.2.2.ne off hg;have h2:=(HRN.o g hg).1;have:=HPC.o;have:=HNM.o;exact⟨h1,by omega,by omega⟩)
           have HRW8:=hid (((HOM8.o.yes _ _ HFQ8.o).2.2.row off).ext (((Ext.refl w8).drew).alloc (.cells #[.int .i64 (j:Int)] 3)));have HLK1:=hid (fun(W:World) (hW:MapG (QG Tryz.underlying3) W ob (no+1) fo8)=>(show(Instr.lookup 68 (.map (some ob)) (.int .i64 (q:Int)) false).run Tryz.prog W= .ok (.map (some mb)) W from by rw[YZ hW HQB.o,HFQ8.o];rfl));have HLK2:=hid (fun(W:World) (hW:MapG (QG Tryz.underlying3) W mb (no+1) (fi8 (q:Int)))=>(show(Instr.lookup 93 (.map (some mb)) (.int .i64 off) false).run Tryz.prog W= .ok (QM (fi8 (q:Int)) off) W from yj hW HOF.o));have HMI8:Hid (MapG (QG Tryz.underlying3) w8 mb (no+1) (fi8 (q:Int))):=hid (by have h:=HOM8.o.yes _ _ HFQ8.o;rw[HMB8.o]at h;exact h.2.2.map);have HMO8:=hid HOM8.o.map;have b4:=HB8.o.1 4 _ rfl
           have HSA:=hid (show(w8.drew.alloc (.cells #[.int .i64 (j:Int)] 3)).cell? ⟨sb,4,none⟩=some (.map (some ob))/\(w8.drew.alloc (.cells #[.int .i64 (j:Int)] 3)).cell? ⟨wr.heap.size,3,none⟩=some (.int .i64 off)/\(Instr.lookup 68 (.map (some ob)) (.int .i64 (q:Int)) false).run Tryz.prog (w8.drew.alloc (.cells #[.int .i64 (j:Int)] 3))= .ok (.map (some mb)) (w8.drew.alloc (.cells #[.int .i64 (j:Int)] 3))/\(Instr.lookup 93 (.map (some mb)) (.int .i64 off) false).run Tryz.prog (w8.drew.alloc (.cells #[.int .i64 (j:Int)] 3))= .ok (QM (fi8 (q:Int)) off) (w8.drew.alloc (.cells #[.int .i64 (j:Int)] 3)) from
            ⟨((Ext.refl w8).drew.alloc _).cell b4,((Ext.refl w8).drew.alloc _).cell c3,HLK1.o _ (HMO8.o.ext ((Ext.refl w8).drew.alloc _)),HLK2.o _ (HMI8.o.ext ((Ext.refl w8).drew.alloc _))⟩)
           have HS0:=hid (show w8.drew.cell? ⟨sb,4,none⟩=some (.map (some ob))/\w8.drew.cell? ⟨wr.heap.size,3,none⟩=some (.int .i64 off)/\(Instr.lookup 68 (.map (some ob)) (.int .i64 (q:Int)) false).run Tryz.prog w8.drew= .ok (.map (some mb)) w8.drew/\(Instr.lookup 93 (.map (some mb)) (.int .i64 off) false).run Tryz.prog w8.drew= .ok (QM (fi8 (q:Int)) off) w8.drew from
            ⟨((Ext.refl w8).drew).cell b4,((Ext.refl w8).drew).cell c3,HLK1.o _ (HMO8.o.ext ((Ext.refl w8).drew)),HLK2.o _ (HMI8.o.ext ((Ext.refl w8).drew))⟩)
           have HLL:Hid ((Zx l (Qb P) j (q:Int) off).length<=j):=hid (jF _ _);obtain⟨rv,hrv⟩:=Qg (QM (fi8 (q:Int)) off);rw[hrv]at HRN HRM HRW8 HLK2 HSA HS0;have HRV:=hid hrv;clear hrv b4;refine VK 20 (by kernel_rfl) rfl rfl (by kernel_rfl) (fun w'=>w'.cell? ⟨sb,4,none⟩=some (.map (some ob))/\w'.cell? ⟨wr.heap.size,3,none⟩=some (.int .i64 off)/\(Instr.lookup 68 (.map (some ob)) (.int .i64 (q:Int)) false).run Tryz.prog w'= .ok (.map (some mb)) w'/\(Instr.lookup 93 (.map (some mb)) (.int .i64 off) false).run Tryz.prog w'= .ok rv w') (by exact HS0.o) (fun hSg1q0=>?_);refine Qp 0 1 2 3 4 5 ?_;refine Qp 6 7 8 9 10 11 ?_;refine Qp 12 13 14 15 16 17 ?_;refine rgC 18 (fun K hK=>?_);go_simp;refine rgK hK (by exact HSA.o) (fun hSg1q1=>?_);clear hK K;refine rgC 19 (fun K hK=>?_);refine JP rfl (.tmp 163) (.tmp 165) rfl lo rv (Zx l (Qb P) j (q:Int) off) rfl HRW8.o w8.heap.size j rfl (kc w8 j) (by omega) (by have:=HLL.o;omega) (by have:=HLO8.o;simp;omega) ?_;intro A9 c9 w9 ho9 hg9 hl9;have HG9:=hid hg9;have hfin:=cK HOM8.o HFQ8.o HLO8.o (by have:=HNM.o;have:=HPC.o;omega) ho9 (by rw[HRV.o];exact hg9) (by rw[HRV.o];exact hl9);rw[HMB8.o]at hfin;have HFIN:=hid hfin;clear ho9 hg9 hl9 hfin;refine rgK hK ⟨(World.cell?_of_block (w:=w8.drew.alloc (.cells #[.int .i64 (j:Int)] 3)) (HG9.o.block sb (by have:=HB8.o.2.2;simp;omega) (fun e=>(HRM.o sb e.symm).2.2 rfl))).trans HSA.o.1,(World.cell?_of_block (w:=w8.drew.alloc (.cells #[.int .i64 (j:Int)] 3)) (HG9.o.block wr.heap.size (by have:=HWL8.o;simp;omega) (fun e=>HRX8.o (by rw[HRV.o];exact e.symm)))).trans HSA.o.2.1,HLK1.o _ ((HMO8.o.ext ((Ext.refl w8).drew.alloc _)).kept HG9.o (fun e=>(HRM.o ob e.symm).2.1 rfl)),HLK2.o _ HFIN.o.1⟩ (fun hSg1q2=>?_);clear hK K;refine wpAnyH_done (by kernel_rfl) ?_ _;change wpList _ _ _ _ _ _;refine jb _ rfl (.tmp 152) (.tmp 154) (.tmp 166) 93 rfl 26 Tryz.underlying93 (QG Tryz.underlying3) mb (no+1) (fi8 (q:Int)) rfl HFIN.o.1 (by unfold maxLen;omega) off rfl HOF.o (.slice A9 ((Zx l (Qb P) j (q:Int) off).length+1) c9) rfl ?_;intro w10 hm10 hg10;have hend:=HFIN.o.2 w10 hm10 hg10;have HOM10:=hid hend.1;have HC10:=hid hend.2;clear hm10 hg10 hend c3 HFIN HSA HS0 HLK1 HLK2
           go_wp2
           first
            |go_roundw
            |refine⟨?rel, ?measure⟩
           case rel=>
            have hacc:Zx l (Qb P) (j+1)=fun j' o=>if j'=(q:Int)/\o=off then Zx l (Qb P) j (q:Int) off ++ [j] else Zx l (Qb P) j j' o:=funext fun q'=>funext fun o=>uY HCC.o HWV.o HQ.o q' o
            refine⟨j+1,P1,(no+1)+1,nd,fo8,ib8,_,by omega,by go_num,by omega,by omega,HS1,hid ⟨HS1.o.len.trans HP.o.1,HS1.o.dn,.inr ⟨HPA.o,HPR8.o.chg HC10.o (fun e=>by have:=HPC.o;omega)⟩⟩,hid (by rw[hacc];exact HOM10.o),hid (by rw[hacc];exact ng HNF8.o.1 HNF8.o.2),hid ((HDM8.o.kept' HC10.o (by have:=HPC.o;have:=HNM.o;omega)).same (jc HCC.o (dQ HWV.o))),hid (HC8.o.trans' HC10.o (fun b hb=> .inr (by have:=HLO.o;omega)))⟩
           case measure=>simp [intOf];omega
          | some v=>
           have hfv:=(HOM6.o.yes _ _ hfq).1;obtain⟨mb,hmb⟩:=Qg (ib q);rw[hmb]at hfv;subst hfv;have HFQ:=hid hfq;have HMB:=hid hmb;have h6:=HLK.o w6 fo no HOM6.o.map;rw[hfq,Option.getD_some]at h6;have HL6:=hid h6;clear h6;clear hfq hmb;have hma:=HOM6.o.map.ext ((Ext.refl w6).alloc (.map #[] 0));have HMA:=hid hma;clear hma
           go_wp2_with (first
            |((with_reducible refine Vy 68 (.tmp 137) (.tmp 138) rfl rfl ?_);refine Vf rfl (.tmp 137) (.tmp 138) 68 rfl HL6.o ?_)
            |fail)
           obtain⟨fi8,hfi8⟩:∃f,f=fi:=⟨_,rfl⟩;obtain⟨fo8,hfo8⟩:∃f,f=fo:=⟨_,rfl⟩;obtain⟨ib8,hib8⟩:∃f,f=ib:=⟨_,rfl⟩;have HOM8:Hid (Z0 w6 lo ob no fo8 ib8 fi8 (Zx l (Qb P) j)):=hid (by rw[hfi8,hfo8,hib8];exact HOM6.o);have HFQ8:Hid (fo8 (q:Int)=some (.map (some mb))):=hid (by rw[hfo8];exact HFQ.o);have HMB8:Hid (ib8 (q:Int)=mb):=hid (by rw[hib8];exact HMB.o);have HNF8:Hid ((∀q',q'≠(q:Int)->∀v,fo8 q'=some v->∃o,Zx l (Qb P) j q' o≠[])/\∀q',Full (fi8 q') (Zx l (Qb P) j q')):=hid ⟨fun q' _ v hv=>by rw[hfo8]at hv;exact HNF.o.1 q' v hv,by rw[hfi8];exact HNF.o.2⟩
           have HRX8:Hid ((QM (fi8 (q:Int)) off).ownBlock≠some wr.heap.size):=hid (fun e=>by
            rw[hfi8]at e;have h:=HOM.o.yes _ _ HFQ.o;have:=(h.2.2.row off).block _ e;omega)
           have HB8:=hid HBX6.o;have HPR8:=hid HP1.o;have HDM8:=hid ((HDM.o.ext HX5''.o).kept' HC1.o (by have:=HPB.o;have:=HNM.o;omega));have HC8:=hid ((HC.o.ext HX5''.o).trans' HC1.o (fun b hb=> .inl (.inl ⟨hb,HPC.o.1⟩)));have HLO8:Hid (lo<=w6.heap.size):=hid (by have:=HPC.o;have:=HX5''.o.size;have:=HC1.o.size;omega);have HWL8:Hid (wr.heap.size<w6.heap.size):=hid (by have:=HC1.o.size;have:=HX5B.o;omega);clear hfi8 hfo8 hib8 HL6 b4;go_upto_region 34 with fail
           have HRN:Hid (∀g,(QM (fi8 (q:Int)) off).ownBlock=some g->lo<=g/\g<w6.heap.size):=hid (fun g hg=>((HOM8.o.yes _ _ HFQ8.o).2.2.row off).block g hg);have HMB9:Hid (lo<=mb/\mb<w6.heap.size):=hid (by have h:=HOM8.o.yes _ _ HFQ8.o;rw[HMB8.o]at h;exact⟨h.2.1,h.2.2.map.lt⟩)
           have HRM:Hid (∀g,(QM (fi8 (q:Int)) off).ownBlock=some g->g≠mb/\g≠ob/\g≠sb):=hid (fun g hg=>by
            have h:=HOM8.o.yes _ _ HFQ8.o;rw[HMB8.o]at h;have h1:=h.2.2.ne off hg;have h2:=(HRN.o g hg).1;have:=HPC.o;have:=HNM.o;exact⟨h1,by omega,by omega⟩)
           have HRW8:=hid (((HOM8.o.yes _ _ HFQ8.o).2.2.row off).ext (((Ext.refl w6).drew).alloc (.cells #[.int .i64 (j:Int)] 3)));have HLK1:=hid (fun(W:World) (hW:MapG (QG Tryz.underlying3) W ob no fo8)=>(show(Instr.lookup 68 (.map (some ob)) (.int .i64 (q:Int)) false).run Tryz.prog W= .ok (.map (some mb)) W from by rw[YZ hW HQB.o,HFQ8.o];rfl));have HLK2:=hid (fun(W:World) (hW:MapG (QG Tryz.underlying3) W mb no (fi8 (q:Int)))=>(show(Instr.lookup 93 (.map (some mb)) (.int .i64 off) false).run Tryz.prog W= .ok (QM (fi8 (q:Int)) off) W from yj hW HOF.o));have HMI8:Hid (MapG (QG Tryz.underlying3) w6 mb no (fi8 (q:Int))):=hid (by have h:=HOM8.o.yes _ _ HFQ8.o;rw[HMB8.o]at h;exact h.2.2.map);have HMO8:=hid HOM8.o.map;have b4:=HB8.o.1 4 _ rfl
           have HSA:=hid (show(w6.drew.alloc (.cells #[.int .i64 (j:Int)] 3)).cell? ⟨sb,4,none⟩=some (.map (some ob))/\(w6.drew.alloc (.cells #[.int .i64 (j:Int)] 3)).cell? ⟨wr.heap.size,3,none⟩=some (.int .i64 off)/\(Instr.lookup 68 (.map (some ob)) (.int .i64 (q:Int)) false).run Tryz.prog (w6.drew.alloc (.cells #[.int .i64 (j:Int)] 3))= .ok (.map (some mb)) (w6.drew.alloc (.cells #[.int .i64 (j:Int)] 3))/\(Instr.lookup 93 (.map (some mb)) (.int .i64 off) false).run Tryz.prog (w6.drew.alloc (.cells #[.int .i64 (j:Int)] 3))= .ok (QM (fi8 (q:Int)) off) (w6.drew.alloc (.cells #[.int .i64 (j:Int)] 3)) from
            ⟨((Ext.refl w6).drew.alloc _).cell b4,((Ext.refl w6).drew.alloc _).cell c3,HLK1.o _ (HMO8.o.ext ((Ext.refl w6).drew.alloc _)),HLK2.o _ (HMI8.o.ext ((Ext.refl w6).drew.alloc _))⟩)
           have HS0:=hid (show w6.drew.cell? ⟨sb,4,none⟩=some (.map (some ob))/\w6.drew.cell? ⟨wr.heap.size,3,none⟩=some (.int .i64 off)/\(Instr.lookup 68 (.map (some ob)) (.int .i64 (q:Int)) false).run Tryz.prog w6.drew= .ok (.map (some mb)) w6.drew/\(Instr.lookup 93 (.map (some mb)) (.int .i64 off) false).run Tryz.prog w6.drew= .ok (QM (fi8 (q:Int)) off) w6.drew from
            ⟨((Ext.refl w6).drew).cell b4,((Ext.refl w6).drew).cell c3,HLK1.o _ (HMO8.o.ext ((Ext.refl w6).drew)),HLK2.o _ (HMI8.o.ext ((Ext.refl w6).drew))⟩)
           have HLL:Hid ((Zx l (Qb P) j (q:Int) off).length<=j):=hid (jF _ _);obtain⟨rv,hrv⟩:=Qg (QM (fi8 (q:Int)) off);rw[hrv]at HRN HRM HRW8 HLK2 HSA HS0;have HRV:=hid hrv;clear hrv b4;refine VK 20 (by kernel_rfl) rfl rfl (by kernel_rfl) (fun w'=>w'.cell? ⟨sb,4,none⟩=some (.map (some ob))/\w'.cell? ⟨wr.heap.size,3,none⟩=some (.int .i64 off)/\(Instr.lookup 68 (.map (some ob)) (.int .i64 (q:Int)) false).run Tryz.prog w'= .ok (.map (some mb)) w'/\(Instr.lookup 93 (.map (some mb)) (.int .i64 off) false).run Tryz.prog w'= .ok rv w') (by exact HS0.o) (fun hSg2q0=>?_);refine Qp 0 1 2 3 4 5 ?_;refine Qp 6 7 8 9 10 11 ?_;refine Qp 12 13 14 15 16 17 ?_;refine rgC 18 (fun K hK=>?_);go_simp;refine rgK hK (by exact HSA.o) (fun hSg2q1=>?_);clear hK K;refine rgC 19 (fun K hK=>?_);refine JP rfl (.tmp 163) (.tmp 165) rfl lo rv (Zx l (Qb P) j (q:Int) off) rfl HRW8.o w6.heap.size j rfl (kc w6 j) (by omega) (by have:=HLL.o;omega) (by have:=HLO8.o;simp;omega) ?_;intro A9 c9 w9 ho9 hg9 hl9;have HG9:=hid hg9;have hfin:=cK HOM8.o HFQ8.o HLO8.o (by have:=HNM.o;have:=HPC.o;omega) ho9 (by rw[HRV.o];exact hg9) (by rw[HRV.o];exact hl9);rw[HMB8.o]at hfin;have HFIN:=hid hfin;clear ho9 hg9 hl9 hfin;refine rgK hK ⟨(World.cell?_of_block (w:=w6.drew.alloc (.cells #[.int .i64 (j:Int)] 3)) (HG9.o.block sb (by have:=HB8.o.2.2;simp;omega) (fun e=>(HRM.o sb e.symm).2.2 rfl))).trans HSA.o.1,(World.cell?_of_block (w:=w6.drew.alloc (.cells #[.int .i64 (j:Int)] 3)) (HG9.o.block wr.heap.size (by have:=HWL8.o;simp;omega) (fun e=>HRX8.o (by rw[HRV.o];exact e.symm)))).trans HSA.o.2.1,HLK1.o _ ((HMO8.o.ext ((Ext.refl w6).drew.alloc _)).kept HG9.o (fun e=>(HRM.o ob e.symm).2.1 rfl)),HLK2.o _ HFIN.o.1⟩ (fun hSg2q2=>?_);clear hK K;refine wpAnyH_done (by kernel_rfl) ?_ _;change wpList _ _ _ _ _ _;refine jb _ rfl (.tmp 152) (.tmp 154) (.tmp 166) 93 rfl 26 Tryz.underlying93 (QG Tryz.underlying3) mb no (fi8 (q:Int)) rfl HFIN.o.1 (by unfold maxLen;omega) off rfl HOF.o (.slice A9 ((Zx l (Qb P) j (q:Int) off).length+1) c9) rfl ?_;intro w10 hm10 hg10;have hend:=HFIN.o.2 w10 hm10 hg10;have HOM10:=hid hend.1;have HC10:=hid hend.2;clear hm10 hg10 hend c3 HFIN HSA HS0 HLK1 HLK2
           go_wp2
           first
            |go_roundw
            |refine⟨?rel, ?measure⟩
           case rel=>
            have hacc:Zx l (Qb P) (j+1)=fun j' o=>if j'=(q:Int)/\o=off then Zx l (Qb P) j (q:Int) off ++ [j] else Zx l (Qb P) j j' o:=funext fun q'=>funext fun o=>uY HCC.o HWV.o HQ.o q' o
            refine⟨j+1,P1,no+1,nd,fo8,ib8,_,by omega,by go_num,by omega,by omega,HS1,hid ⟨HS1.o.len.trans HP.o.1,HS1.o.dn,.inr ⟨HPA.o,HPR8.o.chg HC10.o (fun e=>by have:=HPC.o;omega)⟩⟩,hid (by rw[hacc];exact HOM10.o),hid (by rw[hacc];exact ng HNF8.o.1 HNF8.o.2),hid ((HDM8.o.kept' HC10.o (by have:=HPC.o;have:=HNM.o;omega)).same (jc HCC.o (dQ HWV.o))),hid (HC8.o.trans' HC10.o (fun b hb=> .inr (by have:=HLO.o;omega)))⟩
           case measure=>simp [intOf];omega
         | false=>
          clear c3;have hacc:Zx l (Qb P) (j+1)=Zx l (Qb P) j:=funext fun q'=>funext fun o=>l9 HCC.o HWV.o q' o;have HACC:=hid hacc;clear hacc;by_cases hk1:kd=1
          ·by_cases hk2:ct.kind=0
           ·have g1:(kd == 1)=true:=by simp[hk1]
            have g2:(ct.kind != 0)=false:=by simp[hk2]
            have HK2:=hid hk2;clear hk1 hk2
            go_wp2
            first
             |go_roundw
             |refine⟨?rel, ?measure⟩
            case rel=>exact⟨j+1,PP,no,nd,fo,ib,fi,by omega,by go_num,by omega,by omega,HSP,hid (HPQ.o.ext HX5'.o),hid (by rw[HACC.o];exact HOM.o.ext HX5'.o),hid (by rw[HACC.o];exact HNF.o),hid ((HDM.o.ext HX5'.o).same (jc HCC.o (fun e=>e.2 HK2.o))),hid (HC.o.ext HX5'.o)⟩
            case measure=>simp [intOf];omega
           ·have g1:(kd == 1)=true:=by simp[hk1]
            have g2:(ct.kind != 0)=true:=by simp[hk2]
            have HK1:=hid hk1;have HK2:=hid hk2;have HSK:=hid (fun(w':World) (hx:Chg (fun b=>b=pb) w5 w')=>(show w'.cell? ⟨wr.heap.size,1,none⟩=some (.int .i64 an)/\w'.cell? ⟨sb,5,none⟩=some (.map (some db)) from⟨hx.cell c1 (fun e=>HWN.o.2 e),hx.cell ((HBX5.o.ext HX5'.o).1 5 _ rfl) (fun e=>HNE.o e)⟩));have b5:=(HBX5.o.ext HX5'.o).1 5 _ rfl;clear hk1 hk2;go_upto_region 36 with fail
            clear c0 c5;refine rgS 8 rfl rfl (Ext.hc2 c1 b5) (Ext.refl _).drew (fun hSg3q0=>?_);refine Qp 0 1 2 3 4 5 ?_;refine rgT 6 ?_;refine rgC 7 (fun K hK=>?_);go_simp;go_at_call 28;refine(HF.o _ (Ext.refl w5).drew).mono ?_;rintro e w6 ⟨rfl,P1,hs1,hp1,hc1⟩;have HS1:=hid (HSP.o.trans hs1);have HP1:=hid hp1;have HC1:=hid ((Chg.of_ext _ ((Ext.refl w5).drew)).trans hc1);clear hs1 hp1 hc1;refine rgK hK (HSK.o _ HC1.o) (fun hSg3q1=>?_);clear hK K;refine wpAnyH_done (by kernel_rfl) ?_ _;change wpList _ _ _ _ _ _;have HD6:=hid ((HDM.o.ext HX5'.o).kept' HC1.o (by have:=HPB.o;have:=HNM.o;omega));refine jb _ rfl (.tmp 179) (.tmp 183) (.const (.bool true)) 69 rfl 4 Tryz.underlying69 (QG Tryz.underlying3) db nd (VB l (Qb P) j) rfl HD6.o (by unfold maxLen;omega) (q:Int) rfl HQB.o (.bool true) rfl ?_;intro w8 hm8 hg8;have HM8:=hid hm8;have HC8:Hid (Chg (fun b=>b=db) w6 w8):=hid (Chg.of_grown hg8 rfl);clear hm8 hg8 c1 b5 HSK
            go_wp2
            first
             |go_roundw
             |refine⟨?rel, ?measure⟩
            case rel=>
             have hom:=((HOM.o.ext HX5'.o).chg HC1.o (fun e=>by have:=HPB.o;have:=HNM.o;omega) (fun b hb _ e=>by have:=HPC.o;omega)).chg HC8.o (fun e=>by have:=HNM.o;omega) (fun b hb _ e=>by have:=HPC.o;have:=HNM.o;omega);exact⟨j+1,P1,no,nd+1,fo,ib,fi,by omega,by go_num,by omega,by omega,HS1,hid ⟨HS1.o.len.trans HP.o.1,HS1.o.dn,.inr ⟨HPA.o,HP1.o.chg HC8.o (fun e=>by have:=HPB.o;have:=HNM.o;omega)⟩⟩,hid (by rw[HACC.o];exact hom),hid (by rw[HACC.o];exact HNF.o),hid (HM8.o.same (fun q'=>oW HCC.o HK1.o HK2.o HQ.o q')),hid (((HC.o.ext HX5'.o).trans' HC1.o (fun b hb=> .inl (.inl ⟨hb,HPC.o.1⟩))).trans' HC8.o (fun b hb=> .inl (.inr (.inr hb))))⟩
            case measure=>simp [intOf];omega
          ·have g1:(kd == 1)=false:=by simp[hk1]
           have HK1:=hid hk1;clear hk1
           go_wp2
           first
            |go_roundw
            |refine⟨?rel, ?measure⟩
           case rel=>exact⟨j+1,PP,no,nd,fo,ib,fi,by omega,by go_num,by omega,by omega,HSP,hid (HPQ.o.ext HX5'.o),hid (by rw[HACC.o];exact HOM.o.ext HX5'.o),hid (by rw[HACC.o];exact HNF.o),hid ((HDM.o.ext HX5'.o).same (jc HCC.o (fun e=>HK1.o e.1))),hid (HC.o.ext HX5'.o)⟩
           case measure=>simp [intOf];omega
        ·obtain rfl:j=k:=by omega
         have i1:¬(j:Int)<(j:Int):=by omega
         go_wp2_with fail
         go_ret;have hr:Qb PP=Qb P:=funext HSP.o.root;have hll:l.length=j:=HL.o.symm;obtain⟨k1,k2,k3,k4,k5⟩:=HNM.o;subst k1 k2 k3 k4 k5;have hkb:∀b,b<b0+3->¬((b=pb/\pb<cm)\/b=b0+4\/b=b0+3):=fun b hb hh=>by have:=HPB.o;omega
         refine⟨⟨b0,pb,cap,cm,nc,lo,no,nd,PA,fc,fo,ib,fi,False⟩,PP,rfl,by have:=HB0.o;show w.heap.size<=b0;omega,⟨by rw[hr];exact HCLS.o, ?_,by rw[hr,hll];exact HOM.o,by rw[hr,hll];exact HNF.o.1,by rw[hr,hll];exact HNF.o.2,by rw[hr,hll];exact HDM.o,HLO.o.2.2.1,HLO.o.2.1,HSZ5.o,⟨HPB.o,by rw[hll];exact HLO.o.2.2.2.2⟩, ?_,⟨by rw[hll];exact HCM.o.2,by rw[hll];exact hno,by rw[hll];exact hnd⟩⟩,by rw[hll];exact HBX5.o,by rw[hll];exact HPQ.o,HM5.o.1.kept' HC.o (hkb _ (by omega)),HM5.o.2.1.kept' HC.o (hkb _ (by omega)),HM5.o.2.2.1.kept' HC.o (hkb _ (by omega)),Chg.old HX5.o HC.o (fun b hb=>by have:=HPB.o;have:=HB0.o;omega)⟩
         ·rw[hr];exact HMOC.o.chg HC.o (fun hh=>by have:=HLO.o;omega) (fun b hb _ hh=>by have:=HLO.o;have hb':cm<=b:=hb;omega)
         ·intro x g hg;show g<lo;have:=((HMOC.o.row x).block g hg).2;have:=HLO.o;omega
      | true =>
       clear HFN;have HSM0:=hid (mK HP.o);obtain⟨V,hV⟩:∃V,V=wr:=⟨_,rfl⟩;obtain rfl:=hV;obtain⟨cm,hcm⟩:=Qg (V.heap.size);obtain⟨V1,hV1⟩:=Qg (V.alloc (.map #[] 0));have hEV:Ext V V1:=by rw[<-hV1];exact(Ext.refl _).alloc _
       have hMO:Zy plK V1 cm cm 0 (fun _=>none) (fun _=>[]):=by rw[<-hV1,<-hcm];exact Zy.made plK V _
       have hBV:=HB.o.ext hEV;have f3:=hBV.2.1 3;have c3:=hBV.1 3 _ rfl;have hB4:=hBV.put (i:=3) (by simp[svL]) (.map (some cm));have hC4:Chg (fun b=>b=sb) V1 (V1.setCell ⟨sb,3,none⟩ (.map (some cm))):=Chg.of_set _ _ rfl;have HLT:Hid (sb<cm/\W3.heap.size<=cm/\(0<n+k->pb<cm)):=hid ⟨by rw[<-hcm];exact HB.o.2.2,by rw[<-hcm];exact HC.o.size,fun h=>by rw[<-hcm];exact(HP.o.pos h).2.lt⟩;obtain⟨W4,hW4⟩:=Qg (V1.setCell ⟨sb,3,none⟩ (.map (some cm)));have HS4:Hid (W4.heap.size=cm+1):=hid (by rw[<-hW4,<-hV1,<-hcm];simp);rw[hW4]at hB4 hC4;have HB4:=hid hB4;have HMO4:=hid (hMO.chg hC4 (by have:=HLT.o;omega) (fun b hb _ e=>by have:=HLT.o;omega));have HP4:=hid ((HP.o.ext hEV).keep (w':=W4) (fun _ h=>hC4.block pb h (fun e=>HNE.o e.symm)));have HC4:=hid ((HC.o.ext hEV).trans' hC4 (fun b hb=> .inl (.inr hb)));have HW4:=hid hW4;clear hEV hMO hBV hB4 hC4 hW4;go_upto_region 19 with fail
       rw[HW4.o];clear c3 f3 hV1 hcm
       go_wp2_with fail
       have HSU:=hid (show P.sum<=P.sum from Nat.le_refl _);obtain⟨P0,hP0⟩:∃P0,P0=P:=⟨_,rfl⟩;have HSM1:Hid (xK V pb (n+k)=P0.sum):=hid (by rw[hP0];exact HSM0.o);clear HSM0
       go_loopw [9,76] (fun s9 i wr=>∃(j:Nat) (P':List Nat) (ch:Bool) (nc:Nat) (fc:Pl->Option Value) (cf:Nat->Int->List Nat),j<=k/\i= .int .i64 j/\s9= .bool ch/\nc<=j/\Hid (X8 wr PA pb cap (n+k) P')/\Hid (VQ l n (Qb P'))/\Hid (Cl2 l n (Qb P') k)/\Hid (X9 l n (Qb P0) (Qb P') j ch cf)/\
        Hid (Zy plK wr cm cm nc fc (fun p=>if 0<=p.1.1 then cf p.1.1.toNat p.1.2 else []))/\Hid (Chg (fun b=>b=pb\/b=cm) W4 wr)/\Hid ((P'.sum<=P0.sum/\(ch=true->P'.sum<P0.sum))/\∀q o,(cf q o).length<=j)) (fun _ i _=>k - (intOf i).toNat)
       case atStart=>exact⟨0,P,false,0,_,fun _ _=>[],by omega,rfl,rfl,Nat.le_refl _,HP4,HSO,HCL,hid (by rw[hP0];exact X9.start),hid (HMO4.o.same (fun p=>by simp)),hid (Chg.refl _ _),hid ⟨⟨by rw[hP0];exact Nat.le_refl _,fun h=>by cases h⟩,fun _ _=>Nat.le_refl _⟩⟩
       case round=>
        clear HP4 HSO HCL HMO4 HSU hP0 P HP;obtain⟨j,P,ch,nc,fc,cf,hj,rfl,rfl,hnc,HP,HSO,HCL,HRN,HMO,HC,HSU⟩:=hrel;have HCW:=hid (HC4.o.trans' HC.o (fun b hb=>by rcases hb with hb|hb;exact .inl (.inl hb);exact .inr (by rw[hb];exact HLT.o.2.1)));have HBW:=hid (HB4.o.chg HC.o (fun hb=>by rcases hb with hb|hb;exact HNE.o hb;have:=HLT.o;omega));by_cases h1:j<k
        ·obtain⟨c,hc⟩:∃c,l[j]? =some c:=⟨_,Qq (by have:=HL.o;omega)⟩;have HXR:=hid (Chg.old HX3.o HCW.o (fun b hb=>by have:=HPB.o;have:=HB0.o;have:=HNM.o;rcases hb with hb|hb <;> omega));have HCC:=hid hc;have HCO:=hid (HOK.o c (Qx hc));obtain⟨d',bx,ox,P1,np1,cp1,P2,np2,cp2,hd,rfl,hv1,hbx, -⟩:=((HS.o.ext HXR.o)).con_at hc;have HCV:=hid hv1;obtain⟨x0,x1,x2,x3,x4,x5,x6,x7,x8,x9⟩:=hbx;obtain⟨W15,hW15⟩:=Qg ((wr).alloc (.cells #[.int .i64 0,.int .i64 0,.int .i64 0,.int .i64 0,.int .i64 0,.int .i64 0,.int .i64 0,.int .i64 0,.slice none 0 0,.slice none 0 0] 48));have hB1:Zg W15 (wr).heap.size ZW:=by rw[<-hW15];exact Zg.new wr ZW _
         have hE1:Ext wr W15:=by rw[<-hW15];exact(Ext.refl _).alloc _
         obtain⟨W25,hW2,hB2,hH2,hS2,hX2⟩:=Jj hB1 c P1 np1 cp1 P2 np2 cp2;have HXC5:=hid (hX2 wr hE1 (Nat.le_refl _));have HWC5:=hid hW2;have HBC5:=hid hB2;have z0:=hB1.1 0 _ rfl;have z1:=hB1.1 1 _ rfl;have z2:=hB1.1 2 _ rfl;have z3:=hB1.1 3 _ rfl;have z4:=hB1.1 4 _ rfl;have z5:=hB1.1 5 _ rfl;have z6:=hB1.1 6 _ rfl;have z7:=hB1.1 7 _ rfl;have z8:=hB1.1 8 _ rfl;have z9:=hB1.1 9 _ rfl;have y0:=hB1.2.1 0;have y1:=hB1.2.1 1;have y2:=hB1.2.1 2;have y3:=hB1.2.1 3;have y4:=hB1.2.1 4;have y5:=hB1.2.1 5;have y6:=hB1.2.1 6;have y7:=hB1.2.1 7;have y8:=hB1.2.1 8;have y9:=hB1.2.1 9;have HCV5:=hid (HCV.o.ext HXC5.o);clear hW2 hB2 hH2 hS2 hX2 hE1 hv1 HCV hB1;obtain⟨hpa,hpp⟩:=HP.o.pos (by omega);have HPA:=hid hpa;have HPP:=hid hpp;have HWN:Hid (wr.heap.size≠pb/\pb<wr.heap.size/\cm<wr.heap.size):=hid ⟨by have:=hpp.lt;omega,hpp.lt,HMO.o.map.lt⟩;clear hc hpp hpa;go_upto_region 22 with fail
         rw[HWC5.o];clear z0 z1 z2 z3 z4 z5 z6 z7 z8 z9 y0 y1 y2 y3 y4 y5 y6 y7 y8 y9 x0 x1 x2 x3 x4 x5 x6 x7 x8 x9 hW15;obtain⟨c0,c1,c2,c3,c4,c5,c6,c7,c8,c9⟩:=HBC5.o;rw[Nat.zero_add]at c1 c2 c3 c4 c5 c6 c7 c8 c9;obtain⟨kd,ca,cb',off,wd,ct⟩:=c;simp only at c0 c1 c2 c3 c4 c5 c6 c7 c8 c9 HCV5 HBC5 HWC5;have ha:=HCO.o.a0;obtain⟨an,rfl⟩:∃an:Nat,ca=an:=⟨ca.toNat,(Qk ha).symm⟩;have HLN:Hid (an<n/\l.length=k):=hid ⟨by have:=HCO.o.a1;simp at this;omega,HL.o.symm⟩;have HWD:=hid (ky d' W25 _ _ HCV5.o);obtain⟨wv,hwv⟩:=Qg (QQ ⟨kd,an,cb',off,wd,ct⟩);rw[hwv]at HWD;have HWV:=hid hwv;clear ha hwv
         go_wp2_with fail
         refine HWD.o.mono ?_;rintro e w5 ⟨rfl,hx5⟩;have HX5:=hid (HXC5.o.trans hx5);have c1:=hx5.cell c1;have c3:=hx5.cell c3;clear hx5 c0 c2 c4 c5 c6 c7 c8 c9
         cases wv with
         | false=>
          clear c1 c3
          go_wp2
          first
           |go_roundw
           |refine⟨?rel, ?measure⟩
          case rel=>exact⟨j+1,P,ch,nc,fc,cf,by omega,by go_num,rfl,by omega,hid (HP.o.ext HX5.o),HSO,HCL,hid (HRN.o.skip HCC.o HWV.o),hid (HMO.o.ext HX5.o),hid (HC.o.ext HX5.o),hid ⟨HSU.o.1,fun q o=>Nat.le_succ_of_le (HSU.o.2 q o)⟩⟩
          case measure=>simp [intOf];omega
         | true=>
          have HOF:=hid ((J3 (c:=⟨kd,(an:Int),cb',off,wd,ct⟩) HCV5.o).1.2.2.2.1);have HF:=hid (fun w' (hw:Ext w5 w')=>zY w' sb pb cap P (HPP.o.ext (HX5.o.trans hw)) (by rw[HP.o.1,<-HPA.o];exact(HBW.o.ext (HX5.o.trans hw)).1 2 _ rfl) HNE.o an (by have:=HP.o.1;have:=HLN.o;omega));obtain⟨q,hq⟩:=Qg (Qb P an);have HQ:=hid hq;have HQL:Hid (q<n+k):=hid (by rw[<-hq];have:=xj HP.o.2.1 (k:=an) (by have:=HP.o.1;have:=HLN.o;omega);have:=HP.o.1;omega);unfold kV at HF;rw[hq]at HF;have HEA:=hid ((Ext.refl w5).drew);have HSK:=hid (fun(w':World) (hx:Chg (fun b=>b=pb) w5 w')=>(show w'.cell? ⟨wr.heap.size,1,none⟩=some (.int .i64 an)/\w'.cell? ⟨wr.heap.size,3,none⟩=some (.int .i64 off) from⟨hx.cell c1 (fun e=>HWN.o.1 e),hx.cell c3 (fun e=>HWN.o.1 e)⟩));clear hq;go_upto_region 23 with fail
          go_cut [12] from 84 to 90 (fun s12 wx=>∃(aP:Nat) (P1:List Nat),s12= .pointer (some ⟨aP,0,none⟩)/\Hid (Q5 wx aP (.int .i64 q) (.int .i64 off))/\Hid (XM P P1)/\Hid (Z4 wx pb cap P1)/\Hid (Chg (fun b=>b=pb) w5 wx)/\Hid (w5.heap.size<=aP))
          case rest=>
           clear c1 c3 HEA HSK HF;obtain⟨aP,P1,rfl,HBP,HS1,HP1,HC1,HGE⟩:=hcut;have HPC:Hid (pb<cm/\sb<cm):=hid ⟨HLT.o.2.2 (by omega),HLT.o.1⟩;obtain⟨V7,hV7⟩:∃V7,V7=wc:=⟨_,rfl⟩;obtain rfl:=hV7;have hbx:=(HBW.o.ext HX5.o).chg HC1.o (fun e=>HNE.o e);have HBX1:=hid hbx;have hmo:=(HMO.o.ext HX5.o).chg HC1.o (fun e=>by have:=HPC.o;omega) (fun b hb _ e=>by have:=HPC.o;omega);have c3:=hbx.1 3 _ rfl;have p0:=HBP.o.1;have p1:=HBP.o.2.1;obtain⟨x,hx⟩:∃x:Pl,x.1=((q:Int),off):=⟨⟨((q:Int),off),by unfold Qy;have:=HQL.o;omega,HOF.o⟩,rfl⟩;have HXX:=hid hx;obtain⟨L,hL⟩:=Qg (cf q off);obtain⟨F,hF⟩:∃F:Pl->List Nat,(fun p:Pl=>if 0<=p.1.1 then cf p.1.1.toNat p.1.2 else [])=F:=⟨_,rfl⟩;rw[hF]at hmo;have HFF:Hid (∀p:Pl,F p=if 0<=p.1.1 then cf p.1.1.toNat p.1.2 else []):=hid (fun p=>by rw[<-hF]);have hFx:F x=L:=by rw[<-hF];simp[hx,hL]
           have HFX:=hid hFx;clear hF;have HLL:Hid (L.length<=j):=hid (by rw[<-hL];exact HSU.o.2 q off);obtain⟨stp,W6,hrun,hg6,hs6,hrow,hk6,hst⟩:=tx (j:=j) hmo (by unfold maxLen;omega) x hx;rw[hFx]at hrow hst;obtain⟨rv,hrv⟩:=Qg (QM fc x);rw[hrv]at hrun hrow hst;have HRV:=hid hrv;have HLQ:=hid hL;have HRUN:=hid hrun;have HROW:=hid hrow;have HK6:=hid hk6;have HST:=hid hst;have HG6:=hid (fun(b:Nat) (h1:b<V7.heap.size) (h2:b≠cm)=>(hg6.block b (by simp;omega) (fun e=>h2 (by injection e))).trans (((Ext.refl V7).drew.alloc (.cells #[.int .i64 (j:Int)] 3)).block h1));have HS6:=hid hs6;have HRB:Hid (∀g,rv.ownBlock=some g->cm<g):=hid (fun g hg=>by have h1:=(hrow.block g hg).1;have h2:=hmo.ne x (q:=g) (by rw[hrv];exact hg);omega);have HNB:Hid (sb<V7.heap.size/\aP<V7.heap.size/\sb≠cm/\aP≠cm/\(rv.ownBlock≠some sb)):=hid ⟨hbx.2.2,HBP.o.lt,by have:=HPC.o;omega,by have:=HGE.o;have:=HX5.o.size;have:=HWN.o.2.2;omega,fun e=>by have:=HRB.o sb e;have:=HPC.o;omega⟩;have HCM7:Hid (cm<V7.heap.size):=hid hmo.map.lt
           have HPB7:Hid (rv.ownBlock≠some aP):=hid (fun e=>by
            have h1:=((HMO.o.ext HX5.o).row x).block aP (by rw[hrv];exact e);have:=HGE.o;omega)
           clear hrun hrow hk6 hst hg6 hs6 hmo hFx hL hx hrv hbx;go_upto_region 24 with fail
           refine rgS 11 rfl rfl (Ext.hc3 c3 p0 p1) (Ext.refl _).drew (fun hSg4q0=>?_);refine Qp 0 1 2 3 4 5 ?_;refine rgC 6 (fun K hK=>?_);go_simp;refine rgK hK ⟨((Ext.refl V7).drew.alloc _).cell c3,((Ext.refl V7).drew.alloc _).cell p0,((Ext.refl V7).drew.alloc _).cell p1⟩ (fun hSg4q1=>?_);clear hK K;refine rgC 7 (fun K hK=>?_);refine Yv rfl (.tmp 94) (.tmp 95) 67 rfl HRUN.o ?_;skip;refine rgK hK ⟨(World.cell?_of_block (w:=V7) (HG6.o sb HNB.o.1 HNB.o.2.2.1)).trans c3,(World.cell?_of_block (w:=V7) (HG6.o aP HNB.o.2.1 HNB.o.2.2.2.1)).trans p0,(World.cell?_of_block (w:=V7) (HG6.o aP HNB.o.2.1 HNB.o.2.2.2.1)).trans p1⟩ (fun hSg4q2=>?_);clear hK K;refine QJ 8 10 ?_;refine rgC 9 (fun K hK=>?_);refine JP rfl (.tmp 96) (.tmp 98) rfl cm rv L rfl HROW.o V7.heap.size j rfl HK6.o (by omega) (by have:=HLL.o;omega) (by have:=HS6.o;have:=HCM7.o;omega) ?_;intro A7 c7 w7 ho7 hg7 hl7;obtain⟨w9,hr9,hs9,hs7,hm9,hc9⟩:=HST.o A7 c7 w7 ho7 hg7 hl7;have HO7:=hid ho7;have HR9:=hid hr9;have HM9:=hid hm9;have HC9:=hid hc9;have HBS:=hid (fun(b:Nat) (h1:b<V7.heap.size) (h2:b≠cm) (h3:rv.ownBlock≠some b)=>(hg7.block b (by have:=HS6.o;omega) (fun e=>h3 e.symm)).trans (HG6.o b h1 h2));have HBS9:=hid (fun(b:Nat) (h1:b<V7.heap.size) (h2:b≠cm) (h3:rv.ownBlock≠some b)=>(hs9.block b (by have:=HS6.o;have:=hg7.size;omega) (fun e=>h2 (by injection e))).trans (HBS.o b h1 h2 h3));clear ho7 hr9 hs9 hs7 hm9 hc9 hg7 hl7;refine rgK hK ⟨(World.cell?_of_block (w:=V7) (HBS.o sb HNB.o.1 HNB.o.2.2.1 HNB.o.2.2.2.2)).trans c3,(World.cell?_of_block (w:=V7) (HBS.o aP HNB.o.2.1 HNB.o.2.2.2.1 HPB7.o)).trans p0,(World.cell?_of_block (w:=V7) (HBS.o aP HNB.o.2.1 HNB.o.2.2.2.1 HPB7.o)).trans p1⟩ (fun hSg4q3=>?_);clear hK K;refine wpAnyH_done (by kernel_rfl) ?_ _;change wpList _ _ _ _ _ _;refine xF rfl (.tmp 94) (.tmp 101) (.tmp 100) 67 rfl HR9.o ?_;go_upto_region 25 with fail
           have hbx9:=HBX1.o.chg HC9.o (fun e=>by have:=HPC.o;omega);have HBX9:=hid hbx9;have c3:=hbx9.1 3 _ rfl;have p0:=(World.cell?_of_block (w:=V7) (HBS9.o aP HNB.o.2.1 HNB.o.2.2.2.1 HPB7.o)).trans p0;have p1:=(World.cell?_of_block (w:=V7) (HBS9.o aP HNB.o.2.1 HNB.o.2.2.2.1 HPB7.o)).trans p1;have HP9:=hid (HP1.o.chg HC9.o (fun e=>by have:=HPC.o;omega));obtain⟨f9,hf9⟩:=Qg ((fun p=>if p=x then some (.slice A7 (L.length+1) c7) else fc p));have hf9x:QM f9 x= .slice A7 (L.length+1) c7:=by rw[<-hf9];exact cF x _
           have hm9:=HM9.o;rw[hf9]at hm9;have HMN:=hid hm9;clear HM9;have hrow9:=hm9.row x;rw[hf9x,if_pos rfl]at hrow9;obtain⟨g,rfl,hg1,hg2⟩:=hrow9.at0 (by omega);obtain⟨i,hi⟩:∃i,(L ++ [j])[0]? =some i:=⟨_,Qq (by simp)⟩;have r0:=(hrow9.num_cell hi).1;have hidem:Qb P (Qb P an)=Qb P an:=uw HP.o.2.1 (by have:=HP.o.1;have:=HLN.o;omega);have hcfq:cf (Qb P an) off=L:=by rw[HQ.o];exact HLQ.o
           obtain⟨hij,hve⟩:=HRN.o.first HCC.o HWV.o HSO.o HCO.o (by show Qb P an<_;rw[HQ.o,HLN.o.2];exact HQL.o) hidem (i:=i) (by show(cf (Qb P an) off ++ [j])[0]? =_;rw[hcfq];exact hi);have HVE:=hid hve;have HII:=hid hi;have HIJ:=hid hij;have HID:=hid hidem;have HCFQ:=hid hcfq;have HGG:Hid (g≠pb):=hid (by have:=HPC.o;omega);have HLK:=hid (fun(W:World) (hW:MapG plK W cm (nc+1) f9)=>(show(Instr.lookup 67 (.map (some cm)) (.agg #[.int .i64 q,.int .i64 off]) false).run Tryz.prog W= .ok (.slice (some ⟨g,0,none⟩) (L.length+1) c7) W by rw[nf hW x HXX.o,hf9x]));have HU:=hid (fun w' (hw:Ext w9 w')=>pZ w' sb pb cap P1 (HP9.o.ext hw) (by rw[HS1.o.len,HP.o.1,<-HPA.o];exact(HBX9.o.ext hw).1 2 _ rfl) HNE.o (n+i) (n+j) (by have:=HS1.o.len;have:=HP.o.1;omega) (by have:=HS1.o.len;have:=HP.o.1;omega));obtain⟨dd,hdd⟩:=Qg (decide (Qb P1 (n+i)≠Qb P1 (n+j)));unfold yp at HU;rw[hdd]at HU;have hdd':decide (Qb P (n+i)≠Qb P (n+j))=dd:=by rw[<-hdd,HS1.o.root,HS1.o.root]
           have HDD:=hid hdd';have HDE:=hid hdd;have e1:IntKind.i64.wrap ((n:Int)+(i:Int))=((n+i:Nat):Int):=by rw[IntWalk.i64_in _ (by omega)];omega
           have e2:IntKind.i64.wrap ((n:Int)+(j:Int))=((n+j:Nat):Int):=by rw[IntWalk.i64_in _ (by omega)];omega
           have i1:(0:Int)<((L.length+1:Nat):Int):=by omega
           have HLR:=hid (HLK.o _ (hm9.map.ext (Ext.refl w9).drew))
           have HKS:=hid (fun(w':World) (hc:Chg (fun b=>b=pb) w9 w')=>(show w'.cell? ⟨sb,3,none⟩=some (.map (some cm))/\w'.cell? ⟨aP,0,none⟩=some (.int .i64 q)/\w'.cell? ⟨aP,1,none⟩=some (.int .i64 off)/\w'.cell? ⟨g,0,none⟩=some (.int .i64 i)/\(Instr.lookup 67 (.map (some cm)) (.agg #[.int .i64 q,.int .i64 off]) false).run Tryz.prog w'= .ok (.slice (some ⟨g,0,none⟩) (L.length+1) c7) w' from
            ⟨hc.cell c3 (fun e=>HNE.o e),hc.cell p0 (fun e=>by have h1:aP=pb:=e;have:=HPC.o;have:=HCM7.o;have:=HGE.o;have:=HWN.o;have:=HX5.o.size;omega),hc.cell p1 (fun e=>by have h1:aP=pb:=e;have:=HGE.o;have:=HWN.o;have:=HX5.o.size;omega),hc.cell r0 (fun e=>HGG.o e),HLK.o _ (hc.map HMN.o.map (fun e=>by have:=HPC.o;omega))⟩))
           clear hf9x hm9 hrow9 hf9 hg1 hg2 hi hidem hcfq hve hdd hdd' hbx9 HST HRUN HROW HK6
           cases dd with
           | true=>
            refine wp_region_held_drew (S:=(fun w'=>w'.cell? ⟨sb,3,none⟩=some (.map (some cm))/\w'.cell? ⟨aP,0,none⟩=some (.int .i64 q)/\w'.cell? ⟨aP,1,none⟩=some (.int .i64 off)/\w'.cell? ⟨g,0,none⟩=some (.int .i64 i)/\(Instr.lookup 67 (.map (some cm)) (.agg #[.int .i64 q,.int .i64 off]) false).run Tryz.prog w'= .ok (.slice (some ⟨g,0,none⟩) (L.length+1) c7) w')) (by kernel_rfl) ⟨c3,p0,p1,r0,HLR.o⟩ (fun hSg5q0=>?_);refine Qp 0 1 2 3 4 5 ?_;refine Qp 6 7 8 9 10 11 ?_;refine QJ 12 13 ?_;refine rgC 14 (fun K hK=>?_);go_simp;go_at_call 48;refine(HU.o _ ((Ext.refl w9).drew)).mono ?_;rintro e w10 ⟨rfl,P2,hu,hp2,hc2⟩;have HUN:=hid hu;have HP10:=hid hp2;have HC10:=hid ((Chg.of_ext (fun b=>b=pb) ((Ext.refl w9).drew)).trans hc2);clear hu hp2 hc2;refine rgK hK (HKS.o _ HC10.o) (fun hSg5q1=>?_);clear hK K;refine rgT 15 ?_;refine rgU 16 ?_;refine QJ 17 18 ?_;refine wpAnyH_done (by kernel_rfl) ?_ _;clear c3 p0 p1 r0 e1 e2 i1 HKS HLR HU
            go_wp2
            first
             |go_roundw
             |refine⟨?rel, ?measure⟩
            case rel=>
             have hroot:∀y,Qb P2 y=if Qb P y=max (Qb P (n+i)) (Qb P (n+j)) then min (Qb P (n+i)) (Qb P (n+j)) else Qb P y:=fun y=>by
              have h:=HUN.o.root y;rw[HS1.o.root,HS1.o.root,HS1.o.root]at h;exact h
             refine⟨j+1,P2,_,nc+1,f9,fun q' o=>if q'=q/\o=off then L ++ [j] else cf q' o,by omega,by go_num,rfl,by omega,hid ⟨HUN.o.len.trans (HS1.o.len.trans HP.o.1),HUN.o.dn,.inr ⟨HPA.o,HP10.o⟩⟩,hid ?_,hid (HCL.o.mono (jf hroot)),hid ?_,hid ?_,hid ?_,hid ⟨?_, ?_⟩⟩
             ·exact xD HSO.o (x0:=n+i) (y0:=n+j) (by have:=HLN.o;have:=HIJ.o;omega) (by have:=HLN.o;omega) HVE.o hroot
             ·have h:=HRN.o.step (cf':=fun q' o=>if q'=q/\o=off then L ++ [j] else cf q' o) HCC.o HWV.o HSO.o HCO.o (by show Qb P an<_;rw[HQ.o,HLN.o.2];exact HQL.o) HID.o (i:=i) (by show(cf (Qb P an) off ++ [j])[0]? =_;rw[HCFQ.o];exact HII.o) hroot (fun q' o=>by
               show _=if q'=Qb P an/\o=off then cf (Qb P an) off ++ [j] else cf q' o
               rw[HCFQ.o,HQ.o])
              rw[HDD.o]at h
              first|exact h|simpa using h
             ·exact(HMN.o.chg HC10.o (fun e=>by have:=HPC.o;omega) (fun b hb _ e=>by have:=HPC.o;omega)).same (dW HFF.o HXX.o (L ++ [j]))
             ·exact(((HC.o.ext HX5.o).trans' HC1.o (fun b hb=> .inl (.inl hb))).trans' HC9.o (fun b hb=>by have:=HS4.o;by_cases hbc:b=cm;exact .inl (.inr hbc);exact .inr (by omega))).trans' HC10.o (fun b hb=> .inl (.inl hb))
             ·have h1:=HUN.o.sum;have h2:=HS1.o.sum;have h3:=HSU.o.1;refine⟨by omega,fun h=>?_⟩
              first
               |(have h4:=HUN.o.less (of_decide_eq_true HDE.o);omega)
               |(have h4:=h3.2 (by simpa using h);omega)
             ·intro q' o;show(if q'=q/\o=off then L ++ [j] else cf q' o).length<=j+1
              split
              ·have:=HLL.o;simp;omega
              ·have:=HSU.o.2 q' o;omega
            case measure=>simp [intOf];omega
           | false=>
            refine wp_region_held_drew (S:=(fun w'=>w'.cell? ⟨sb,3,none⟩=some (.map (some cm))/\w'.cell? ⟨aP,0,none⟩=some (.int .i64 q)/\w'.cell? ⟨aP,1,none⟩=some (.int .i64 off)/\w'.cell? ⟨g,0,none⟩=some (.int .i64 i)/\(Instr.lookup 67 (.map (some cm)) (.agg #[.int .i64 q,.int .i64 off]) false).run Tryz.prog w'= .ok (.slice (some ⟨g,0,none⟩) (L.length+1) c7) w')) (by kernel_rfl) ⟨c3,p0,p1,r0,HLR.o⟩ (fun hSg6q0=>?_);refine Qp 0 1 2 3 4 5 ?_;refine Qp 6 7 8 9 10 11 ?_;refine QJ 12 13 ?_;refine rgC 14 (fun K hK=>?_);go_simp;go_at_call 48;refine(HU.o _ ((Ext.refl w9).drew)).mono ?_;rintro e w10 ⟨rfl,P2,hu,hp2,hc2⟩;have HUN:=hid hu;have HP10:=hid hp2;have HC10:=hid ((Chg.of_ext (fun b=>b=pb) ((Ext.refl w9).drew)).trans hc2);clear hu hp2 hc2;refine rgK hK (HKS.o _ HC10.o) (fun hSg6q1=>?_);clear hK K;refine QB 15 16 17 18 ?_;refine wpAnyH_done (by kernel_rfl) ?_ _;clear c3 p0 p1 r0 e1 e2 i1 HKS HLR HU
            go_wp2
            first
             |go_roundw
             |refine⟨?rel, ?measure⟩
            case rel=>
             have hroot:∀y,Qb P2 y=if Qb P y=max (Qb P (n+i)) (Qb P (n+j)) then min (Qb P (n+i)) (Qb P (n+j)) else Qb P y:=fun y=>by
              have h:=HUN.o.root y;rw[HS1.o.root,HS1.o.root,HS1.o.root]at h;exact h
             refine⟨j+1,P2,_,nc+1,f9,fun q' o=>if q'=q/\o=off then L ++ [j] else cf q' o,by omega,by go_num,rfl,by omega,hid ⟨HUN.o.len.trans (HS1.o.len.trans HP.o.1),HUN.o.dn,.inr ⟨HPA.o,HP10.o⟩⟩,hid ?_,hid (HCL.o.mono (jf hroot)),hid ?_,hid ?_,hid ?_,hid ⟨?_, ?_⟩⟩
             ·exact xD HSO.o (x0:=n+i) (y0:=n+j) (by have:=HLN.o;have:=HIJ.o;omega) (by have:=HLN.o;omega) HVE.o hroot
             ·have h:=HRN.o.step (cf':=fun q' o=>if q'=q/\o=off then L ++ [j] else cf q' o) HCC.o HWV.o HSO.o HCO.o (by show Qb P an<_;rw[HQ.o,HLN.o.2];exact HQL.o) HID.o (i:=i) (by show(cf (Qb P an) off ++ [j])[0]? =_;rw[HCFQ.o];exact HII.o) hroot (fun q' o=>by
               show _=if q'=Qb P an/\o=off then cf (Qb P an) off ++ [j] else cf q' o
               rw[HCFQ.o,HQ.o])
              rw[HDD.o]at h
              first|exact h|simpa using h
             ·exact(HMN.o.chg HC10.o (fun e=>by have:=HPC.o;omega) (fun b hb _ e=>by have:=HPC.o;omega)).same (dW HFF.o HXX.o (L ++ [j]))
             ·exact(((HC.o.ext HX5.o).trans' HC1.o (fun b hb=> .inl (.inl hb))).trans' HC9.o (fun b hb=>by have:=HS4.o;by_cases hbc:b=cm;exact .inl (.inr hbc);exact .inr (by omega))).trans' HC10.o (fun b hb=> .inl (.inl hb))
             ·have h1:=HUN.o.sum;have h2:=HS1.o.sum;have h3:=HSU.o.1;refine⟨by omega,fun h=>?_⟩
              first
               |(have h4:=HUN.o.less (of_decide_eq_true HDE.o);omega)
               |(have h4:=h3.2 (by simpa using h);omega)
             ·intro q' o;show(if q'=q/\o=off then L ++ [j] else cf q' o).length<=j+1
              split
              ·have:=HLL.o;simp;omega
              ·have:=HSU.o.2 q' o;omega
            case measure=>simp [intOf];omega
          have HXg7q_0:=hid ((Ext.refl w5).drew);refine rgS 8 rfl rfl (Ext.hc2 c1 c3) (Ext.refl _).drew (fun hSg7q0=>?_);refine QB 0 1 2 4 ?_;refine rgT 5 ?_;refine wpAnyH_ready (rs:=[3,7]) (by kernel_rfl) (by simp) ?_;refine(AllReadyH.consL rfl (fun K hK=>?g7qb3x6) (AllReadyH.consL rfl (fun K hK=>?g7qb7x6) AllReadyH.nil))
          case' g7qb3x6=>
           go_simp;go_at_call 28;refine(HF.o _ HEA.o).mono ?_;rintro e w7 ⟨rfl,P1,hs1,hp1,hc1⟩;have HS1:=hid hs1;have HP1:=hid hp1;have HC1:=hid ((Chg.of_ext _ HEA.o).trans hc1)
           try have HBP:=hid (HBP.o.block (hc1.block aP HBP.o.lt (fun e=>by have:=HGE.o;have:=HWN.o;have:=HX5.o.size;omega)))
           clear hs1 hp1 hc1;refine rgK hK (HSK.o _ HC1.o) (fun hSg7q1=>?_);clear hK K;refine rgT 6 ?_;refine wpAnyH_ready (rs:=[7]) (by kernel_rfl) (by simp) ?_;refine(AllReadyH.consL rfl (fun K hK=>?g7qb7x8) AllReadyH.nil)
           case' g7qb7x8=>
            go_simp
            first|have hN:=vq w7|have hN:=vq w5.drew
            obtain⟨wP,aP,hA1,hsz,hE,hbx,hss⟩:=hN;refine Eq.mpr (congrArg (K _) hA1) ?_
            first|rw[hsz]|(have hq:w5.heap.size=aP:=hsz;rw[hq];clear hq)|skip
            have HBP:=hid hbx;have HGE:Hid (w5.heap.size<=aP):=hid (by first|(have:=HC1.o.size;omega)|exact Nat.le_of_eq hsz)
            first|have HP1:=hid (HP1.o.ext hE)|skip
            first|have HC1:=hid (HC1.o.ext hE)|skip
            first|have HEA:=hid (HEA.o.trans hE)|skip
            clear hA1 hsz hE hbx hss;refine rgK hK (by first|exact HSK.o _ HC1.o|exact HSK.o _ (Chg.of_ext _ HEA.o)) (fun hSg7q2=>?_);clear hK K;refine wpAnyH_done (by kernel_rfl) ?_ _;change wpList _ _ _ _ _ _;obtain⟨W8,hW8,hB8,hH8,hS8,hX8⟩:=Vq HBP.o (.int .i64 q) (.int .i64 off);have HP8:=hid (HP1.o.keep (hH8 pb (fun e=>by have:=HGE.o;have:=HWN.o;have:=HX5.o.size;omega)));have hc8:=(HC1.o.setN (p:=⟨aP,0,none⟩) (.int .i64 q) HGE.o).setN (p:=⟨aP,1,none⟩) (.int .i64 off) HGE.o;rw[hW8]at hc8;have HC8:=hid hc8;clear hc8;have HB8:=hid hB8;have HW8:=hid hW8;obtain⟨z0,z1,zf⟩:=HBP.o;have f0:=zf 0;have f1:=zf 1;clear hW8 hB8 hH8 hS8 hX8 zf
            go_wp2
            rw[HW8.o];go_meet;exact⟨aP,P1,rfl,HB8,HS1,HP8,HC8,HGE⟩
          case' g7qb7x6=>
           go_simp
           first|have hN:=vq w7|have hN:=vq w5.drew
           obtain⟨wP,aP,hA1,hsz,hE,hbx,hss⟩:=hN;refine Eq.mpr (congrArg (K _) hA1) ?_
           first|rw[hsz]|(have hq:w5.heap.size=aP:=hsz;rw[hq];clear hq)|skip
           have HBP:=hid hbx;have HGE:Hid (w5.heap.size<=aP):=hid (by first|(have:=HC1.o.size;omega)|exact Nat.le_of_eq hsz)
           first|have HP1:=hid (HP1.o.ext hE)|skip
           first|have HC1:=hid (HC1.o.ext hE)|skip
           first|have HEA:=hid (HEA.o.trans hE)|skip
           clear hA1 hsz hE hbx hss;refine rgK hK (by first|exact HSK.o _ HC1.o|exact HSK.o _ (Chg.of_ext _ HEA.o)) (fun hSg7q1=>?_);clear hK K;refine wpAnyH_ready (rs:=[3]) (by kernel_rfl) (by simp) ?_;refine(AllReadyH.consL rfl (fun K hK=>?g7qb3x9) AllReadyH.nil)
           case' g7qb3x9=>
            go_simp;go_at_call 28;refine(HF.o _ HEA.o).mono ?_;rintro e w7 ⟨rfl,P1,hs1,hp1,hc1⟩;have HS1:=hid hs1;have HP1:=hid hp1;have HC1:=hid ((Chg.of_ext _ HEA.o).trans hc1)
            try have HBP:=hid (HBP.o.block (hc1.block aP HBP.o.lt (fun e=>by have:=HGE.o;have:=HWN.o;have:=HX5.o.size;omega)))
            clear hs1 hp1 hc1;refine rgK hK (HSK.o _ HC1.o) (fun hSg7q2=>?_);clear hK K;refine rgT 6 ?_;refine wpAnyH_done (by kernel_rfl) ?_ _;change wpList _ _ _ _ _ _;obtain⟨W8,hW8,hB8,hH8,hS8,hX8⟩:=Vq HBP.o (.int .i64 q) (.int .i64 off);have HP8:=hid (HP1.o.keep (hH8 pb (fun e=>by have:=HGE.o;have:=HWN.o;have:=HX5.o.size;omega)));have hc8:=(HC1.o.setN (p:=⟨aP,0,none⟩) (.int .i64 q) HGE.o).setN (p:=⟨aP,1,none⟩) (.int .i64 off) HGE.o;rw[hW8]at hc8;have HC8:=hid hc8;clear hc8;have HB8:=hid hB8;have HW8:=hid hW8;obtain⟨z0,z1,zf⟩:=HBP.o;have f0:=zf 0;have f1:=zf 1;clear hW8 hB8 hH8 hS8 hX8 zf
            go_wp2
            rw[HW8.o];go_meet;exact⟨aP,P1,rfl,HB8,HS1,HP8,HC8,HGE⟩
        ·obtain rfl:j=k:=by omega
         have i1:¬(j:Int)<(j:Int):=by omega
         go_wp2_with fail
         first
          |go_roundw
          |refine⟨?rel, ?measure⟩
         case rel=>
          refine⟨ch,P,.map (some cm),rfl,HP,HSO,HCL,HBW,HCW,hid (fun hch=>?_)⟩;subst hch;have hll:l.length=j:=HL.o.symm;have hrn:=HRN.o;have hcl:=HCL.o;rw[<-hll]at hrn hcl;exact⟨cm,nc,fc,rfl,HLT.o.2.1,hnc,HMO.o.same (fun p=>by split;exact(hrn.cells _ _).symm;rfl),hrn.closed hcl⟩
         case measure=>
          have h1:=mK HP.o;have h2:=HSM1.o;have h3:=HSU.o.1;rw[h1,h2]
          cases ch with
          |true=>have:=h3.2 rfl;simp only;omega
          |false=>simp only;omega
end Go.Proofs.YtlmipgdnlfjpaaaGreat
