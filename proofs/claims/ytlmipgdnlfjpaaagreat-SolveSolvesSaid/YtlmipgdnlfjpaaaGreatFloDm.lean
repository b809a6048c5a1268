/- Lemmas of mine, merged. -/
import Derived.Test.YtlmipgdnlfjpaaaGreatFlom
import Derived.Test.YtlmipgdnlfjpaaaGreatJbdm
import Derived.Test.YtlmipgdnlfjpaaaGreatTycm
import Derived.Test.YtlmipgdnlfjpaaaGreatPlam
set_option linter.unusedSimpArgs false
set_option linter.unusedVariables false
namespace Go.Proofs.YtlmipgdnlfjpaaaGreat
open Go.RowKit Go.Deco Go.Maps
def bq (d:Nat)(D:Zj)(W0:World)(vl:Value)(l:List Con)(n:Nat)(P0:List Nat)(e:Ending)(w':World):Prop:=e= .returned (.tuple #[])/\∃(P:List Nat) (fb scb:Nat) (g:Nat->Value) (F:Nat->List Nat) (SC:List Ty) (wv:Value) (WK:List Nat) (T:Nat->Ty),
 ZQ d D W0 w' vl l n P0 P fb scb (n+l.length) g F SC wv WK/\(∀x,x<n+l.length->SC[x]? =some (T x))/\VW l n (Qb P0) (fun _=>False) T
def muF (l:List Con)(N:Nat)(x:List Nat×List Ty×(Nat->Ty)):Nat:=2 * JV l x.2.2 N+x.1.length
structure FR (d:Nat)(D:Zj)(W0:World)(vl:Value)(l:List Con)(n:Nat)(P0 P:List Nat)(fb scb N:Nat)(g:Nat->Value)(E:Nat->List Nat)(s4:Value)(wr:World)(x:List Nat×List Ty×(Nat->Ty)):Prop where
 flo:ZQ d D W0 wr vl l n P0 P fb scb N g E x.2.1 s4 x.1
 sc:∀y,y<N->x.2.1[y]? =some (x.2.2 y)
 flow:VW l n (Qb P0) (fun y=>y∈x.1) x.2.2
 lt:∀y∈x.1,y<N
 sup:∀y,Kk l (x.2.2 y)
 bd:muF l N x<=2 * (N * l.length)+N
theorem JK (w:World)(j:Nat):∃wA sz,w.alloc (.cells #[.int .i64 j] 3)=wA/\w.heap.size=sz/\Ext w wA/\wA.cell? ⟨sz,0,none⟩=some (.int .i64 j):=⟨_,_,rfl,rfl,(Ext.refl w).alloc _,by simp[go_sem]⟩
set_option maxRecDepth 100000 in
set_option maxHeartbeats 16000000 in
theorem ig {d:Nat} {D:Zj} {w0 W0 w:World} {A:Option Addr} {m me:Nat} {l:List Con} {n:Nat} {P0 P:List Nat} (S:Zw (d+1) D w0 W0 (.slice A m me) l n P0) (h:Q6 D W0 w (.slice A m me) l n P0 P (.slice none 0 0) (.slice none 0 0)):
  Calls Tryz.prog 27 #[.pointer (some ⟨D.b0+5,0,none⟩)] w (bq (d+1) D W0 (.slice A m me) l n P0):=by
 have hlen:=S.sl.len;obtain⟨hc1,hc2⟩:=S.sl.cap;have hhn:=S.hn;have hhm:=S.hm;have hlt:=S.lt;have hcm:=S.base.hcm;have hlo:=S.base.hlo;have hsz:=S.base.hsz;have hgr:=h.chg.size;obtain⟨N,hN⟩:=Qg (n+l.length);obtain⟨sb,hsb⟩:=Qg (D.b0+5);have c0:=h.box.1 0 _ rfl;have c1:=h.box.1 1 _ rfl;have c6:=h.box.1 6 _ rfl;have c7:=h.box.1 7 _ rfl;have f6:=h.box.2.1 6;have f7:=h.box.2.1 7;obtain⟨w1,hr1,ho1,hx1⟩:=uq d w.drew N W0.heap.size (T:=No) (by omega) (by simp;omega);have hsz1:w.drew.heap.size=w.heap.size:=by simp
 rw[hsz1]at hr1 ho1;obtain⟨scb,hscb⟩:=Qg (w.heap.size);rw[hscb]at hr1 ho1;have hx1':Ext w w1:=hx1.drew_left;obtain⟨W1,hW1⟩:=Qg (w1.setCell ⟨sb,7,none⟩ (.slice (some ⟨scb,0,none⟩) N N));have hb1:=(h.box.ext hx1').put (i:=7) (by simp[svL]) (.slice (some ⟨scb,0,none⟩) N N);have hC1:Chg (fun b=>b=sb) w W1:=by rw[<-hW1];exact(Chg.of_ext _ hx1').set _ rfl
 have hsbw:sb<w.heap.size:=by rw[<-hsb];exact h.box.2.2
 have ho1':Qf (tyR (d+1)) W1 W0.heap.size 42 No (.slice (some ⟨scb,0,none⟩) N N) (List.replicate N Ty.unk):=by
  rw[<-hW1];exact ho1.set_far (p:=⟨sb,7,none⟩) (fun e=>by have e':some scb=some sb:=e;injection e' with e';omega) (fun b hb=>hb.elim)
 have hscw:scb<w1.heap.size:=(ho1.block scb rfl).2;have hw1s:W1.heap.size=w1.heap.size:=by rw[<-hW1];simp
 rw[hsb]at hb1;rw[hW1]at hb1;obtain⟨w3,hr3,hrw3,hx3⟩:=aK W1 N (by omega);obtain⟨fb,hfb⟩:=Qg (W1.heap.size);rw[hfb]at hr3 hrw3;obtain⟨W4,hW4⟩:=Qg (w3.setCell ⟨sb,6,none⟩ (.slice (some ⟨fb,0,none⟩) N N));have hb4:=(hb1.ext hx3).put (i:=6) (by simp[svL]) (.slice (some ⟨fb,0,none⟩) N N);rw[hW4]at hb4;have hC4:Chg (fun b=>b=sb) w W4:=by rw[<-hW4];exact(hC1.ext hx3).set _ rfl
 have hC34:Chg (fun b=>b=sb) w3 W4:=by rw[<-hW4];exact Chg.of_set _ _ rfl
 have hpb:=S.base.hpb
 have hF4:ZQ (d+1) D W0 W4 (.slice A m me) l n P0 P fb scb N (fun _=> .slice none 0 0) (fun _=>[]) (List.replicate N Ty.unk) (.slice none 0 0) []:=by
  refine⟨⟨h.chg.trans' hC4 (fun b hb=> .inl (.inr (.inr (.inr (.inr (by rw[hb,<-hsb])))))), ?_,h.par.keep (fun hN hl=>hC4.block _ hl (fun e=>by omega)),h.same⟩,hrw3.chg hC34 (fun e=>by omega) (fun i b _ hb=>by simp[Value.ownBlock]at hb), ?_,Qf.nil,fun i q _ hq=>by simp[Value.ownBlock]at hq,hN.symm,by omega⟩
  ·rw[hsb];simpa [svL,List.set,hN] using hb4
  ·exact(hC34.own (ho1'.ext hx3) (fun b hb e=>by have e':some scb=some b:=hb;injection e' with e';omega) (fun b hb=>hb.elim)).monoT (fun b hb _=>hb.elim)
 have HF4:=hid hF4;have HS:=hid S;have HNN:=hid hN;have HSB:=hid hsb;have hmN:m<=N:=by omega
 have hm6:m<=65536:=by omega
 have e1:IntKind.i64.wrap ((n:Int)+(m:Int))=(N:Int):=by rw[IntWalk.i64_in _ (by omega)];omega
 have HR1:=hid hr1;have HC1:=hid hC1;have HX3:=hid hx3;have HW1:=hid hW1;have HW4:=hid hW4;have HR3:=hid hr3;have HL:=hid hlen;have HSZ:Hid (N<=131072):=hid (by omega);have HX1:=hid hx1';have c6':=hC1.frozen (p:=⟨sb,6,none⟩) hsbw;have d7:=hb1.1 7 _ rfl;have d6:=hb1.1 6 _ rfl;have g6:=hb1.2.1 6;rw[hsb]at c0 c1 c6 c7 f6 f7;have f7:=(hx1'.frozen (p:=⟨sb,7,none⟩) (by omega)).trans f7;have c7:=hx1'.cell c7;have x6:=hx3.cell d6;have y6:=(hx3.frozen (p:=⟨sb,6,none⟩) (by show sb<W1.heap.size;have:=hx1'.size;omega)).trans g6;clear hF4 hN hr1 hC1 hC4 hC34 hx3 hx1' hW1 hW4 hr3 hb1 hb4 hpb hrw3 ho1 ho1' c6' hx1 hscb hscw hw1s hlt hgr hsz hlo hcm hsz1 S h hc1 hc2 hlen hhn hhm hsbw hfb c6 f6 hsb;rw[HSB.o];go_enter Tryz.func27,Tryz.ntmps27;go_upto_region 0 with fail
 refine rgS 14 rfl rfl (Ext.hc2 c0 c1) (Ext.refl _).drew (fun hSg1q0=>?_);refine Qp 0 1 2 3 4 5 ?_;refine QB 6 7 8 9 ?_;refine rgT 10 ?_;refine rgC 11 (fun K hK=>?_);go_simp;rw[HR1.o];go_simp;refine rgK hK ⟨HX1.o.cell c0,HX1.o.cell c1⟩ (fun hSg1q1=>?_);clear hK K;refine QJ 12 13 ?_;refine wpAnyH_done (by kernel_rfl) ?_ _;change wpList _ _ _ _ _ _;clear c0 c1 e1;go_upto_region 1 with fail
 rw[HW1.o];clear c7 f7;have hms:=HR3.o;go_upto_region 2 with fail
 rw[HW4.o];clear hms x6 y6 d7 d6 g6;have b0:=HF4.o.now.box.1 0 _ rfl;rw[HSB.o]at b0
 go_wp2_with fail
 clear b0
 go_loopw [39] (fun i wr=>∃(k:Nat) (P:List Nat) (g:Nat->Value) (SC:List Ty),k<=m/\i= .int .i64 k/\Hid (ZQ (d+1) D W0 wr (.slice A m me) l n P0 P fb scb N g (ZV l n (Qb P0) k) SC (.slice none 0 0) [])/\Hid (∀x,x<N->SC[x]? =some (ZP l k x))) (fun i _=>m - (intOf i).toNat)
 case atStart=>exact⟨0,P,_,_,by omega,rfl,hid (HF4.o.same (fun i=>rfl)),hid (fun x hx=>by simp[hx,ZP])⟩
 case round =>
  clear HF4 HX3 HX1 HC1 HW1 HW4 HR1 HR3;obtain⟨k,P,g,SC,hk,rfl,HF,HSC⟩:=hrel;by_cases h1:k<m
  ·obtain ⟨c,hc⟩:∃c,l[k]? =some c:=⟨_,Qq (by have:=HL.o;omega)⟩;have HCC:=hid hc;have HCO:=hid (HS.o.ok c (Qx hc));have HXO:=hid (HF.o.now.old HS.o);have HNP:Hid (0<N):=hid (by omega);obtain⟨d',bx,ox,P1,np1,cp1,P2,np2,cp2,hd,rfl,hv1,hbx, -⟩:=((HS.o.sl.ext HXO.o)).con_at hc;have HCV:=hid hv1;obtain⟨x0,x1,x2,x3,x4,x5,x6,x7,x8,x9⟩:=hbx;obtain⟨W15,hW15⟩:=Qg ((wr).alloc (.cells #[.int .i64 0,.int .i64 0,.int .i64 0,.int .i64 0,.int .i64 0,.int .i64 0,.int .i64 0,.int .i64 0,.slice none 0 0,.slice none 0 0] 48));have hB1:Zg W15 (wr).heap.size ZW:=by rw[<-hW15];exact Zg.new wr ZW _
   have hE1:Ext wr W15:=by rw[<-hW15];exact(Ext.refl _).alloc _
   obtain⟨W25,hW2,hB2,hH2,hS2,hX2⟩:=Jj hB1 c P1 np1 cp1 P2 np2 cp2;have HXC5:=hid (hX2 wr hE1 (Nat.le_refl _));have HWC5:=hid hW2;have HBC5:=hid hB2;have z0:=hB1.1 0 _ rfl;have z1:=hB1.1 1 _ rfl;have z2:=hB1.1 2 _ rfl;have z3:=hB1.1 3 _ rfl;have z4:=hB1.1 4 _ rfl;have z5:=hB1.1 5 _ rfl;have z6:=hB1.1 6 _ rfl;have z7:=hB1.1 7 _ rfl;have z8:=hB1.1 8 _ rfl;have z9:=hB1.1 9 _ rfl;have y0:=hB1.2.1 0;have y1:=hB1.2.1 1;have y2:=hB1.2.1 2;have y3:=hB1.2.1 3;have y4:=hB1.2.1 4;have y5:=hB1.2.1 5;have y6:=hB1.2.1 6;have y7:=hB1.2.1 7;have y8:=hB1.2.1 8;have y9:=hB1.2.1 9;have HCV5:=hid (HCV.o.ext HXC5.o);clear hW2 hB2 hH2 hS2 hX2 hE1 hv1 HCV hB1;have HF5:=hid (HF.o.ext HXC5.o);have HWR:Hid (wr.heap.size<W25.heap.size/\fb<wr.heap.size/\scb<fb/\W0.heap.size<=scb/\sb<W0.heap.size/\D.pb<W0.heap.size):=hid ⟨World.block_lt_of_cell? _ _ HBC5.o.1,HF.o.rows.lt,HF.o.lt,HF.o.big.1,by have:=HS.o.base.hcm;have:=HS.o.base.hlo;have:=HS.o.base.hsz;have:=HSB.o;omega,HF.o.pb HS.o HNP.o⟩;clear hc;go_upto_region 5 with fail
   rw[HWC5.o];clear z0 z1 z2 z3 z4 z5 z6 z7 z8 z9 y0 y1 y2 y3 y4 y5 y6 y7 y8 y9 x0 x1 x2 x3 x4 x5 x6 x7 x8 x9 hW15;obtain⟨c0,c1,c2,c3,c4,c5,c6,c7,c8,c9⟩:=HBC5.o;rw[Nat.zero_add]at c1 c2 c3 c4 c5 c6 c7 c8 c9;obtain⟨kd,ca,cb',off,wd,ct⟩:=c;simp only at c0 c1 c2 c3 c4 c5 c6 c7 c8 c9 HCV5 HBC5 HWC5;have ha:=HCO.o.a0;obtain⟨an,rfl⟩:∃an:Nat,ca=an:=⟨ca.toNat,(Qk ha).symm⟩;have HAN:Hid (an<N/\an<n):=hid (by have h1:(an:Int)<n:=HCO.o.a1;have:=HNN.o;omega);clear ha;by_cases hk0:kd=0
   ·have g1:(kd == 0)=true:=by simp[hk0]
    have hb:=HCO.o.b0 (by simp[hk0]);obtain⟨bn,rfl⟩:∃bn:Nat,cb'=bn:=⟨cb'.toNat,(Qk hb).symm⟩;have HBN:Hid (bn<N):=hid (by have h1:(bn:Int)<n:=HCO.o.b1 (by simp[hk0]);have:=HNN.o;omega);have HED:Hid (Xf l n (Qb P0) ⟨kd,(an:Int),(bn:Int),off,wd,ct⟩=some (an,bn)):=hid (by unfold Xf;rw[if_pos hk0];rfl);have HK1:Hid (kd≠1):=hid (by omega);clear hk0 hb;go_upto_region 6 with fail
    clear c0 c3 c4 c5 c6 c7 c8 c9 g1;have HRO:=hid ((HF5.o.rows.row an (by first|exact HAN.o.1|exact HBN.o|exact HCN.o)).ext ((Ext.refl W25).drew.alloc (.cells #[.int .i64 (bn:Nat)] 3)));have HRB:Hid (∀q,(g an).ownBlock=some q->fb<q/\q<wr.heap.size):=hid (fun q hq=>⟨HF.o.big.2.2.1 an q (by first|exact HAN.o.1|exact HBN.o|exact HCN.o) hq,((HF.o.rows.row an (by first|exact HAN.o.1|exact HBN.o|exact HCN.o)).block q hq).2⟩);have HLE:Hid ((ZV l n (Qb P0) k an).length<=k):=hid (zQ _ _);have b6:=HF5.o.now.box.1 6 _ rfl;rw[HSB.o]at b6;have r0:=HF5.o.rows.cell an (by first|exact HAN.o.1|exact HBN.o|exact HCN.o);have rf:=HF5.o.rows.fro an;obtain⟨gv,hgv⟩:=Qg (g an);rw[hgv]at r0 HRO HRB;have HGV:=hid hgv;clear hgv;have i1:an<N:=(by first|exact HAN.o.1|exact HBN.o|exact HCN.o);refine rgS 19 rfl rfl (Ext.hc4 b6 c1 c2 r0) (Ext.refl _).drew (fun hSg2q0=>?_);refine Qp 0 1 2 3 4 5 ?_;refine Qp 6 7 8 9 10 11 ?_;refine QB 12 13 14 15 ?_;refine rgC 16 (fun K hK=>?_);go_simp;refine rgK hK ⟨((Ext.refl W25).drew.alloc _).cell b6,((Ext.refl W25).drew.alloc _).cell c1,((Ext.refl W25).drew.alloc _).cell c2,((Ext.refl W25).drew.alloc _).cell r0⟩ (fun hSg2q1=>?_);clear hK K;refine rgC 17 (fun K hK=>?_);refine JP rfl (.tmp 61) (.tmp 64) rfl (fb+1) gv (ZV l n (Qb P0) k an) rfl HRO.o W25.heap.size bn rfl (kc W25 bn) (by first|(have:=HBN.o;have:=HSZ.o;omega)|(have:=HCN.o;have:=HSZ.o;omega)) (by have:=HLE.o;have:=HSZ.o;omega) (by have h1:=HWR.o;have h2:=HF5.o.rows.lt;simp;omega) ?_;intro A7 c7 w7 ho7 hg7 hl7;have hcg:Chg (fun b=>gv.ownBlock=some b) W25 w7:=(Chg.of_ext _ ((Ext.refl W25).drew.alloc _)).trans (Chg.of_grown' hg7 (fun b hb=>hb));have HCG:=hid hcg;have hap:=HF5.o.app HS.o (a:=an) (y:=bn) (by first|exact HAN.o.1|exact HBN.o|exact HCN.o) (by rw[HGV.o];exact hcg) ho7 (fun q hq=>by rw[HGV.o];rcases hl7 q hq with e|e;exact .inl e;exact .inr (by simp at e;omega));have HAP:=hid hap;clear ho7 hg7 hl7 hap hcg;refine rgK hK ⟨HCG.o.cell b6 (fun e=>by have h1:=HRB.o sb e;have:=HWR.o;omega),HCG.o.cell c1 (fun e=>by have h1:=HRB.o wr.heap.size e;omega),HCG.o.cell c2 (fun e=>by have h1:=HRB.o wr.heap.size e;omega),HCG.o.cell r0 (fun e=>by have h1:=HRB.o fb e;omega)⟩ (fun hSg2q2=>?_);clear hK K;refine rgT 18 ?_;refine wpAnyH_done (by kernel_rfl) ?_ _;change wpList _ _ _ _ _ _;have r0:=HCG.o.cell r0 (fun e=>by have h1:=HRB.o fb e;omega);have rf:=(HCG.o.frozen (p:=⟨fb,an,none⟩) (by have:=HF5.o.rows.lt;exact this) (fun e=>by have h1:=HRB.o fb e;omega)).trans rf;clear b6 c1 c2 HRO HRB i1
    go_wp2
    first
     |go_roundw
     |refine⟨?rel, ?measure⟩
    case rel=>exact⟨k+1,_,_,SC,by omega,by go_num,hid (HAP.o.same (zc HCC.o HED.o)),hid (fun x hx=>by rw[qK HCC.o HK1.o];exact HSC.o x hx)⟩
    case measure=>simp [intOf];omega
   ·have g1 :(kd == 0)=false:=by simp[hk0]
    by_cases hk1:kd=1
    ·have g2:(kd == 1)=true:=by simp[hk1]
     obtain rfl:d'=d:=by omega
     obtain⟨x,hx⟩:∃x,SC[an]? =some x:=⟨_,HSC.o an HAN.o.1⟩;have HXX:=hid hx;have HXI:Hid (x=ZP l k an):=hid (by have h2:=HSC.o an HAN.o.1;rw[hx]at h2;injection h2);obtain⟨d2,A3,n3,c3',B3,m3,e3,hd2,hvx,y0,y1,y2,y3,y4,hfr⟩:=JD HF5.o.scal hx;obtain rfl:d2=d':=by omega
     have g3:=hfr 0 (by omega);rw[Nat.add_zero]at g3;have g4:=hfr 1 (by omega);have g5:=hfr 2 (by omega);have g6:=hfr 3 (by omega);have g7:=hfr 4 (by omega);have hvc:=(J3 (c:=⟨kd,(an:Int),cb',off,wd,ct⟩) HCV5.o).2;have HVX:=hid (TyV.mono (S':=All) (fun _ _ _=>trivial) hvx);have HVC:=hid hvc;obtain⟨t,ht⟩:=Qg (QX x ct);have HT:=hid ht
     have HJ:=hid (fun w' (hw:Ext W25 w')=>(show Calls Tryz.prog 43 #[.agg #[.int .i64 x.kind,.int .i64 x.size,.int .i64 x.count,.slice A3 n3 c3',.slice B3 m3 e3],.agg #[.int .i64 ct.kind,.int .i64 ct.size,.int .i64 ct.count,.slice P1 np1 cp1,.slice P2 np2 cp2]] w' (KM d2 w' t) from by
      rw[<-ht,<-wG (by rw[HXI.o];exact Jq HS.o.ok _ _) (HCO.o.t hk1)];exact mg d2 w' x ct _ _ (HVX.o.ext hw) (HVC.o.ext hw)))
     have HK1:=hid hk1;have b7:=HF5.o.now.box.1 7 _ rfl;rw[HSB.o]at b7;have i1:an<N:=HAN.o.1;clear hx hvx hvc ht hfr hk1 hk0;go_upto_region 8 with fail
     clear c0 c2 c3 c4;refine rgS 18 rfl rfl (Ext.hc12 b7 c1 c5 c6 c7 c8 c9 y0 y1 y2 y3 y4) (Ext.refl _).drew (fun hSg3q0=>?_);refine Qp 0 1 2 3 4 5 ?_;refine Qp 6 7 8 9 10 11 ?_;refine QB 12 13 14 15 ?_;refine rgC 16 (fun K hK=>?_);go_simp;go_at_call 43;refine(HJ.o _ (Ext.refl W25).drew).mono ?_;rintro e w5 ⟨_,rfl,⟨A5,n5,c5',B5,m5,e5,rfl,hv5⟩,hx5⟩;have HX5:=hid hx5.drew_left;have HV5:=hid hv5;clear hx5 hv5;refine rgK hK ⟨HX5.o.cell b7,HX5.o.cell c1,HX5.o.cell c5,HX5.o.cell c6,HX5.o.cell c7,HX5.o.cell c8,HX5.o.cell c9,HX5.o.cell y0,HX5.o.cell y1,HX5.o.cell y2,HX5.o.cell y3,HX5.o.cell y4⟩ (fun hSg3q1=>?_);clear hK K;refine rgT 17 ?_;refine wpAnyH_done (by kernel_rfl) ?_ _;change wpList _ _ _ _ _ _;have hput:=HF5.o.put HS.o HX5.o HXX.o (x':=t) (A:=A5) (n1:=n5) (c1:=c5') (B:=B5) (m1:=m5) (e1:=e5) (TyV.mono (fun b hb _=>by simpa using hb) ⟨A5,n5,c5',B5,m5,e5,rfl,HV5.o⟩);have HPUT:=hid hput;have HZ5:Hid (scb<W25.heap.size):=hid (HF5.o.scal.block scb rfl).2;have g3:=(HX5.o.frozen (p:=⟨scb,an * 5,none⟩) HZ5.o).trans g3;have g4:=(HX5.o.frozen (p:=⟨scb,an * 5+1,none⟩) HZ5.o).trans g4;have g5:=(HX5.o.frozen (p:=⟨scb,an * 5+2,none⟩) HZ5.o).trans g5;have g6:=(HX5.o.frozen (p:=⟨scb,an * 5+3,none⟩) HZ5.o).trans g6;have g7:=(HX5.o.frozen (p:=⟨scb,an * 5+4,none⟩) HZ5.o).trans g7;have y0:=HX5.o.cell y0;have y1:=HX5.o.cell y1;have y2:=HX5.o.cell y2;have y3:=HX5.o.cell y3;have y4:=HX5.o.cell y4;clear hput b7 c1 c5 c6 c7 c8 c9 i1
     go_wp2
     first
      |go_roundw
      |refine⟨?rel, ?measure⟩
     case rel=>
      refine⟨k+1,_,_,SC.set an t,by omega,by go_num,hid (HPUT.o.same (bX HCC.o (by unfold Xf;rw[if_neg (by show ¬kd=0;have:=HK1.o;omega),if_neg (fun e=>(Zp e).1 HK1.o)]))),hid (fun y hy=>?_)⟩;rw[G0 HCC.o HK1.o (a:=an) rfl];by_cases hya:y=an
      ·subst hya;have hlt:=(Qz HXX.o).1;rw[if_pos rfl,<-HXI.o,HT.o,List.getElem?_set_self hlt]
      ·rw[if_neg hya,List.getElem?_set_ne (Ne.symm hya)];exact HSC.o y hy
     case measure=>simp [intOf];omega
    ·have g2:(kd == 1)=false:=by simp[hk1]
     have HK1:=hid hk1;have HWD:=hid (fun w' (hw:Ext W25 w')=>ky d' w' _ _ (HCV5.o.ext hw));obtain⟨wv,hwv⟩:=Qg (QQ ⟨kd,(an:Int),cb',off,wd,ct⟩);rw[hwv]at HWD;have HWV:=hid hwv;have HK0:=hid hk0;clear hwv hk0 hk1
     go_wp2_with fail
     refine(HWD.o _ (Ext.refl _)).mono ?_;rintro e w5 ⟨rfl,hx5⟩;have HX5:=hid hx5;have HF6:=hid (HF5.o.ext hx5);have c0:=hx5.cell c0;have c1:=hx5.cell c1;have c2:=hx5.cell c2;have c3:=hx5.cell c3;have c4:=hx5.cell c4;have c5:=hx5.cell c5;have c6:=hx5.cell c6;have c7:=hx5.cell c7;have c8:=hx5.cell c8;have c9:=hx5.cell c9;clear hx5
     cases wv with
     | false=>
      go_wp2_with fail
      refine(HWD.o _ HX5.o).mono ?_;rintro e w7 ⟨rfl,hx7⟩;have HF7:=hid (HF6.o.ext hx7);clear hx7 c0 c1 c2 c3 c4 c5 c6 c7 c8 c9
      go_wp2
      first
       |go_roundw
       |refine⟨?rel, ?measure⟩
      case rel=>exact⟨k+1,_,_,SC,by omega,by go_num,hid (HF7.o.same (bX HCC.o (by unfold Xf;rw[if_neg HK0.o,if_neg (by rw[HWV.o];simp)]))),hid (fun x hx=>by rw[qK HCC.o HK1.o];exact HSC.o x hx)⟩
      case measure=>simp [intOf];omega
     | true =>
      have hb:=HCO.o.b0 (by exact HK1.o);obtain⟨bn,rfl⟩:∃bn:Nat,cb'=bn:=⟨cb'.toNat,(Qk hb).symm⟩;have HBN:Hid (bn<N):=hid (by have h1:(bn:Int)<n:=HCO.o.b1 (by exact HK1.o);have:=HNN.o;omega);obtain⟨cn,hcn⟩:=Qg (Xv l n (Qb P0) ⟨kd,(an:Int),(bn:Int),off,wd,ct⟩);have HCN:Hid (cn<N):=hid (by rw[<-hcn,<-HNN.o];exact pV (Qx HCC.o) HWV.o)
      have HCO2:=hid (fun(w':World) (P':List Nat) (hw:Q6 D W0 w' (.slice (some ⟨bx,ox,none⟩) m me) l n P0 P' (.slice (some ⟨fb,0,none⟩) N N) (.slice (some ⟨scb,0,none⟩) N N))=>(show Calls Tryz.prog 50 #[.pointer (some ⟨sb,0,none⟩),.int .i64 k] w' (fun e w''=>e= .returned (.int .i64 (cn:Nat))/\∃P'',Q6 D W0 w'' (.slice (some ⟨bx,ox,none⟩) m me) l n P0 P'' (.slice (some ⟨fb,0,none⟩) N N) (.slice (some ⟨scb,0,none⟩) N N)/\Chg (fun b=>b=D.pb) w' w'') from by
       rw[<-hcn,<-HSB.o];exact fB HS.o hw HCC.o HWV.o))
      by_cases hk2:kd=2
      ·have g3:(kd == 2)=true:=by simp[hk2]
       have HED:Hid (Xf l n (Qb P0) ⟨kd,(an:Int),(bn:Int),off,wd,ct⟩=some (cn,bn)):=hid (by unfold Xf;rw[if_neg HK0.o,if_pos HWV.o,if_pos hk2,hcn];rfl);clear hk2 hcn hb;go_upto_region 10 with fail
       have HRB:Hid (∀q,(g cn).ownBlock=some q->fb<q/\q<wr.heap.size):=hid (fun q hq=>⟨HF.o.big.2.2.1 cn q HCN.o hq,((HF.o.rows.row cn HCN.o).block q hq).2⟩);have HLE:Hid ((ZV l n (Qb P0) k cn).length<=k):=hid (zQ _ _);obtain⟨gv,hgv⟩:=Qg (g cn);rw[hgv]at HRB;have HGV:=hid hgv;have HSK:=hid (fun(w':World) (P':List Nat) (hF:ZQ (d+1) D W0 w' (.slice (some ⟨bx,ox,none⟩) m me) l n P0 P' fb scb N g (ZV l n (Qb P0) k) SC (.slice none 0 0) []) (hC:Chg (fun b=>b=D.pb) w5 w')=>(show w'.cell? ⟨sb,6,none⟩=some (.slice (some ⟨fb,0,none⟩) N N)/\w'.cell? ⟨wr.heap.size,2,none⟩=some (.int .i64 bn)/\w'.cell? ⟨fb,cn,none⟩=some gv from⟨by rw[<-HSB.o];exact hF.now.box.1 6 _ rfl,hC.cell c2 (fun e=>by have h1:wr.heap.size=D.pb:=e;have:=HWR.o;have:=HF.o.now.chg.size;omega),by rw[<-HGV.o];exact hF.rows.cell cn HCN.o⟩));have HFW:=hid (HF6.o.ext (Ext.refl w5).drew);have HCW:=hid (Chg.of_ext (fun b=>b=D.pb) (Ext.refl w5).drew);have HS0:=hid (HSK.o _ _ HFW.o HCW.o);have i1:cn<N:=HCN.o;clear hgv c2 c0 c1 c3 c4 c5 c6 c7 c8 c9;have HXg4q_0:=hid ((Ext.refl w5).drew);refine VK 21 (by kernel_rfl) rfl rfl (by kernel_rfl) (fun w'=>w'.cell? ⟨sb,6,none⟩=some (.slice (some ⟨fb,0,none⟩) N N)/\w'.cell? ⟨wr.heap.size,2,none⟩=some (.int .i64 bn)/\w'.cell? ⟨fb,cn,none⟩=some gv) HS0.o (fun hSg4q0=>?_);refine Qp 0 1 2 3 4 5 ?_;refine Qp 7 8 9 10 11 12 ?_;refine QJ 16 17 ?_;refine wpAnyH_ready (rs:=[6,18]) (by kernel_rfl) (by simp) ?_;refine(AllReadyH.consL rfl (fun K hK=>?g4qb6x15) (AllReadyH.consL rfl (fun K hK=>?g4qb18x15) AllReadyH.nil))
       case' g4qb6x15=>
        go_simp;go_at_call 50;refine(HCO2.o _ _ HFW.o.now).mono ?_;rintro e w7 ⟨rfl,P7,hn7,hc7⟩;have HFW:=hid (HFW.o.find HS.o HNP.o hn7 hc7);have HCW:=hid (HCW.o.trans hc7)
        try have HAB:=hid (hc7.cell HAB.o (fun e=>by have h1:aB=D.pb:=e;have:=HAG.o;have:=HWR.o;omega))
        clear hn7 hc7;refine rgK hK (HSK.o _ _ HFW.o HCW.o) (fun hSg4q1=>?_);clear hK K;refine wpAnyH_ready (rs:=[13,18]) (by kernel_rfl) (by simp) ?_;refine(AllReadyH.consL rfl (fun K hK=>?g4qb13x16) (AllReadyH.consL rfl (fun K hK=>?g4qb18x16) AllReadyH.nil))
        case' g4qb13x16=>
         go_simp;go_at_call 50;refine(HCO2.o _ _ HFW.o.now).mono ?_;rintro e w8 ⟨rfl,P8,hn8,hc8⟩;have HFW:=hid (HFW.o.find HS.o HNP.o hn8 hc8);have HCW:=hid (HCW.o.trans hc8)
         try have HAB:=hid (hc8.cell HAB.o (fun e=>by have h1:aB=D.pb:=e;have:=HAG.o;have:=HWR.o;omega))
         clear hn8 hc8;refine rgK hK (HSK.o _ _ HFW.o HCW.o) (fun hSg4q2=>?_);clear hK K;refine QJ 14 15 ?_;refine wpAnyH_ready (rs:=[18]) (by kernel_rfl) (by simp) ?_;refine(AllReadyH.consL rfl (fun K hK=>?g4qb18x19) AllReadyH.nil)
         case' g4qb18x19=>
          go_simp
          first|have hN:=JK w8 bn|have hN:=JK w7 bn|have hN:=JK w5.drew bn
          obtain⟨wP,aB,hA1,hsz,hE,hab⟩:=hN;refine Eq.mpr (congrArg (K _) hA1) ?_
          first|rw[hsz]|(have hq:w5.heap.size=aB:=hsz;rw[hq];clear hq)|skip
          have HAG:Hid (wr.heap.size<=aB):=hid (by have h1:=HF6.o.now.chg.size;have h2:=HCW.o.size;have h3:=HX5.o.size;have h4:=HWR.o;have h5:w5.drew.heap.size=w5.heap.size:=rfl;omega);have HAB:=hid hab;have HFW:=hid (HFW.o.ext hE);have HCW:=hid (HCW.o.ext hE);clear hA1 hsz hE hab;refine rgK hK (HSK.o _ _ HFW.o HCW.o) (fun hSg4q3=>?_);clear hK K;refine wpAnyH_ready (rs:=[19]) (by kernel_rfl) (by simp) ?_;refine(AllReadyH.consL rfl (fun K hK=>?g4qb19x20) AllReadyH.nil)
          case' g4qb19x20=>
           have hro:=(HFW.o.rows.row cn HCN.o);rw[HGV.o]at hro;have HRO:=hid hro;clear hro;refine JP rfl (.tmp 112) (.tmp 115) rfl (fb+1) gv (ZV l n (Qb P0) k cn) rfl HRO.o aB bn rfl HAB.o (by have:=HBN.o;have:=HSZ.o;omega) (by have:=HLE.o;have:=HSZ.o;omega) (by have h2:=HFW.o.rows.lt;omega) ?_;intro A7 c7 w9 ho7 hg7 hl7;have hcg:=Chg.of_grown' (M:=fun b=>gv.ownBlock=some b) hg7 (fun b hb=>hb);have HCG:=hid hcg;have hap:=HFW.o.app HS.o (a:=cn) (y:=bn) HCN.o (by rw[HGV.o];exact hcg) ho7 (fun q hq=>by rw[HGV.o];exact hl7 q hq);have HAP:=hid hap;have HKE:=hid (HSK.o _ _ HFW.o HCW.o);have HFL:=hid HFW.o.rows.lt;have HFR:=hid (HFW.o.rows.fro cn);clear ho7 hg7 hl7 hap hcg;refine rgK hK ⟨HCG.o.cell HKE.o.1 (fun e=>by have h1:=HRB.o sb e;have:=HWR.o;omega),HCG.o.cell HKE.o.2.1 (fun e=>by have h1:=HRB.o wr.heap.size e;omega),HCG.o.cell HKE.o.2.2 (fun e=>by have h1:=HRB.o fb e;omega)⟩ (fun hSg4q4=>?_);clear hK K;refine rgT 20 ?_;refine wpAnyH_done (by kernel_rfl) ?_ _;change wpList _ _ _ _ _ _;have r0:=HCG.o.cell HKE.o.2.2 (fun e=>by have h1:=HRB.o fb e;omega);have rf:=(HCG.o.frozen (p:=⟨fb,cn,none⟩) HFL.o (fun e=>by have h1:=HRB.o fb e;omega)).trans HFR.o
           go_wp2
           first
            |go_roundw
            |refine⟨?rel, ?measure⟩
           case rel=>exact⟨k+1,_,_,SC,by omega,by go_num,hid (HAP.o.same (zc HCC.o HED.o)),hid (fun x hx=>by rw[qK HCC.o HK1.o];exact HSC.o x hx)⟩
           case measure=>simp [intOf];omega
        case' g4qb18x16=>
         go_simp
         first|have hN:=JK w8 bn|have hN:=JK w7 bn|have hN:=JK w5.drew bn
         obtain⟨wP,aB,hA1,hsz,hE,hab⟩:=hN;refine Eq.mpr (congrArg (K _) hA1) ?_
         first|rw[hsz]|(have hq:w5.heap.size=aB:=hsz;rw[hq];clear hq)|skip
         have HAG:Hid (wr.heap.size<=aB):=hid (by have h1:=HF6.o.now.chg.size;have h2:=HCW.o.size;have h3:=HX5.o.size;have h4:=HWR.o;have h5:w5.drew.heap.size=w5.heap.size:=rfl;omega);have HAB:=hid hab;have HFW:=hid (HFW.o.ext hE);have HCW:=hid (HCW.o.ext hE);clear hA1 hsz hE hab;refine rgK hK (HSK.o _ _ HFW.o HCW.o) (fun hSg4q2=>?_);clear hK K;refine wpAnyH_ready (rs:=[13]) (by kernel_rfl) (by simp) ?_;refine(AllReadyH.consL rfl (fun K hK=>?g4qb13x22) AllReadyH.nil)
         case' g4qb13x22=>
          go_simp;go_at_call 50;refine(HCO2.o _ _ HFW.o.now).mono ?_;rintro e w8 ⟨rfl,P8,hn8,hc8⟩;have HFW:=hid (HFW.o.find HS.o HNP.o hn8 hc8);have HCW:=hid (HCW.o.trans hc8)
          try have HAB:=hid (hc8.cell HAB.o (fun e=>by have h1:aB=D.pb:=e;have:=HAG.o;have:=HWR.o;omega))
          clear hn8 hc8;refine rgK hK (HSK.o _ _ HFW.o HCW.o) (fun hSg4q3=>?_);clear hK K;refine QJ 14 15 ?_;refine wpAnyH_ready (rs:=[19]) (by kernel_rfl) (by simp) ?_;refine(AllReadyH.consL rfl (fun K hK=>?g4qb19x25) AllReadyH.nil)
          case' g4qb19x25=>
           have hro:=(HFW.o.rows.row cn HCN.o);rw[HGV.o]at hro;have HRO:=hid hro;clear hro;refine JP rfl (.tmp 112) (.tmp 115) rfl (fb+1) gv (ZV l n (Qb P0) k cn) rfl HRO.o aB bn rfl HAB.o (by have:=HBN.o;have:=HSZ.o;omega) (by have:=HLE.o;have:=HSZ.o;omega) (by have h2:=HFW.o.rows.lt;omega) ?_;intro A7 c7 w9 ho7 hg7 hl7;have hcg:=Chg.of_grown' (M:=fun b=>gv.ownBlock=some b) hg7 (fun b hb=>hb);have HCG:=hid hcg;have hap:=HFW.o.app HS.o (a:=cn) (y:=bn) HCN.o (by rw[HGV.o];exact hcg) ho7 (fun q hq=>by rw[HGV.o];exact hl7 q hq);have HAP:=hid hap;have HKE:=hid (HSK.o _ _ HFW.o HCW.o);have HFL:=hid HFW.o.rows.lt;have HFR:=hid (HFW.o.rows.fro cn);clear ho7 hg7 hl7 hap hcg;refine rgK hK ⟨HCG.o.cell HKE.o.1 (fun e=>by have h1:=HRB.o sb e;have:=HWR.o;omega),HCG.o.cell HKE.o.2.1 (fun e=>by have h1:=HRB.o wr.heap.size e;omega),HCG.o.cell HKE.o.2.2 (fun e=>by have h1:=HRB.o fb e;omega)⟩ (fun hSg4q4=>?_);clear hK K;refine rgT 20 ?_;refine wpAnyH_done (by kernel_rfl) ?_ _;change wpList _ _ _ _ _ _;have r0:=HCG.o.cell HKE.o.2.2 (fun e=>by have h1:=HRB.o fb e;omega);have rf:=(HCG.o.frozen (p:=⟨fb,cn,none⟩) HFL.o (fun e=>by have h1:=HRB.o fb e;omega)).trans HFR.o
           go_wp2
           first
            |go_roundw
            |refine⟨?rel, ?measure⟩
           case rel=>exact⟨k+1,_,_,SC,by omega,by go_num,hid (HAP.o.same (zc HCC.o HED.o)),hid (fun x hx=>by rw[qK HCC.o HK1.o];exact HSC.o x hx)⟩
           case measure=>simp [intOf];omega
       case' g4qb18x15=>
        go_simp
        first|have hN:=JK w8 bn|have hN:=JK w7 bn|have hN:=JK w5.drew bn
        obtain⟨wP,aB,hA1,hsz,hE,hab⟩:=hN;refine Eq.mpr (congrArg (K _) hA1) ?_
        first|rw[hsz]|(have hq:w5.heap.size=aB:=hsz;rw[hq];clear hq)|skip
        have HAG:Hid (wr.heap.size<=aB):=hid (by have h1:=HF6.o.now.chg.size;have h2:=HCW.o.size;have h3:=HX5.o.size;have h4:=HWR.o;have h5:w5.drew.heap.size=w5.heap.size:=rfl;omega);have HAB:=hid hab;have HFW:=hid (HFW.o.ext hE);have HCW:=hid (HCW.o.ext hE);clear hA1 hsz hE hab;refine rgK hK (HSK.o _ _ HFW.o HCW.o) (fun hSg4q1=>?_);clear hK K;refine wpAnyH_ready (rs:=[6]) (by kernel_rfl) (by simp) ?_;refine(AllReadyH.consL rfl (fun K hK=>?g4qb6x27) AllReadyH.nil)
        case' g4qb6x27=>
         go_simp;go_at_call 50;refine(HCO2.o _ _ HFW.o.now).mono ?_;rintro e w7 ⟨rfl,P7,hn7,hc7⟩;have HFW:=hid (HFW.o.find HS.o HNP.o hn7 hc7);have HCW:=hid (HCW.o.trans hc7)
         try have HAB:=hid (hc7.cell HAB.o (fun e=>by have h1:aB=D.pb:=e;have:=HAG.o;have:=HWR.o;omega))
         clear hn7 hc7;refine rgK hK (HSK.o _ _ HFW.o HCW.o) (fun hSg4q2=>?_);clear hK K;refine wpAnyH_ready (rs:=[13]) (by kernel_rfl) (by simp) ?_;refine(AllReadyH.consL rfl (fun K hK=>?g4qb13x28) AllReadyH.nil)
         case' g4qb13x28=>
          go_simp;go_at_call 50;refine(HCO2.o _ _ HFW.o.now).mono ?_;rintro e w8 ⟨rfl,P8,hn8,hc8⟩;have HFW:=hid (HFW.o.find HS.o HNP.o hn8 hc8);have HCW:=hid (HCW.o.trans hc8)
          try have HAB:=hid (hc8.cell HAB.o (fun e=>by have h1:aB=D.pb:=e;have:=HAG.o;have:=HWR.o;omega))
          clear hn8 hc8;refine rgK hK (HSK.o _ _ HFW.o HCW.o) (fun hSg4q3=>?_);clear hK K;refine QJ 14 15 ?_;refine wpAnyH_ready (rs:=[19]) (by kernel_rfl) (by simp) ?_;refine(AllReadyH.consL rfl (fun K hK=>?g4qb19x31) AllReadyH.nil)
          case' g4qb19x31=>
           have hro:=(HFW.o.rows.row cn HCN.o);rw[HGV.o]at hro;have HRO:=hid hro;clear hro;refine JP rfl (.tmp 112) (.tmp 115) rfl (fb+1) gv (ZV l n (Qb P0) k cn) rfl HRO.o aB bn rfl HAB.o (by have:=HBN.o;have:=HSZ.o;omega) (by have:=HLE.o;have:=HSZ.o;omega) (by have h2:=HFW.o.rows.lt;omega) ?_;intro A7 c7 w9 ho7 hg7 hl7;have hcg:=Chg.of_grown' (M:=fun b=>gv.ownBlock=some b) hg7 (fun b hb=>hb);have HCG:=hid hcg;have hap:=HFW.o.app HS.o (a:=cn) (y:=bn) HCN.o (by rw[HGV.o];exact hcg) ho7 (fun q hq=>by rw[HGV.o];exact hl7 q hq);have HAP:=hid hap;have HKE:=hid (HSK.o _ _ HFW.o HCW.o);have HFL:=hid HFW.o.rows.lt;have HFR:=hid (HFW.o.rows.fro cn);clear ho7 hg7 hl7 hap hcg;refine rgK hK ⟨HCG.o.cell HKE.o.1 (fun e=>by have h1:=HRB.o sb e;have:=HWR.o;omega),HCG.o.cell HKE.o.2.1 (fun e=>by have h1:=HRB.o wr.heap.size e;omega),HCG.o.cell HKE.o.2.2 (fun e=>by have h1:=HRB.o fb e;omega)⟩ (fun hSg4q4=>?_);clear hK K;refine rgT 20 ?_;refine wpAnyH_done (by kernel_rfl) ?_ _;change wpList _ _ _ _ _ _;have r0:=HCG.o.cell HKE.o.2.2 (fun e=>by have h1:=HRB.o fb e;omega);have rf:=(HCG.o.frozen (p:=⟨fb,cn,none⟩) HFL.o (fun e=>by have h1:=HRB.o fb e;omega)).trans HFR.o
           go_wp2
           first
            |go_roundw
            |refine⟨?rel, ?measure⟩
           case rel=>exact⟨k+1,_,_,SC,by omega,by go_num,hid (HAP.o.same (zc HCC.o HED.o)),hid (fun x hx=>by rw[qK HCC.o HK1.o];exact HSC.o x hx)⟩
           case measure=>simp [intOf];omega
      ·have g3:(kd == 2)=false:=by simp[hk2]
       have HED:Hid (Xf l n (Qb P0) ⟨kd,(an:Int),(bn:Int),off,wd,ct⟩=some (bn,cn)):=hid (by unfold Xf;rw[if_neg HK0.o,if_pos HWV.o,if_neg hk2,hcn];rfl);clear hk2 hcn hb
       go_wp2_with fail
       refine(HWD.o _ HX5.o).mono ?_;rintro e w7 ⟨rfl,hx7⟩;have HF7:=hid (HF6.o.ext hx7);have c2:=hx7.cell c2;have HX7:=hid hx7;clear hx7 c0 c1 c3 c4 c5 c6 c7 c8 c9;go_upto_region 12 with fail
       have HRB:Hid (∀q,(g bn).ownBlock=some q->fb<q/\q<wr.heap.size):=hid (fun q hq=>⟨HF.o.big.2.2.1 bn q HBN.o hq,((HF.o.rows.row bn HBN.o).block q hq).2⟩);have HLE:Hid ((ZV l n (Qb P0) k bn).length<=k):=hid (zQ _ _);obtain⟨gv,hgv⟩:=Qg (g bn);rw[hgv]at HRB;have HGV:=hid hgv;have HSK:=hid (fun(w':World) (P':List Nat) (hF:ZQ (d+1) D W0 w' (.slice (some ⟨bx,ox,none⟩) m me) l n P0 P' fb scb N g (ZV l n (Qb P0) k) SC (.slice none 0 0) []) (hC:Chg (fun b=>b=D.pb) w7 w')=>(show w'.cell? ⟨sb,6,none⟩=some (.slice (some ⟨fb,0,none⟩) N N)/\w'.cell? ⟨wr.heap.size,2,none⟩=some (.int .i64 bn)/\w'.cell? ⟨fb,bn,none⟩=some gv from⟨by rw[<-HSB.o];exact hF.now.box.1 6 _ rfl,hC.cell c2 (fun e=>by have h1:wr.heap.size=D.pb:=e;have:=HWR.o;have:=HF.o.now.chg.size;omega),by rw[<-HGV.o];exact hF.rows.cell bn HBN.o⟩));have HS0:=hid (HSK.o _ _ (HF7.o.ext (Ext.refl w7).drew) (Chg.of_ext _ (Ext.refl w7).drew));have i1:bn<N:=HBN.o;clear hgv c2;refine VK 20 (by kernel_rfl) rfl rfl (by kernel_rfl) (fun w'=>w'.cell? ⟨sb,6,none⟩=some (.slice (some ⟨fb,0,none⟩) N N)/\w'.cell? ⟨wr.heap.size,2,none⟩=some (.int .i64 bn)/\w'.cell? ⟨fb,bn,none⟩=some gv) HS0.o (fun hSg5q0=>?_);refine Qp 0 1 2 3 4 5 ?_;refine Qp 6 7 8 9 10 11 ?_;refine QB 12 13 14 15 ?_;refine rgC 16 (fun K hK=>?_);go_simp;go_at_call 50;refine(HCO2.o _ _ (HF7.o.now.ext (Ext.refl w7).drew)).mono ?_;rintro e w8 ⟨rfl,P8,hn8,hc8⟩;have HC8:=hid ((Chg.of_ext (fun b=>b=D.pb) (Ext.refl w7).drew).trans hc8);have HF8:=hid ((HF7.o.ext (Ext.refl w7).drew).find HS.o HNP.o hn8 hc8);clear hn8 hc8;refine rgK hK (HSK.o _ _ HF8.o HC8.o) (fun hSg5q1=>?_);clear hK K;refine rgC 17 (fun K hK=>?_);go_simp;refine rgK hK ⟨((Ext.refl w8).alloc _).cell (HSK.o _ _ HF8.o HC8.o).1,((Ext.refl w8).alloc _).cell (HSK.o _ _ HF8.o HC8.o).2.1,((Ext.refl w8).alloc _).cell (HSK.o _ _ HF8.o HC8.o).2.2⟩ (fun hSg5q2=>?_);clear hK K;refine rgC 18 (fun K hK=>?_);have hro:=(HF8.o.rows.row bn HBN.o).ext ((Ext.refl w8).alloc (.cells #[.int .i64 (cn:Nat)] 3));rw[HGV.o]at hro;have HRO:=hid hro;clear hro;refine JP rfl (.tmp 134) (.tmp 138) rfl (fb+1) gv (ZV l n (Qb P0) k bn) rfl HRO.o w8.heap.size cn rfl (by simp[go_sem]) (by have:=HCN.o;have:=HSZ.o;omega) (by have:=HLE.o;have:=HSZ.o;omega) (by have h2:=HF8.o.rows.lt;simp;omega) ?_;intro A7 c7 w9 ho7 hg7 hl7;have hcg:Chg (fun b=>gv.ownBlock=some b) w8 w9:=(Chg.of_ext _ ((Ext.refl w8).alloc _)).trans (Chg.of_grown' hg7 (fun b hb=>hb));have HCG:=hid hcg;have hap:=HF8.o.app HS.o (a:=bn) (y:=cn) HBN.o (by rw[HGV.o];exact hcg) ho7 (fun q hq=>by rw[HGV.o];rcases hl7 q hq with e|e;exact .inl e;exact .inr (by simp at e;omega));have HAP:=hid hap;clear ho7 hg7 hl7 hap hcg;refine rgK hK ⟨HCG.o.cell (HSK.o _ _ HF8.o HC8.o).1 (fun e=>by have h1:=HRB.o sb e;have:=HWR.o;omega),HCG.o.cell (HSK.o _ _ HF8.o HC8.o).2.1 (fun e=>by have h1:=HRB.o wr.heap.size e;omega),HCG.o.cell (HSK.o _ _ HF8.o HC8.o).2.2 (fun e=>by have h1:=HRB.o fb e;omega)⟩ (fun hSg5q3=>?_);clear hK K;refine rgT 19 ?_;refine wpAnyH_done (by kernel_rfl) ?_ _;change wpList _ _ _ _ _ _;have r0:=HCG.o.cell (HSK.o _ _ HF8.o HC8.o).2.2 (fun e=>by have h1:=HRB.o fb e;omega);have rf:=(HCG.o.frozen (p:=⟨fb,bn,none⟩) (by have:=HF8.o.rows.lt;exact this) (fun e=>by have h1:=HRB.o fb e;omega)).trans (HF8.o.rows.fro bn);clear HS0 HRB i1
       go_wp2
       first
        |go_roundw
        |refine⟨?rel, ?measure⟩
       case rel=>exact⟨k+1,_,_,SC,by omega,by go_num,hid (HAP.o.same (zc HCC.o HED.o)),hid (fun x hx=>by rw[qK HCC.o HK1.o];exact HSC.o x hx)⟩
       case measure=>simp [intOf];omega
  ·obtain rfl : k=m:=by omega
   have i1:¬(k:Int)<(k:Int):=by omega
   have b7:=HF.o.now.box.1 7 _ rfl;rw[HSB.o]at b7;have hll:l.length=k:=HL.o.symm;have HIN:Hid (∀x,x<N->SC[x]? =some (ZP l l.length x)):=hid (by rw[hll];exact HSC.o);have HFE:Hid (ZQ (d+1) D W0 wr (.slice A k me) l n P0 P fb scb N g (ZV l n (Qb P0) l.length) SC (.slice none 0 0) []):=hid (by rw[hll];exact HF.o);obtain⟨E,hE⟩:=Qg (ZV l n (Qb P0) l.length);rw[hE]at HFE;have HE:=hid hE;obtain⟨T0,hT0⟩:=Qg (ZP l l.length);rw[hT0]at HIN;have HT0:=hid hT0;clear hll hE hT0 HF HSC
   go_wp2_with fail
   clear b7 i1
   go_loopw [4,147] (fun s4 i wr=>∃(j:Nat) (A4:Option Addr) (q c4:Nat),j<=N/\i= .int .i64 j/\s4= .slice A4 q c4/\Hid (ZQ (d+1) D W0 wr (.slice A k me) l n P0 P fb scb N g E SC (.slice A4 q c4) ((List.range j).filter fun x=>decide ((T0 x).kind≠0)))) (fun _ i _=>N - (intOf i).toNat)
   case atStart=>exact⟨0,none,0,0,by omega,rfl,rfl,HFE⟩
   case round =>
    clear HFE;obtain⟨j,A4,q,c4,hj,rfl,rfl,HF⟩:=hrel;by_cases h1:j<N
    ·obtain⟨x,hx⟩:∃x,SC[j]? =some x:=⟨_,HIN.o j h1⟩;have hxt:T0 j=x:=by have h2:=HIN.o j h1;rw[hx]at h2;injection h2 with h2;exact h2.symm
     obtain⟨d2,A3,n3,c3',B3,m3,e3,hd2,hvx,x0,x1,x2,x3,x4,hfr⟩:=JD HF.o.scal hx;obtain⟨W2,hW2⟩:=Qg (wr.alloc (.cells #[.int .i64 0,.int .i64 0,.int .i64 0,.slice none 0 0,.slice none 0 0] 42));have hB2:Qm W2 wr.heap.size (.int .i64 0) (.int .i64 0) (.int .i64 0) (.slice none 0 0) (.slice none 0 0):=by rw[<-hW2];exact Qm.new wr _ _ _ _ _ _
     have hE2:Ext wr W2:=by rw[<-hW2];exact(Ext.refl _).alloc _
     obtain⟨W3,hW3,hB3,hH3,hS3,hX3⟩:=QK hB2 (.int .i64 x.kind) (.int .i64 x.size) (.int .i64 x.count) (.slice A3 n3 c3') (.slice B3 m3 e3);have hE3:Ext wr W3:=hX3 wr hE2 (Nat.le_refl _);have HW3:=hid hW3;have HF3:=hid (HF.o.ext hE3);have HXT:=hid hxt;have hrow:=HF.o.work.len
     have hqj:q<=j:=by
      have h2:((List.range j).filter fun x=>decide ((T0 x).kind≠0)).length<=(List.range j).length:=List.length_filter_le _ _;rw[List.length_range]at h2;omega
     have HRW:Hid (((List.range j).filter fun x=>decide ((T0 x).kind≠0)).length=q):=hid hrow.symm;obtain⟨s0,s1,s2,s3,s4, -⟩:=hB3;obtain⟨z0,z1,z2,z3,z4,zf⟩:=hB2;have y0:=zf 0;have y1:=zf 1;have y2:=zf 2;have y3:=zf 3;have y4:=zf 4;have hN6:N<=131072:=HSZ.o;clear hW3 hH3 hS3 hX3 hE3 hE2 hd2 hvx hx zf hfr hxt hrow;go_upto_region 18 with fail
     rw[HW3.o];clear z0 z1 z2 z3 z4 y0 y1 y2 y3 y4 x0 x1 x2 x3 x4 hW2;by_cases h2:x.kind=0
     ·have g2:(x.kind != 0)=false:=by simp[h2]
      have HK0:=hid h2;clear h2
      go_wp2
      first
       |go_roundw
       |refine⟨?rel, ?measure⟩
      case rel=>exact⟨j+1,A4,q,c4,by omega,by go_num,rfl,hid (by rw[List.range_succ,List.filter_append,List.filter_cons_of_neg (by rw[HXT.o,HK0.o];simp),List.filter_nil,List.append_nil];exact HF3.o)⟩
      case measure=>simp [intOf];omega
     ·have g2:(x.kind != 0)=true:=by simp[h2]
      have HK0:=hid h2;clear h2
      go_wp2_with (first
       |(at_builtin;refine Yg rfl (.tmp 155) (.tmp 157) rfl (fb+1) (.slice A4 q c4) ((List.range j).filter fun x=>decide ((T0 x).kind≠0)) rfl (HF3.o.work.ext ((Ext.refl W3).alloc _)) W3.heap.size j rfl (by simp[go_sem]) (by omega) (by rw[HRW.o];omega) (by have:=HF3.o.rows.lt;simp;omega) ?_;intro A5 c5 w5 ho5 hg5 hl5;rw[HRW.o]at ho5 hl5;rw[HRW.o];have HO5:=hid ho5;have HG5:=hid hg5;have HL5:=hid hl5;clear ho5 hg5 hl5)
       |fail)
      first
       |go_roundw
       |refine⟨?rel, ?measure⟩
      case rel=>
       refine⟨j+1,A5,q+1,c5,by omega,by go_num,rfl,hid ?_⟩;rw[List.range_succ,List.filter_append,List.filter_cons_of_pos (by rw[HXT.o];simpa using HK0.o),List.filter_nil];exact HF3.o.wrk HS.o ((Chg.of_ext _ ((Ext.refl W3).alloc (.cells #[.int .i64 (j:Int)] 3))).trans (Chg.of_grown' HG5.o (fun b hb=>hb))) HO5.o (fun g hg=>by rcases HL5.o g hg with e|e;exact .inl e;exact .inr (by simp at e;omega))
      case measure=>simp [intOf];omega
    ·obtain rfl :j=N:=by omega
     have i1:¬(j:Int)<(j:Int):=by omega
     obtain⟨WK0,hWK⟩:=Qg (((List.range j).filter fun x=>decide ((T0 x).kind≠0)));have hF:=HF.o;rw[hWK]at hF
     have HFR:Hid (∃x,FR (d+1) D W0 (.slice A k me) l n P0 P fb scb j g E (.slice A4 q c4) wr x):=hid (by
      refine⟨(WK0,SC,T0),⟨hF,HIN.o, ?_, ?_, ?_, ?_⟩⟩
      ·have h:=lg (r:=Qb P0) HS.o.ok;rw[HT0.o]at h;refine h.weaken (fun x y hxy hx hnx=>?_)
       exfalso
       apply hnx;show x∈WK0;rw[<-hWK];exact List.mem_filter.2 ⟨List.mem_range.2 (by have:=(dD HS.o.ok hxy).1;have:=HNN.o;omega),by simpa using hx⟩
      ·intro y hy;have hy':y∈WK0:=hy;rw[<-hWK]at hy';exact List.mem_range.1 (List.mem_filter.1 hy').1
      ·intro y;show Kk l (T0 y);rw[<-HT0.o];exact kg HS.o.ok _ _
      ·show 2 * JV l T0 j+WK0.length<=_;have h1:=np (l:=l) T0 j
       have h2:WK0.length<=j:=by
        rw[<-hWK];have:=List.length_filter_le (fun x=>decide ((T0 x).kind≠0)) (List.range j)
        rwa [List.length_range]at this
       omega)
     have HBD:Hid (2 * (j * l.length)+j<=17179869184 * 2):=hid (by
      have h1:j * l.length<=131072 * 65536:=Nat.mul_le_mul HSZ.o HS.o.hm;have:=HSZ.o;omega)
     clear hF hWK HF HIN
     go_wp2_with fail
     go_loopw [4] (fun s4 wr=>∃x,FR (d+1) D W0 (.slice A k me) l n P0 P fb scb j g E s4 wr x) (fun s4 wr=>Jy (FR (d+1) D W0 (.slice A k me) l n P0 P fb scb j g E s4 wr) (muF l j))
     case atStart=>exact HFR.o
     case round =>
      obtain⟨⟨WK,SC,T⟩,hfr,hmu⟩:=wq (μ:=muF l j) hrel;clear hrel HFR;have HMU:=hid hmu;have HFQ:=hid hfr;obtain⟨A4,c4,rfl, -, -⟩:=hfr.flo.work.form;clear hmu hfr;rcases List.eq_nil_or_concat WK with h0|⟨L,kk,hL⟩
      ·subst h0;have i1:¬((0:Nat):Int) > 0:=by omega
       rw[show([]:List Nat).length=0 from rfl]
       go_wp2_with fail
       refine bodyPost_ret (v:= .tuple #[]) (by simp[results,Tryz.results27,go_sem]) rfl ?_;refine⟨rfl,P,fb,scb,g,E,SC,_,[],T,by rw[HNN.o];exact HFQ.o.flo,fun x hx=>HFQ.o.sc x (by rw[<-HNN.o];exact hx),HFQ.o.flow.weaken (fun x y _ hx _=>absurd hx (by simp))⟩
      ·rw [List.concat_eq_append]at hL;subst hL;obtain⟨p,hp⟩:=Qg (L.length);have hql:(L ++ [kk]).length=p+1:=by simp[hp]
       have HQL:=hid hql;have hwk:=HFQ.o.flo.work;rw[hql]at hwk ⊢;obtain⟨wb,rfl,hw1,hw2⟩:=hwk.at0 (by omega);have ck:=(hwk.num_cell (k:=p) (x:=kk) (by rw[List.getElem?_append_right (by omega),hp];simp)).1;obtain⟨hcap, -⟩:=hwk.sl.cap
       have hpb:p<=34359738368:=by
        have h1:=HFQ.o.bd;have h2:=HBD.o;unfold muF at h1;simp only at h1;rw[hql]at h1;omega
       have HPL:=hid hp;have i1:((p+1:Nat):Int) > 0:=by omega
       have i2:(p:Int)<(c4:Int):=by omega
       have i3:(p:Int)<=(c4:Int):=by omega
       clear hp hwk hw1 hw2 hql;have hF7:=HFQ.o.flo.wrk HS.o (wv':= .slice (some ⟨wb,0,none⟩) p c4) (WK':=L) (Chg.refl _ _) (by have h1:=ny (by have h2:=HFQ.o.flo.work;rw[HQL.o]at h2;exact h2);rwa [HPL.o]at h1) (fun q hq=> .inl hq);have HF7:=hid hF7;have hkN:=HFQ.o.lt kk (by simp);have HKN:=hid hkN;have b6:=HFQ.o.flo.now.box.1 6 _ rfl;rw[HSB.o]at b6;have r0:=hF7.rows.cell kk hkN;obtain⟨gA,gc,hgk, -, -⟩:=(hF7.rows.row kk hkN).form;obtain⟨ne,hne⟩:=Qg ((E kk).length);rw[hne]at hgk;rw[hgk]at r0;have HGK:=hid hgk;have HNE:=hid hne;have hne6:ne<=65536:=by rw[<-hne,<-HE.o];have:=zQ (l:=l) (n:=n) (r:=Qb P0) kk l.length;have:=HL.o;omega
       clear hF7 hgk hne
       go_wp2_with fail
       clear b6 r0 ck
       go_loopw [4,182] (fun s4 i wr'=>∃(i':Nat) (WK2:List Nat) (SC2:List Ty) (T2:Nat->Ty),i'<=ne/\i= .int .i64 i'/\Hid (ZQ (d+1) D W0 wr' (.slice A k me) l n P0 P fb scb j g E SC2 s4 WK2)/\Hid (∀y,y<j->SC2[y]? =some (T2 y))/\Hid (VW l n (Qb P0) (fun y=>y∈WK2\/y=kk) T2)/\Hid (∀y∈WK2,y<j)/\Hid (∀y,Kk l (T2 y))/\Hid (muF l j (WK2,SC2,T2)<muF l j (L ++ [kk],SC,T))/\Hid (kk∈WK2\/∀y∈(E kk).take i',QZ (T2 kk) (T2 y)=true)) (fun _ i _=>ne - (intOf i).toNat)
       case atStart=>
        exact⟨0,L,SC,T,by omega,rfl,HF7,hid HFQ.o.sc,hid (HFQ.o.flow.weaken (fun x y _ hx hn=>absurd (by simpa using hx) hn)),hid (fun y hy=>HFQ.o.lt y (by simp[hy])),hid HFQ.o.sup,hid (by unfold muF;simp),hid (.inr (fun y hy=>by simp at hy))⟩
       case round=>
        obtain⟨i',WK2,SC2,T2,hi,rfl,HF,HSC,HFL,HLT,HSU,HM,HPR⟩:=hrel;by_cases h2:i'<ne
        ·obtain ⟨y,hy⟩:∃y,(E kk)[i']? =some y:=⟨_,Qq (by have:=HNE.o;omega)⟩;obtain⟨V,hV⟩:∃V,V=wr:=⟨_,rfl⟩;obtain rfl:=hV;have hrow:=HF.o.rows.row kk HKN.o;rw[HGK.o]at hrow;obtain⟨rb,rfl,hr1,hr2⟩:=hrow.at0 (by omega);have r1:=(hrow.num_cell hy).1;have hyE:Yz l n (Qb P0) kk y:=wK.1 (by rw[HE.o];exact Qx hy);have hyN:y<j:=by have:=(dD HS.o.ok hyE).2;have:=HNN.o;omega
         have HYE:=hid hyE;have HYY:=hid hy;have hsy:=HSC.o y hyN;have hsk:=HSC.o kk HKN.o;obtain⟨d2,A1,n1,c1,B1,m1,e1,hd2,hvy,y0,y1,y2,y3,y4,hfr⟩:=JD HF.o.scal hsy;obtain rfl:d2=d:=by omega
         obtain⟨d3,A2,n2,c2,B2,m2,e2,hd3,hvk,k0,k1,k2,k3,k4, -⟩:=JD HF.o.scal hsk;obtain rfl:d3=d2:=by omega
         have g3:=hfr 0 (by omega);rw[Nat.add_zero]at g3;have g4:=hfr 1 (by omega);have g5:=hfr 2 (by omega);have g6:=hfr 3 (by omega);have g7:=hfr 4 (by omega);obtain⟨t,ht⟩:=Qg (QX (T2 y) (T2 kk));have HT:=hid ht;have HVY:=hid (TyV.mono (S':=All) (fun _ _ _=>trivial) hvy);have HVK:=hid (TyV.mono (S':=All) (fun _ _ _=>trivial) hvk);obtain⟨ty,hty⟩:=Qg (T2 y);obtain⟨tk,htk⟩:=Qg (T2 kk);rw[hty]at y0 y1 y2 HVY;rw[htk]at k0 k1 k2 HVK;rw[hty,htk]at ht;have HTY:=hid hty;have HTK:=hid htk
         have HJ:=hid (fun w' (hw:Ext V w')=>(show Calls Tryz.prog 43 #[.agg #[.int .i64 ty.kind,.int .i64 ty.size,.int .i64 ty.count,.slice A1 n1 c1,.slice B1 m1 e1],.agg #[.int .i64 tk.kind,.int .i64 tk.size,.int .i64 tk.count,.slice A2 n2 c2,.slice B2 m2 e2]] w' (KM d3 w' t) from by
          rw[<-ht,<-wG (by rw[<-HTY.o];exact HFL.o.good y) (by rw[<-HTK.o];exact HFL.o.good kk)];exact mg d3 w' ty tk _ _ (HVY.o.ext hw) (HVK.o.ext hw)))
         have b7:=HF.o.now.box.1 7 _ rfl;rw[HSB.o]at b7;have HSK:=hid (Ext.hc11 b7 y0 y1 y2 y3 y4 k0 k1 k2 k3 k4);have i1:(i':Int)<(ne:Int):=by omega
         have i4:y<j:=hyN;have i5:kk<j:=HKN.o;have HYN:=hid hyN;clear hy hrow hr1 hr2 hyE hyN hsy hsk hvy hvk hfr ht hty htk hd2 hd3;go_upto_region 27 with fail
         clear r1
         go_cut [10] from 186 to 200 (fun s10 wx=>∃(aP:Nat) (A5:Option Addr) (n5 c5:Nat) (B5:Option Addr) (m5 e5:Nat),s10= .pointer (some ⟨aP,0,none⟩)/\Hid (Qm wx aP (.int .i64 t.kind) (.int .i64 t.size) (.int .i64 t.count) (.slice A5 n5 c5) (.slice B5 m5 e5))/\Hid (TyV d3 wx (fun b=>V.heap.size<=b) (.agg #[.int .i64 t.kind,.int .i64 t.size,.int .i64 t.count,.slice A5 n5 c5,.slice B5 m5 e5]) t)/\Hid (Ext V wx))
         case rest=>
          clear k0 k1 k2 k3 k4 i5;obtain⟨aP,A5,n5,c5,B5,m5,e5,rfl,HBP,HVT,HX⟩:=hcut;obtain⟨V2,hV2⟩:∃V2,V2=wc:=⟨_,rfl⟩;obtain rfl:=hV2;obtain⟨p0,p1,p2,p3,p4, -⟩:=HBP.o;have b7:=HX.o.cell b7;have y0:=HX.o.cell y0;have y1:=HX.o.cell y1;have y2:=HX.o.cell y2;have y3:=HX.o.cell y3;have y4:=HX.o.cell y4;obtain⟨z,hz⟩:=Qg (ZC t ty);have HZ:=hid hz
          have HSM:=hid (fun w' (hw:Ext V2 w')=>(show Calls Tryz.prog 51 #[.agg #[.int .i64 t.kind,.int .i64 t.size,.int .i64 t.count,.slice A5 n5 c5,.slice B5 m5 e5],.agg #[.int .i64 ty.kind,.int .i64 ty.size,.int .i64 ty.count,.slice A1 n1 c1,.slice B1 m1 e1]] w' (ZX w' z) from by
           rw[<-hz];exact cB d3 w' t ty _ _ ((TyV.mono (S':=All) (fun _ _ _=>trivial) HVT.o).ext hw) (HVY.o.ext (HX.o.trans hw))))
          clear hz HSK;go_upto_region 28 with fail
          refine rgH (Ext.hc11 b7 y0 y1 y2 y3 y4 p0 p1 p2 p3 p4) (Ext.refl _).drew (fun hSg6q0=>?_);refine Qp 0 1 2 3 4 5 ?_;refine QJ 6 7 ?_;refine rgC 8 (fun K hK=>?_);go_simp;go_at_call 51;refine(HSM.o _ (Ext.refl V2).drew).mono ?_;rintro e w7 ⟨rfl,hx7⟩;have HX7:=hid hx7.drew_left;clear hx7;refine rgK hK ⟨HX7.o.cell b7,HX7.o.cell y0,HX7.o.cell y1,HX7.o.cell y2,HX7.o.cell y3,HX7.o.cell y4,HX7.o.cell p0,HX7.o.cell p1,HX7.o.cell p2,HX7.o.cell p3,HX7.o.cell p4⟩ (fun hSg6q1=>?_);clear hK K;refine rgT 9 ?_;refine wpAnyH_done (by kernel_rfl) ?_ _;have HXV:=hid (HX.o.trans HX7.o);have b7:=HX7.o.cell b7;have p0:=HX7.o.cell p0;have p1:=HX7.o.cell p1;have p2:=HX7.o.cell p2;have p3:=HX7.o.cell p3;have p4:=HX7.o.cell p4;have y0:=HX7.o.cell y0;have y1:=HX7.o.cell y1;have y2:=HX7.o.cell y2;have y3:=HX7.o.cell y3;have y4:=HX7.o.cell y4
          have HTG:Hid (Zq ty=true/\Zq tk=true/\Zq t=true):=hid (by
           have h1:=HFL.o.good y;have h2:=HFL.o.good kk;rw[HTY.o]at h1;rw[HTK.o]at h2;refine⟨h1,h2, ?_⟩;rw[<-HT.o,HTY.o,HTK.o];exact KY h1 h2)
          have HLE:Hid (QZ ty t=true/\QZ tk t=true):=hid (by
           rw[<-HT.o,HTY.o,HTK.o];exact⟨YQ (QP HTG.o.1) (QP HTG.o.2.1),qp (QP HTG.o.1) (QP HTG.o.2.1)⟩)
          have HYI:Hid ((E kk).take (i'+1)=(E kk).take i' ++ [y]):=hid (by
           rw[List.take_add_one,HYY.o];rfl)
          cases z with
          | true=>
           clear b7 y0 y1 y2 y3 y4 p0 p1 p2 p3 p4 g3 g4 g5 g6 g7
           go_wp2
           first
            |go_roundw
            |refine⟨?rel, ?measure⟩
           case rel=>
            refine⟨i'+1,WK2,SC2,T2,by omega,by go_num,hid (HF.o.ext HXV.o),HSC,HFL,HLT,HSU,HM,hid ?_⟩;rcases HPR.o with h3|h3
            ·exact .inl h3
            ·refine .inr (fun y' hy'=>?_);rw[HYI.o]at hy';rcases List.mem_append.1 hy' with h4|h4
             ·exact h3 y' h4
             ·obtain rfl:y'=y:=by simpa using h4
              rw[HTK.o,HTY.o];have h5:=(Vp t ty).1 HZ.o;rw[<-h5];exact HLE.o.2
           case measure=>simp [intOf];omega
          | false=>
           obtain⟨A6,c6,hv6, -, -⟩:=HF.o.work.form;subst hv6;obtain⟨q6,hq6⟩:=Qg (WK2.length);have HQ6:=hid hq6
           have hwl:q6<=1000000000 * 1000:=by
            have h1:=HM.o;have h2:muF l j (L ++ [kk],SC,T)<=2 * (j * l.length)+j:=HFQ.o.bd;have h3:=HBD.o;have h4:muF l j (WK2,SC2,T2)=2 * JV l T2 j+WK2.length:=rfl;omega
           have HWL:=hid hwl;rw[hq6];have HSB7:Hid (scb<V.heap.size):=hid (HF.o.scal.block scb rfl).2;have g3:=(HXV.o.frozen (p:=⟨scb,y * 5,none⟩) HSB7.o).trans g3;have g4:=(HXV.o.frozen (p:=⟨scb,y * 5+1,none⟩) HSB7.o).trans g4;have g5:=(HXV.o.frozen (p:=⟨scb,y * 5+2,none⟩) HSB7.o).trans g5;have g6:=(HXV.o.frozen (p:=⟨scb,y * 5+3,none⟩) HSB7.o).trans g6;have g7:=(HXV.o.frozen (p:=⟨scb,y * 5+4,none⟩) HSB7.o).trans g7;have hput:=HF.o.put HS.o HXV.o (HSC.o y HYN.o) (x':=t) (A:=A5) (n1:=n5) (c1:=c5) (B:=B5) (m1:=m5) (e1:=e5) (HVT.o.ext HX7.o);obtain⟨W8,hW8⟩:=Qg (setRow w7 scb (y * 5) [.int .i64 t.kind,.int .i64 t.size,.int .i64 t.count,.slice A5 n5 c5,.slice B5 m5 e5]);rw[hW8]at hput;have HPUT:=hid hput;have HW8:=hid hW8;clear hput hW8 hq6 hwl;go_upto_region 29 with fail
           refine rgS 7 rfl rfl (Ext.hc6 b7 p0 p1 p2 p3 p4) (Ext.refl _).drew (fun hSg7q0=>?_);refine Qp 0 1 2 3 4 5 ?_;refine rgT 6 ?_;refine wpAnyH_done (by kernel_rfl) ?_ _;change wpList _ _ _ _ _ _;go_upto_region 30 with fail
           rw[show(((((w7.setCell ⟨scb,y * 5,none⟩ (.int .i64 t.kind)).setCell ⟨scb,y * 5+1,none⟩ (.int .i64 t.size)).setCell ⟨scb,y * 5+2,none⟩ (.int .i64 t.count)).setCell ⟨scb,y * 5+3,none⟩ (.slice A5 n5 c5)).setCell ⟨scb,y * 5+4,none⟩ (.slice B5 m5 e5))=W8 from HW8.o];have HF8:=hid (HPUT.o.ext (Ext.refl W8).drew);have hN6:y<1048576:=by have:=HYN.o;have:=HSZ.o;omega
           have hwl:=HWL.o;clear b7 y0 y1 y2 y3 y4 p0 p1 p2 p3 p4 g3 g4 g5 g6 g7
           go_wp2_with (first
            |(at_builtin;refine tG rfl (.tmp 218) (.tmp 220) rfl (fb+1) (.slice A6 WK2.length c6) WK2 (by rw[HQ6.o];rfl) (HF8.o.work.ext ((Ext.refl _).alloc _)) W8.heap.size y rfl (by simp[go_sem]) hN6 (by rw[HQ6.o];omega) (by have:=HF8.o.rows.lt;simp at this ⊢;omega) ?_;intro A9 c9 w9 ho9 hg9 hl9;rw[HQ6.o]at ho9 hl9;rw[HQ6.o];have HO9:=hid ho9;have HG9:=hid hg9;have HL9:=hid hl9;clear ho9 hg9 hl9)
            |fail)
           first
            |go_roundw
            |refine⟨?rel, ?measure⟩
           case rel=>
            have hgt:=HTG.o;have hsup:Kk l t:=by rw[<-HT.o];exact dx (HFL.o.good y) (HFL.o.good kk) (HSU.o y) (HSU.o kk) HS.o.ok
            have hpot:pot l t<pot l (T2 y):=by rw[HTY.o];exact DK HS.o.ok hgt.1 hgt.2.2 hsup HLE.o.1 (jk HZ.o)
            have hst:=o9 HS.o.ok HFL.o HYE.o;rw[HT.o]at hst;have hw:=HF8.o.wrk HS.o (wv':= .slice A9 (q6+1) c9) (WK':=WK2 ++ [y]) ((Chg.of_ext _ ((Ext.refl _).alloc _)).trans (Chg.of_grown' HG9.o (fun b hb=>by rw[<-HQ6.o]at *;exact hb))) HO9.o (fun g hg=>by rcases HL9.o g hg with e|e;exact .inl (by rw[HQ6.o];exact e);exact .inr (by simp at e ⊢;omega));refine⟨i'+1,WK2 ++ [y],SC2.set y t,fun x=>if x=y then t else T2 x,by omega,by go_num,hid hw,hid ?_,hid ?_,hid ?_,hid ?_,hid ?_,hid ?_⟩
            ·intro y' hy';show(SC2.set y t)[y']? =some (if y'=y then t else T2 y');by_cases hyy:y'=y
             ·subst hyy;rw[if_pos rfl,List.getElem?_set_self (Qz (HSC.o y' hy')).1]
             ·rw[if_neg hyy,List.getElem?_set_ne (Ne.symm hyy)];exact HSC.o y' hy'
            ·refine hst.weaken (fun x x' _ hx hn=>?_)
             exfalso
             apply hn;rcases hx with(hx|hx)|hx
             ·exact .inl (List.mem_append_left _ hx)
             ·exact .inr hx
             ·exact .inl (List.mem_append_right _ (by simp[hx]))
            ·intro y' hy';rcases List.mem_append.1 hy' with h3|h3
             ·exact HLT.o y' h3
             ·obtain rfl:y'=y:=by simpa using h3
              exact HYN.o
            ·intro y';show Kk l (if y'=y then t else T2 y')
             split
             ·exact hsup
             ·exact HSU.o y'
            ·have h3:=G4 (l:=l) (S:=T2) (S':=fun x=>if x=y then t else T2 x) HYN.o (fun x hx=>if_neg hx) (by simpa using hpot);have h4:=HM.o;unfold muF at h4 ⊢;simp only[List.length_append,List.length_cons,List.length_nil]at h4 ⊢;omega
            ·by_cases hky:kk=y
             ·exact .inl (List.mem_append_right _ (by simp[hky]))
             ·rcases HPR.o with h3|h3
              ·exact .inl (List.mem_append_left _ h3)
              ·refine .inr (fun y' hy'=>?_);show QZ (if kk=y then t else T2 kk) (if y'=y then t else T2 y')=true;rw[if_neg hky,HTK.o];rw[HYI.o]at hy';by_cases hyy:y'=y
               ·rw[if_pos hyy];exact HLE.o.2
               ·rw[if_neg hyy,<-HTK.o];rcases List.mem_append.1 hy' with h4|h4
                ·exact h3 y' h4
                ·exact absurd (by simpa using h4) hyy
           case measure=>simp [intOf];omega
         have HXg8q_0:=hid ((Ext.refl V).drew);refine rgS 16 rfl rfl HSK.o (Ext.refl V).drew (fun hSg8q0=>?_);refine Qp 0 1 2 3 4 5 ?_;refine Qp 6 7 8 9 10 11 ?_;refine QJ 12 13 ?_;refine wpAnyH_ready (rs:=[14,15]) (by kernel_rfl) (by simp) ?_;refine(AllReadyH.consL rfl (fun K hK=>?g8qb14x15) (AllReadyH.consL rfl (fun K hK=>?g8qb15x15) AllReadyH.nil))
         case' g8qb14x15=>
          go_simp;go_at_call 43;refine(HJ.o _ HXg8q_0.o).mono ?_;rintro e w5 ⟨v5,rfl,hv5,hEg8q1⟩;have HSA:=hid (hEg8q1).size;have HVF:=hid (xJ hv5);obtain⟨A5,n5,c5,B5,m5,e5,rfl, -⟩:=hv5;have HXg8q_1:=hid (HXg8q_0.o.trans hEg8q1);clear hEg8q1;refine rgK hK (HSK.o _ HXg8q_1.o) (fun hSg8q1=>?_);clear hK K;refine wpAnyH_ready (rs:=[15]) (by kernel_rfl) (by simp) ?_;refine(AllReadyH.consL rfl (fun K hK=>?g8qb15x16) AllReadyH.nil)
          case' g8qb15x16=>
           go_simp;obtain⟨wP,aP,hA1,hsz,hEg8q2,hge,hob,hss⟩:=K7 HXg8q_1.o;refine Eq.mpr (congrArg (K _) hA1) ?_
           first|rw[hsz]|(have hq:V.heap.size=aP:=hsz;rw[hq];clear hq)|skip
           have HBP:=hid hob;have HGP:=hid hge;have HSP:=hid (And.intro hsz hss);clear hA1 hsz hge hob hss;have HXg8q_2:=hid (HXg8q_1.o.trans hEg8q2);have HVF:=hid (HVF.o.ext hEg8q2);clear hEg8q2;refine rgK hK (HSK.o _ HXg8q_2.o) (fun hSg8q2=>?_);clear hK K;have HXend:=HXg8q_2;refine wpAnyH_done (by kernel_rfl) ?_ _;change wpList _ _ _ _ _ _;obtain⟨W8,hW8,hB8,hH8,hS8,hX8⟩:=QK HBP.o (.int .i64 t.kind) (.int .i64 t.size) (.int .i64 t.count) (.slice A5 n5 c5) (.slice B5 m5 e5);have HX8:=hid (hX8 V HXend.o HGP.o);have HV8:=hid (TyV.mono (S':=fun b=>V.heap.size<=b) (fun b hb _=>by have hb':=hb;have:=HSP.o;have:=HSA.o;have:=HGP.o;have h0:V.drew.heap.size=V.heap.size:=rfl;omega) (HVF.o.keep (w':=W8) (fun b hb _=>hH8 b (by have hb':=hb;have:=HSA.o;have:=HSP.o;omega))));have HB8:=hid hB8;have HW8:=hid hW8;obtain⟨z0,z1,z2,z3,z4,zf⟩:=HBP.o;have f0:=zf 0;have f1:=zf 1;have f2:=zf 2;have f3:=zf 3;have f4:=zf 4;clear hW8 hB8 hH8 hS8 hX8 zf
           go_wp2
           rw[HW8.o];go_meet;exact⟨aP,A5,n5,c5,B5,m5,e5,rfl,HB8,HV8,HX8⟩
         case' g8qb15x15=>
          go_simp;obtain⟨wP,aP,hA1,hsz,hEg8q1,hge,hob,hss⟩:=K7 HXg8q_0.o;refine Eq.mpr (congrArg (K _) hA1) ?_
          first|rw[hsz]|(have hq:V.heap.size=aP:=hsz;rw[hq];clear hq)|skip
          have HBP:=hid hob;have HGP:=hid hge;have HSP:=hid (And.intro hsz hss);clear hA1 hsz hge hob hss;have HXg8q_1:=hid (HXg8q_0.o.trans hEg8q1);clear hEg8q1;refine rgK hK (HSK.o _ HXg8q_1.o) (fun hSg8q1=>?_);clear hK K;refine wpAnyH_ready (rs:=[14]) (by kernel_rfl) (by simp) ?_;refine(AllReadyH.consL rfl (fun K hK=>?g8qb14x17) AllReadyH.nil)
          case' g8qb14x17=>
           go_simp;go_at_call 43;refine(HJ.o _ HXg8q_1.o).mono ?_;rintro e w5 ⟨v5,rfl,hv5,hEg8q2⟩;have HSA:=hid (hEg8q2).size;have HVF:=hid (xJ hv5);obtain⟨A5,n5,c5,B5,m5,e5,rfl, -⟩:=hv5;have HXg8q_2:=hid (HXg8q_1.o.trans hEg8q2);have HBP:=hid (HBP.o.ext hEg8q2);clear hEg8q2;refine rgK hK (HSK.o _ HXg8q_2.o) (fun hSg8q2=>?_);clear hK K;have HXend:=HXg8q_2;refine wpAnyH_done (by kernel_rfl) ?_ _;change wpList _ _ _ _ _ _;obtain⟨W8,hW8,hB8,hH8,hS8,hX8⟩:=QK HBP.o (.int .i64 t.kind) (.int .i64 t.size) (.int .i64 t.count) (.slice A5 n5 c5) (.slice B5 m5 e5);have HX8:=hid (hX8 V HXend.o HGP.o);have HV8:=hid (TyV.mono (S':=fun b=>V.heap.size<=b) (fun b hb _=>by have hb':=hb;have:=HSP.o;have:=HSA.o;have:=HGP.o;have h0:V.drew.heap.size=V.heap.size:=rfl;omega) (HVF.o.keep (w':=W8) (fun b hb _=>hH8 b (by have hb':=hb;have:=HSA.o;have:=HSP.o;omega))));have HB8:=hid hB8;have HW8:=hid hW8;obtain⟨z0,z1,z2,z3,z4,zf⟩:=HBP.o;have f0:=zf 0;have f1:=zf 1;have f2:=zf 2;have f3:=zf 3;have f4:=zf 4;clear hW8 hB8 hH8 hS8 hX8 zf
           go_wp2
           rw[HW8.o];go_meet;exact⟨aP,A5,n5,c5,B5,m5,e5,rfl,HB8,HV8,HX8⟩
        ·obtain rfl:i'=ne:=by omega
         have i1:¬(i':Int)<(i':Int):=by omega
         go_wp2_with fail
         first
          |go_roundw
          |refine⟨?rel, ?measure⟩
         case rel=>
          refine⟨(WK2,SC2,T2),⟨HF.o,HSC.o,HFL.o.weaken (fun x y hxy hx hn=>?_),HLT.o,HSU.o,Nat.le_trans (Nat.le_of_lt HM.o) HFQ.o.bd⟩⟩;rcases hx with hx|hx
          ·exact absurd hx hn
          ·subst hx;rcases HPR.o with h3|h3
           ·exact absurd h3 hn
           ·refine h3 y ?_;rw[Qj (by rw[HNE.o];exact Nat.le_refl _),<-HE.o];exact wK.2 hxy
         case measure=>
          have h3:=pg (μ:=muF l j) (p:=FR (d+1) D W0 (.slice A k me) l n P0 P fb scb j g E _ _) (a:=(WK2,SC2,T2)) ⟨HF.o,HSC.o,HFL.o.weaken (fun x y hxy hx hn=>by
           rcases hx with hx|hx
           ·exact absurd hx hn
           ·subst hx;rcases HPR.o with h3|h3
            ·exact absurd h3 hn
            ·refine h3 y ?_;rw[Qj (by rw[HNE.o];exact Nat.le_refl _),<-HE.o];exact wK.2 hxy),HLT.o,HSU.o,Nat.le_trans (Nat.le_of_lt HM.o) HFQ.o.bd⟩
          have h4:=HM.o;have h5:=HMU.o;rw[<-HQL.o,<-h5];exact Nat.lt_of_le_of_lt h3 h4
end Go.Proofs.YtlmipgdnlfjpaaaGreat
