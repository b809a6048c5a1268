/- Merged by program from texts of my own. -/
import Derived.Test.YtlmipgdnlfjpaaaGreatFlom
import Derived.Test.YtlmipgdnlfjpaaaGreatJbdm
import Derived.Test.YtlmipgdnlfjpaaaGreatTycm
import Derived.Test.YtlmipgdnlfjpaaaGreatPlam
namespace Go.Proofs.YtlmipgdnlfjpaaaGreat
open Go.RowKit Go.Deco Go.Maps
set_option linter.unusedSimpArgs false
set_option linter.unusedVariables false
def FlowPost (d:Nat)(D:SvDat)(W0:World)(vl:Value)(l:List Con)(n:Nat)(P0:List Nat)(e:Ending)(w':World):Prop:=e= .returned (.tuple #[])∧∃(P:List Nat) (fb scb:Nat) (g:Nat→Value) (F:Nat→List Nat) (SC:List Ty) (wv:Value) (WK:List Nat) (T:Nat→Ty),
 FloP d D W0 w' vl l n P0 P fb scb (n+l.length) g F SC wv WK∧(∀x,x<n+l.length→SC[x]? =some (T x))∧FlowIs l n (rootP P0) (fun _=>False) T
def muF (l:List Con)(N:Nat)(x:List Nat×List Ty×(Nat→Ty)):Nat:=2 * potS l x.2.2 N+x.1.length
structure FR (d:Nat)(D:SvDat)(W0:World)(vl:Value)(l:List Con)(n:Nat)(P0 P:List Nat)(fb scb N:Nat)(g:Nat→Value)(E:Nat→List Nat)(s4:Value)(wr:World)(x:List Nat×List Ty×(Nat→Ty)):Prop where
 flo:FloP d D W0 wr vl l n P0 P fb scb N g E x.2.1 s4 x.1
 sc:∀y,y<N→x.2.1[y]? =some (x.2.2 y)
 flow:FlowIs l n (rootP P0) (fun y=>y∈x.1) x.2.2
 lt:∀y∈x.1,y<N
 sup:∀y,SupT l (x.2.2 y)
 bd:muF l N x≤2 * (N * l.length)+N
theorem newI (w:World)(j:Nat):∃wA sz,w.alloc (.cells #[.int .i64 j] 3)=wA∧w.heap.size=sz∧Ext w wA∧wA.cell? ⟨sz,0,none⟩=some (.int .i64 j):=⟨_,_,rfl,rfl,(Ext.refl w).alloc _,by simp[go_sem]⟩
set_option maxRecDepth 100000 in
set_option maxHeartbeats 16000000 in
theorem flow_any {d:Nat} {D:SvDat} {w0 W0 w:World} {A:Option Addr} {m me:Nat} {l:List Con} {n:Nat} {P0 P:List Nat} (S:SvSt (d+1) D w0 W0 (.slice A m me) l n P0) (h:SvNow D W0 w (.slice A m me) l n P0 P (.slice none 0 0) (.slice none 0 0)):
  Calls Tryz.prog 27 #[.pointer (some ⟨D.b0+5,0,none⟩)] w (FlowPost (d+1) D W0 (.slice A m me) l n P0):=by
 have hlen:=S.sl.len;obtain⟨hc1,hc2⟩:=S.sl.cap;have hhn:=S.hn;have hhm:=S.hm;have hlt:=S.lt;have hcm:=S.base.hcm;have hlo:=S.base.hlo;have hsz:=S.base.hsz;have hgr:=h.chg.size;obtain⟨N,hN⟩:∃N,n+l.length=N:=⟨_,rfl⟩;obtain⟨sb,hsb⟩:∃sb,D.b0+5=sb:=⟨_,rfl⟩;have c0:=h.box.1 0 _ rfl;have c1:=h.box.1 1 _ rfl;have c6:=h.box.1 6 _ rfl;have c7:=h.box.1 7 _ rfl;have f6:=h.box.2.1 6;have f7:=h.box.2.1 7;obtain⟨w1,hr1,ho1,hx1⟩:=make_types d w.drew N W0.heap.size (T:=No) (by omega) (by simp;omega);have hsz1:w.drew.heap.size=w.heap.size:=by simp
 rw[hsz1]at hr1 ho1;obtain⟨scb,hscb⟩:∃scb,w.heap.size=scb:=⟨_,rfl⟩;rw[hscb]at hr1 ho1;have hx1':Ext w w1:=hx1.drew_left;obtain⟨W1,hW1⟩:∃W1,w1.setCell ⟨sb,7,none⟩ (.slice (some ⟨scb,0,none⟩) N N)=W1:=⟨_,rfl⟩;have hb1:=(h.box.ext hx1').put (i:=7) (by simp[svL]) (.slice (some ⟨scb,0,none⟩) N N);have hC1:Chg (fun b=>b=sb) w W1:=by rw[←hW1];exact(Chg.of_ext _ hx1').set _ rfl
 have hsbw:sb<w.heap.size:=by rw[←hsb];exact h.box.2.2
 have ho1':OwnS (tyR (d+1)) W1 W0.heap.size 42 No (.slice (some ⟨scb,0,none⟩) N N) (List.replicate N Ty.unk):=by
  rw[←hW1];exact ho1.set_far (p:=⟨sb,7,none⟩) (fun e=>by have e':some scb=some sb:=e;injection e' with e';omega) (fun b hb=>hb.elim)
 have hscw:scb<w1.heap.size:=(ho1.block scb rfl).2;have hw1s:W1.heap.size=w1.heap.size:=by rw[←hW1];simp
 rw[hsb]at hb1;rw[hW1]at hb1;obtain⟨w3,hr3,hrw3,hx3⟩:=make_rows W1 N (by omega);obtain⟨fb,hfb⟩:∃fb,W1.heap.size=fb:=⟨_,rfl⟩;rw[hfb]at hr3 hrw3;obtain⟨W4,hW4⟩:∃W4,w3.setCell ⟨sb,6,none⟩ (.slice (some ⟨fb,0,none⟩) N N)=W4:=⟨_,rfl⟩;have hb4:=(hb1.ext hx3).put (i:=6) (by simp[svL]) (.slice (some ⟨fb,0,none⟩) N N);rw[hW4]at hb4;have hC4:Chg (fun b=>b=sb) w W4:=by rw[←hW4];exact(hC1.ext hx3).set _ rfl
 have hC34:Chg (fun b=>b=sb) w3 W4:=by rw[←hW4];exact Chg.of_set _ _ rfl
 have hpb:=S.base.hpb
 have hF4:FloP (d+1) D W0 W4 (.slice A m me) l n P0 P fb scb N (fun _=> .slice none 0 0) (fun _=>[]) (List.replicate N Ty.unk) (.slice none 0 0) []:=by
  refine⟨⟨h.chg.trans' hC4 (fun b hb=> .inl (.inr (.inr (.inr (.inr (by rw[hb,←hsb])))))), ?_,h.par.keep (fun hN hl=>hC4.block _ hl (fun e=>by omega)),h.same⟩,hrw3.chg hC34 (fun e=>by omega) (fun i b _ hb=>by simp[Value.ownBlock]at hb), ?_,OwnS.nil,fun i q _ hq=>by simp[Value.ownBlock]at hq,hN.symm,by omega⟩
  ·rw[hsb];simpa [svL,List.set,hN] using hb4
  ·exact(hC34.own (ho1'.ext hx3) (fun b hb e=>by have e':some scb=some b:=hb;injection e' with e';omega) (fun b hb=>hb.elim)).monoT (fun b hb _=>hb.elim)
 have HF4:=hid hF4;have HS:=hid S;have HNN:=hid hN;have HSB:=hid hsb;have hmN:m≤N:=by omega
 have hm6:m≤65536:=by omega
 have e1:IntKind.i64.wrap ((n:Int)+(m:Int))=(N:Int):=by rw[IntWalk.i64_in _ (by omega)];omega
 have HR1:=hid hr1;have HC1:=hid hC1;have HX3:=hid hx3;have HW1:=hid hW1;have HW4:=hid hW4;have HR3:=hid hr3;have HL:=hid hlen;have HSZ:Hid (N≤131072):=hid (by omega);have HX1:=hid hx1';have c6':=hC1.frozen (p:=⟨sb,6,none⟩) hsbw;have d7:=hb1.1 7 _ rfl;have d6:=hb1.1 6 _ rfl;have g6:=hb1.2.1 6;rw[hsb]at c0 c1 c6 c7 f6 f7;have f7:=(hx1'.frozen (p:=⟨sb,7,none⟩) (by omega)).trans f7;have c7:=hx1'.cell c7;have x6:=hx3.cell d6;have y6:=(hx3.frozen (p:=⟨sb,6,none⟩) (by show sb<W1.heap.size;have:=hx1'.size;omega)).trans g6;clear hF4 hN hr1 hC1 hC4 hC34 hx3 hx1' hW1 hW4 hr3 hb1 hb4 hpb hrw3 ho1 ho1' c6' hx1 hscb hscw hw1s hlt hgr hsz hlo hcm hsz1 S h hc1 hc2 hlen hhn hhm hsbw hfb c6 f6 hsb;rw[HSB.out];go_enter Tryz.func27,Tryz.ntmps27;go_upto_region 0 with fail
 refine wp_region_split 14 (by kernel_rfl) rfl rfl (by kernel_rfl) (fun w'=>w'.cell? ⟨sb,0,none⟩=some (.slice A m me)∧w'.cell? ⟨sb,1,none⟩=some (.int .i64 n)) ⟨(Ext.refl w).drew.cell c0,(Ext.refl w).drew.cell c1⟩ (fun hSg1q0=>?_);refine rgT6 0 1 2 3 4 5 ?_;refine rgT4 6 7 8 9 ?_;refine rgT 10 ?_;refine rgC 11 (fun K hK=>?_);go_simp;rw[HR1.out];go_simp;refine rgK hK ⟨HX1.out.cell c0,HX1.out.cell c1⟩ (fun hSg1q1=>?_);clear hK K;refine rgT2 12 13 ?_;refine wpAnyH_done (by kernel_rfl) ?_ _;change wpList _ _ _ _ _ _;clear c0 c1 e1;go_upto_region 1 with fail
 rw[HW1.out];clear c7 f7;have hms:=HR3.out;go_upto_region 2 with fail
 rw[HW4.out];clear hms x6 y6 d7 d6 g6;have b0:=HF4.out.now.box.1 0 _ rfl;rw[HSB.out]at b0
 go_wp2_with fail
 clear b0
 go_loopw [39] (fun i wr=>∃(k:Nat) (P:List Nat) (g:Nat→Value) (SC:List Ty),k≤m∧i= .int .i64 k∧Hid (FloP (d+1) D W0 wr (.slice A m me) l n P0 P fb scb N g (edgesK l n (rootP P0) k) SC (.slice none 0 0) [])∧Hid (∀x,x<N→SC[x]? =some (initK l k x))) (fun i _=>m - (intOf i).toNat)
 case atStart=>exact⟨0,P,_,_,by omega,rfl,hid (HF4.out.same (fun i=>rfl)),hid (fun x hx=>by simp[hx,initK])⟩
 case round =>
  clear HF4 HX3 HX1 HC1 HW1 HW4 HR1 HR3;obtain⟨k,P,g,SC,hk,rfl,HF,HSC⟩:=hrel;by_cases h1:k<m
  ·obtain ⟨c,hc⟩:∃c,l[k]? =some c:=⟨_,List.getElem?_eq_getElem (by have:=HL.out;omega)⟩;have HCC:=hid hc;have HCO:=hid (HS.out.ok c (List.mem_of_getElem? hc));have HXO:=hid (HF.out.now.old HS.out);have HNP:Hid (0<N):=hid (by omega);obtain⟨d',bx,ox,P1,np1,cp1,P2,np2,cp2,hd,rfl,hv1,hbx, -⟩:=((HS.out.sl.ext HXO.out)).con_at hc;have HCV:=hid hv1;obtain⟨x0,x1,x2,x3,x4,x5,x6,x7,x8,x9⟩:=hbx;obtain⟨W15,hW15⟩:∃W,(wr).alloc (.cells #[.int .i64 0,.int .i64 0,.int .i64 0,.int .i64 0,.int .i64 0,.int .i64 0,.int .i64 0,.int .i64 0,.slice none 0 0,.slice none 0 0] 48)=W:=⟨_,rfl⟩;have hB1:BoxL W15 (wr).heap.size zeros10:=by rw[←hW15];exact BoxL.new wr zeros10 _
   have hE1:Ext wr W15:=by rw[←hW15];exact(Ext.refl _).alloc _
   obtain⟨W25,hW2,hB2,hH2,hS2,hX2⟩:=box10_set hB1 c P1 np1 cp1 P2 np2 cp2;have HXC5:=hid (hX2 wr hE1 (Nat.le_refl _));have HWC5:=hid hW2;have HBC5:=hid hB2;have z0:=hB1.1 0 _ rfl;have z1:=hB1.1 1 _ rfl;have z2:=hB1.1 2 _ rfl;have z3:=hB1.1 3 _ rfl;have z4:=hB1.1 4 _ rfl;have z5:=hB1.1 5 _ rfl;have z6:=hB1.1 6 _ rfl;have z7:=hB1.1 7 _ rfl;have z8:=hB1.1 8 _ rfl;have z9:=hB1.1 9 _ rfl;have y0:=hB1.2.1 0;have y1:=hB1.2.1 1;have y2:=hB1.2.1 2;have y3:=hB1.2.1 3;have y4:=hB1.2.1 4;have y5:=hB1.2.1 5;have y6:=hB1.2.1 6;have y7:=hB1.2.1 7;have y8:=hB1.2.1 8;have y9:=hB1.2.1 9;have HCV5:=hid (HCV.out.ext HXC5.out);clear hW2 hB2 hH2 hS2 hX2 hE1 hv1 HCV hB1;have HF5:=hid (HF.out.ext HXC5.out);have HWR:Hid (wr.heap.size<W25.heap.size∧fb<wr.heap.size∧scb<fb∧W0.heap.size≤scb∧sb<W0.heap.size∧D.pb<W0.heap.size):=hid ⟨World.block_lt_of_cell? _ _ HBC5.out.1,HF.out.rows.lt,HF.out.lt,HF.out.big.1,by have:=HS.out.base.hcm;have:=HS.out.base.hlo;have:=HS.out.base.hsz;have:=HSB.out;omega,HF.out.pb HS.out HNP.out⟩;clear hc;go_upto_region 5 with fail
   rw[HWC5.out];clear z0 z1 z2 z3 z4 z5 z6 z7 z8 z9 y0 y1 y2 y3 y4 y5 y6 y7 y8 y9 x0 x1 x2 x3 x4 x5 x6 x7 x8 x9 hW15;obtain⟨c0,c1,c2,c3,c4,c5,c6,c7,c8,c9⟩:=HBC5.out;rw[Nat.zero_add]at c1 c2 c3 c4 c5 c6 c7 c8 c9;obtain⟨kd,ca,cb',off,wd,ct⟩:=c;simp only at c0 c1 c2 c3 c4 c5 c6 c7 c8 c9 HCV5 HBC5 HWC5;have ha:=HCO.out.a0;obtain⟨an,rfl⟩:∃an:Nat,ca=an:=⟨ca.toNat,(Int.toNat_of_nonneg ha).symm⟩;have HAN:Hid (an<N∧an<n):=hid (by have h1:(an:Int)<n:=HCO.out.a1;have:=HNN.out;omega);clear ha;by_cases hk0:kd=0
   ·have g1:(kd == 0)=true:=by simp[hk0]
    have hb:=HCO.out.b0 (by simp[hk0]);obtain⟨bn,rfl⟩:∃bn:Nat,cb'=bn:=⟨cb'.toNat,(Int.toNat_of_nonneg hb).symm⟩;have HBN:Hid (bn<N):=hid (by have h1:(bn:Int)<n:=HCO.out.b1 (by simp[hk0]);have:=HNN.out;omega);have HED:Hid (edgeC l n (rootP P0) ⟨kd,(an:Int),(bn:Int),off,wd,ct⟩=some (an,bn)):=hid (by unfold edgeC;rw[if_pos hk0];rfl);have HK1:Hid (kd≠1):=hid (by omega);clear hk0 hb;go_upto_region 6 with fail
    clear c0 c3 c4 c5 c6 c7 c8 c9 g1;have HRO:=hid ((HF5.out.rows.row an (by first|exact HAN.out.1|exact HBN.out|exact HCN.out)).ext ((Ext.refl W25).drew.alloc (.cells #[.int .i64 (bn:Nat)] 3)));have HRB:Hid (∀q,(g an).ownBlock=some q→fb<q∧q<wr.heap.size):=hid (fun q hq=>⟨HF.out.big.2.2.1 an q (by first|exact HAN.out.1|exact HBN.out|exact HCN.out) hq,((HF.out.rows.row an (by first|exact HAN.out.1|exact HBN.out|exact HCN.out)).block q hq).2⟩);have HLE:Hid ((edgesK l n (rootP P0) k an).length≤k):=hid (edges_len _ _);have b6:=HF5.out.now.box.1 6 _ rfl;rw[HSB.out]at b6;have r0:=HF5.out.rows.cell an (by first|exact HAN.out.1|exact HBN.out|exact HCN.out);have rf:=HF5.out.rows.fro an;obtain⟨gv,hgv⟩:∃gv,g an=gv:=⟨_,rfl⟩;rw[hgv]at r0 HRO HRB;have HGV:=hid hgv;clear hgv;have i1:an<N:=(by first|exact HAN.out.1|exact HBN.out|exact HCN.out);refine wp_region_split 19 (by kernel_rfl) rfl rfl (by kernel_rfl) (fun w'=>w'.cell? ⟨sb,6,none⟩=some (.slice (some ⟨fb,0,none⟩) N N)∧w'.cell? ⟨wr.heap.size,1,none⟩=some (.int .i64 an)∧w'.cell? ⟨wr.heap.size,2,none⟩=some (.int .i64 bn)∧w'.cell? ⟨fb,an,none⟩=some gv) ⟨(Ext.refl W25).drew.cell b6,(Ext.refl W25).drew.cell c1,(Ext.refl W25).drew.cell c2,(Ext.refl W25).drew.cell r0⟩ (fun hSg2q0=>?_);refine rgT6 0 1 2 3 4 5 ?_;refine rgT6 6 7 8 9 10 11 ?_;refine rgT4 12 13 14 15 ?_;refine rgC 16 (fun K hK=>?_);go_simp;refine rgK hK ⟨((Ext.refl W25).drew.alloc _).cell b6,((Ext.refl W25).drew.alloc _).cell c1,((Ext.refl W25).drew.alloc _).cell c2,((Ext.refl W25).drew.alloc _).cell r0⟩ (fun hSg2q1=>?_);clear hK K;refine rgC 17 (fun K hK=>?_);refine step_appN rfl (.tmp 61) (.tmp 64) rfl (fb+1) gv (edgesK l n (rootP P0) k an) rfl HRO.out W25.heap.size bn rfl (num_new W25 bn) (by first|(have:=HBN.out;have:=HSZ.out;omega)|(have:=HCN.out;have:=HSZ.out;omega)) (by have:=HLE.out;have:=HSZ.out;omega) (by have h1:=HWR.out;have h2:=HF5.out.rows.lt;simp;omega) ?_;intro A7 c7 w7 ho7 hg7 hl7;have hcg:Chg (fun b=>gv.ownBlock=some b) W25 w7:=(Chg.of_ext _ ((Ext.refl W25).drew.alloc _)).trans (Chg.of_grown' hg7 (fun b hb=>hb));have HCG:=hid hcg;have hap:=HF5.out.app HS.out (a:=an) (y:=bn) (by first|exact HAN.out.1|exact HBN.out|exact HCN.out) (by rw[HGV.out];exact hcg) ho7 (fun q hq=>by rw[HGV.out];rcases hl7 q hq with e|e;exact .inl e;exact .inr (by simp at e;omega));have HAP:=hid hap;clear ho7 hg7 hl7 hap hcg;refine rgK hK ⟨HCG.out.cell b6 (fun e=>by have h1:=HRB.out sb e;have:=HWR.out;omega),HCG.out.cell c1 (fun e=>by have h1:=HRB.out wr.heap.size e;omega),HCG.out.cell c2 (fun e=>by have h1:=HRB.out wr.heap.size e;omega),HCG.out.cell r0 (fun e=>by have h1:=HRB.out fb e;omega)⟩ (fun hSg2q2=>?_);clear hK K;refine rgT 18 ?_;refine wpAnyH_done (by kernel_rfl) ?_ _;change wpList _ _ _ _ _ _;have r0:=HCG.out.cell r0 (fun e=>by have h1:=HRB.out fb e;omega);have rf:=(HCG.out.frozen (p:=⟨fb,an,none⟩) (by have:=HF5.out.rows.lt;exact this) (fun e=>by have h1:=HRB.out fb e;omega)).trans rf;clear b6 c1 c2 HRO HRB i1
    go_wp2
    first
     |go_roundw
     |refine⟨?rel, ?measure⟩
    case rel=>exact⟨k+1,_,_,SC,by omega,by go_num,hid (HAP.out.same (edges_app HCC.out HED.out)),hid (fun x hx=>by rw[init_no HCC.out HK1.out];exact HSC.out x hx)⟩
    case measure=>simp [intOf];omega
   ·have g1 :(kd == 0)=false:=by simp[hk0]
    by_cases hk1:kd=1
    ·have g2:(kd == 1)=true:=by simp[hk1]
     obtain rfl:d'=d:=by omega
     obtain⟨x,hx⟩:∃x,SC[an]? =some x:=⟨_,HSC.out an HAN.out.1⟩;have HXX:=hid hx;have HXI:Hid (x=initK l k an):=hid (by have h2:=HSC.out an HAN.out.1;rw[hx]at h2;injection h2);obtain⟨d2,A3,n3,c3',B3,m3,e3,hd2,hvx,y0,y1,y2,y3,y4,hfr⟩:=ownTy_at HF5.out.scal hx;obtain rfl:d2=d':=by omega
     have g3:=hfr 0 (by omega);rw[Nat.add_zero]at g3;have g4:=hfr 1 (by omega);have g5:=hfr 2 (by omega);have g6:=hfr 3 (by omega);have g7:=hfr 4 (by omega);have hvc:=(conV_ty (c:=⟨kd,(an:Int),cb',off,wd,ct⟩) HCV5.out).2;have HVX:=hid (TyV.mono (S':=All) (fun _ _ _=>trivial) hvx);have HVC:=hid hvc;obtain⟨t,ht⟩:∃t,joinT x ct=t:=⟨_,rfl⟩;have HT:=hid ht
     have HJ:=hid (fun w' (hw:Ext W25 w')=>(show Calls Tryz.prog 43 #[.agg #[.int .i64 x.kind,.int .i64 x.size,.int .i64 x.count,.slice A3 n3 c3',.slice B3 m3 e3],.agg #[.int .i64 ct.kind,.int .i64 ct.size,.int .i64 ct.count,.slice P1 np1 cp1,.slice P2 np2 cp2]] w' (TyOut d2 w' t) from by
      rw[←ht,←joinG_good (by rw[HXI.out];exact initK_good HS.out.ok _ _) (HCO.out.t hk1)];exact joing_any d2 w' x ct _ _ (HVX.out.ext hw) (HVC.out.ext hw)))
     have HK1:=hid hk1;have b7:=HF5.out.now.box.1 7 _ rfl;rw[HSB.out]at b7;have i1:an<N:=HAN.out.1;clear hx hvx hvc ht hfr hk1 hk0;go_upto_region 8 with fail
     clear c0 c2 c3 c4;refine wp_region_split 18 (by kernel_rfl) rfl rfl (by kernel_rfl) (fun w'=>w'.cell? ⟨sb,7,none⟩=some (.slice (some ⟨scb,0,none⟩) N N)∧w'.cell? ⟨wr.heap.size,1,none⟩=some (.int .i64 an)∧w'.cell? ⟨wr.heap.size,5,none⟩=some (.int .i64 ct.kind)∧w'.cell? ⟨wr.heap.size,6,none⟩=some (.int .i64 ct.size)∧w'.cell? ⟨wr.heap.size,7,none⟩=some (.int .i64 ct.count)∧w'.cell? ⟨wr.heap.size,8,none⟩=some (.slice P1 np1 cp1)∧w'.cell? ⟨wr.heap.size,9,none⟩=some (.slice P2 np2 cp2)∧w'.cell? ⟨scb,an * 5,none⟩=some (.int .i64 x.kind)∧w'.cell? ⟨scb,an * 5+1,none⟩=some (.int .i64 x.size)∧w'.cell? ⟨scb,an * 5+2,none⟩=some (.int .i64 x.count)∧w'.cell? ⟨scb,an * 5+3,none⟩=some (.slice A3 n3 c3')∧w'.cell? ⟨scb,an * 5+4,none⟩=some (.slice B3 m3 e3)) ⟨(Ext.refl W25).drew.cell b7,(Ext.refl W25).drew.cell c1,(Ext.refl W25).drew.cell c5,(Ext.refl W25).drew.cell c6,(Ext.refl W25).drew.cell c7,(Ext.refl W25).drew.cell c8,(Ext.refl W25).drew.cell c9,(Ext.refl W25).drew.cell y0,(Ext.refl W25).drew.cell y1,(Ext.refl W25).drew.cell y2,(Ext.refl W25).drew.cell y3,(Ext.refl W25).drew.cell y4⟩ (fun hSg3q0=>?_);refine rgT6 0 1 2 3 4 5 ?_;refine rgT6 6 7 8 9 10 11 ?_;refine rgT4 12 13 14 15 ?_;refine rgC 16 (fun K hK=>?_);go_simp;go_at_call 43;refine(HJ.out _ (Ext.refl W25).drew).mono ?_;rintro e w5 ⟨_,rfl,⟨A5,n5,c5',B5,m5,e5,rfl,hv5⟩,hx5⟩;have HX5:=hid hx5.drew_left;have HV5:=hid hv5;clear hx5 hv5;refine rgK hK ⟨HX5.out.cell b7,HX5.out.cell c1,HX5.out.cell c5,HX5.out.cell c6,HX5.out.cell c7,HX5.out.cell c8,HX5.out.cell c9,HX5.out.cell y0,HX5.out.cell y1,HX5.out.cell y2,HX5.out.cell y3,HX5.out.cell y4⟩ (fun hSg3q1=>?_);clear hK K;refine rgT 17 ?_;refine wpAnyH_done (by kernel_rfl) ?_ _;change wpList _ _ _ _ _ _;have hput:=HF5.out.put HS.out HX5.out HXX.out (x':=t) (A:=A5) (n1:=n5) (c1:=c5') (B:=B5) (m1:=m5) (e1:=e5) (TyV.mono (fun b hb _=>by simpa using hb) ⟨A5,n5,c5',B5,m5,e5,rfl,HV5.out⟩);have HPUT:=hid hput;have HZ5:Hid (scb<W25.heap.size):=hid (HF5.out.scal.block scb rfl).2;have g3:=(HX5.out.frozen (p:=⟨scb,an * 5,none⟩) HZ5.out).trans g3;have g4:=(HX5.out.frozen (p:=⟨scb,an * 5+1,none⟩) HZ5.out).trans g4;have g5:=(HX5.out.frozen (p:=⟨scb,an * 5+2,none⟩) HZ5.out).trans g5;have g6:=(HX5.out.frozen (p:=⟨scb,an * 5+3,none⟩) HZ5.out).trans g6;have g7:=(HX5.out.frozen (p:=⟨scb,an * 5+4,none⟩) HZ5.out).trans g7;have y0:=HX5.out.cell y0;have y1:=HX5.out.cell y1;have y2:=HX5.out.cell y2;have y3:=HX5.out.cell y3;have y4:=HX5.out.cell y4;clear hput b7 c1 c5 c6 c7 c8 c9 i1
     go_wp2
     first
      |go_roundw
      |refine⟨?rel, ?measure⟩
     case rel=>
      refine⟨k+1,_,_,SC.set an t,by omega,by go_num,hid (HPUT.out.same (edges_no HCC.out (by unfold edgeC;rw[if_neg (by show ¬kd=0;have:=HK1.out;omega),if_neg (fun e=>(wide_k e).1 HK1.out)]))),hid (fun y hy=>?_)⟩;rw[init_ty HCC.out HK1.out (a:=an) rfl];by_cases hya:y=an
      ·subst hya;have hlt:=(List.getElem?_eq_some_iff.1 HXX.out).1;rw[if_pos rfl,←HXI.out,HT.out,List.getElem?_set_self hlt]
      ·rw[if_neg hya,List.getElem?_set_ne (Ne.symm hya)];exact HSC.out y hy
     case measure=>simp [intOf];omega
    ·have g2:(kd == 1)=false:=by simp[hk1]
     have HK1:=hid hk1;have HWD:=hid (fun w' (hw:Ext W25 w')=>wide_any d' w' _ _ (HCV5.out.ext hw));obtain⟨wv,hwv⟩:∃wv,wideC ⟨kd,(an:Int),cb',off,wd,ct⟩=wv:=⟨_,rfl⟩;rw[hwv]at HWD;have HWV:=hid hwv;have HK0:=hid hk0;clear hwv hk0 hk1
     go_wp2_with fail
     refine(HWD.out _ (Ext.refl _)).mono ?_;rintro e w5 ⟨rfl,hx5⟩;have HX5:=hid hx5;have HF6:=hid (HF5.out.ext hx5);have c0:=hx5.cell c0;have c1:=hx5.cell c1;have c2:=hx5.cell c2;have c3:=hx5.cell c3;have c4:=hx5.cell c4;have c5:=hx5.cell c5;have c6:=hx5.cell c6;have c7:=hx5.cell c7;have c8:=hx5.cell c8;have c9:=hx5.cell c9;clear hx5
     cases wv with
     | false=>
      go_wp2_with fail
      refine(HWD.out _ HX5.out).mono ?_;rintro e w7 ⟨rfl,hx7⟩;have HF7:=hid (HF6.out.ext hx7);clear hx7 c0 c1 c2 c3 c4 c5 c6 c7 c8 c9
      go_wp2
      first
       |go_roundw
       |refine⟨?rel, ?measure⟩
      case rel=>exact⟨k+1,_,_,SC,by omega,by go_num,hid (HF7.out.same (edges_no HCC.out (by unfold edgeC;rw[if_neg HK0.out,if_neg (by rw[HWV.out];simp)]))),hid (fun x hx=>by rw[init_no HCC.out HK1.out];exact HSC.out x hx)⟩
      case measure=>simp [intOf];omega
     | true =>
      have hb:=HCO.out.b0 (by exact HK1.out);obtain⟨bn,rfl⟩:∃bn:Nat,cb'=bn:=⟨cb'.toNat,(Int.toNat_of_nonneg hb).symm⟩;have HBN:Hid (bn<N):=hid (by have h1:(bn:Int)<n:=HCO.out.b1 (by exact HK1.out);have:=HNN.out;omega);obtain⟨cn,hcn⟩:∃cn,cellN l n (rootP P0) ⟨kd,(an:Int),(bn:Int),off,wd,ct⟩=cn:=⟨_,rfl⟩;have HCN:Hid (cn<N):=hid (by rw[←hcn,←HNN.out];exact cellN_lt (List.mem_of_getElem? HCC.out) HWV.out)
      have HCO2:=hid (fun(w':World) (P':List Nat) (hw:SvNow D W0 w' (.slice (some ⟨bx,ox,none⟩) m me) l n P0 P' (.slice (some ⟨fb,0,none⟩) N N) (.slice (some ⟨scb,0,none⟩) N N))=>(show Calls Tryz.prog 50 #[.pointer (some ⟨sb,0,none⟩),.int .i64 k] w' (fun e w''=>e= .returned (.int .i64 (cn:Nat))∧∃P'',SvNow D W0 w'' (.slice (some ⟨bx,ox,none⟩) m me) l n P0 P'' (.slice (some ⟨fb,0,none⟩) N N) (.slice (some ⟨scb,0,none⟩) N N)∧Chg (fun b=>b=D.pb) w' w'') from by
       rw[←hcn,←HSB.out];exact cellof_any HS.out hw HCC.out HWV.out))
      by_cases hk2:kd=2
      ·have g3:(kd == 2)=true:=by simp[hk2]
       have HED:Hid (edgeC l n (rootP P0) ⟨kd,(an:Int),(bn:Int),off,wd,ct⟩=some (cn,bn)):=hid (by unfold edgeC;rw[if_neg HK0.out,if_pos HWV.out,if_pos hk2,hcn];rfl);clear hk2 hcn hb;go_upto_region 10 with fail
       have HRB:Hid (∀q,(g cn).ownBlock=some q→fb<q∧q<wr.heap.size):=hid (fun q hq=>⟨HF.out.big.2.2.1 cn q HCN.out hq,((HF.out.rows.row cn HCN.out).block q hq).2⟩);have HLE:Hid ((edgesK l n (rootP P0) k cn).length≤k):=hid (edges_len _ _);obtain⟨gv,hgv⟩:∃gv,g cn=gv:=⟨_,rfl⟩;rw[hgv]at HRB;have HGV:=hid hgv;have HSK:=hid (fun(w':World) (P':List Nat) (hF:FloP (d+1) D W0 w' (.slice (some ⟨bx,ox,none⟩) m me) l n P0 P' fb scb N g (edgesK l n (rootP P0) k) SC (.slice none 0 0) []) (hC:Chg (fun b=>b=D.pb) w5 w')=>(show w'.cell? ⟨sb,6,none⟩=some (.slice (some ⟨fb,0,none⟩) N N)∧w'.cell? ⟨wr.heap.size,2,none⟩=some (.int .i64 bn)∧w'.cell? ⟨fb,cn,none⟩=some gv from⟨by rw[←HSB.out];exact hF.now.box.1 6 _ rfl,hC.cell c2 (fun e=>by have h1:wr.heap.size=D.pb:=e;have:=HWR.out;have:=HF.out.now.chg.size;omega),by rw[←HGV.out];exact hF.rows.cell cn HCN.out⟩));have HFW:=hid (HF6.out.ext (Ext.refl w5).drew);have HCW:=hid (Chg.of_ext (fun b=>b=D.pb) (Ext.refl w5).drew);have HS0:=hid (HSK.out _ _ HFW.out HCW.out);have i1:cn<N:=HCN.out;clear hgv c2 c0 c1 c3 c4 c5 c6 c7 c8 c9;have HXg4q_0:=hid ((Ext.refl w5).drew);refine wp_region_split 21 (by kernel_rfl) rfl rfl (by kernel_rfl) (fun w'=>w'.cell? ⟨sb,6,none⟩=some (.slice (some ⟨fb,0,none⟩) N N)∧w'.cell? ⟨wr.heap.size,2,none⟩=some (.int .i64 bn)∧w'.cell? ⟨fb,cn,none⟩=some gv) HS0.out (fun hSg4q0=>?_);refine rgT6 0 1 2 3 4 5 ?_;refine rgT6 7 8 9 10 11 12 ?_;refine rgT2 16 17 ?_;refine wpAnyH_ready (rs:=[6,18]) (by kernel_rfl) (by simp) ?_;refine(AllReadyH.consL rfl (fun K hK=>?g4qb6x15) (AllReadyH.consL rfl (fun K hK=>?g4qb18x15) AllReadyH.nil))
       case' g4qb6x15=>
        go_simp;go_at_call 50;refine(HCO2.out _ _ HFW.out.now).mono ?_;rintro e w7 ⟨rfl,P7,hn7,hc7⟩;have HFW:=hid (HFW.out.find HS.out HNP.out hn7 hc7);have HCW:=hid (HCW.out.trans hc7)
        try have HAB:=hid (hc7.cell HAB.out (fun e=>by have h1:aB=D.pb:=e;have:=HAG.out;have:=HWR.out;omega))
        clear hn7 hc7;refine rgK hK (HSK.out _ _ HFW.out HCW.out) (fun hSg4q1=>?_);clear hK K;refine wpAnyH_ready (rs:=[13,18]) (by kernel_rfl) (by simp) ?_;refine(AllReadyH.consL rfl (fun K hK=>?g4qb13x16) (AllReadyH.consL rfl (fun K hK=>?g4qb18x16) AllReadyH.nil))
        case' g4qb13x16=>
         go_simp;go_at_call 50;refine(HCO2.out _ _ HFW.out.now).mono ?_;rintro e w8 ⟨rfl,P8,hn8,hc8⟩;have HFW:=hid (HFW.out.find HS.out HNP.out hn8 hc8);have HCW:=hid (HCW.out.trans hc8)
         try have HAB:=hid (hc8.cell HAB.out (fun e=>by have h1:aB=D.pb:=e;have:=HAG.out;have:=HWR.out;omega))
         clear hn8 hc8;refine rgK hK (HSK.out _ _ HFW.out HCW.out) (fun hSg4q2=>?_);clear hK K;refine rgT2 14 15 ?_;refine wpAnyH_ready (rs:=[18]) (by kernel_rfl) (by simp) ?_;refine(AllReadyH.consL rfl (fun K hK=>?g4qb18x19) AllReadyH.nil)
         case' g4qb18x19=>
          go_simp
          first|have hN:=newI w8 bn|have hN:=newI w7 bn|have hN:=newI w5.drew bn
          obtain⟨wP,aB,hA1,hsz,hE,hab⟩:=hN;refine Eq.mpr (congrArg (K _) hA1) ?_
          first|rw[hsz]|(have hq:w5.heap.size=aB:=hsz;rw[hq];clear hq)|skip
          have HAG:Hid (wr.heap.size≤aB):=hid (by have h1:=HF6.out.now.chg.size;have h2:=HCW.out.size;have h3:=HX5.out.size;have h4:=HWR.out;have h5:w5.drew.heap.size=w5.heap.size:=rfl;omega);have HAB:=hid hab;have HFW:=hid (HFW.out.ext hE);have HCW:=hid (HCW.out.ext hE);clear hA1 hsz hE hab;refine rgK hK (HSK.out _ _ HFW.out HCW.out) (fun hSg4q3=>?_);clear hK K;refine wpAnyH_ready (rs:=[19]) (by kernel_rfl) (by simp) ?_;refine(AllReadyH.consL rfl (fun K hK=>?g4qb19x20) AllReadyH.nil)
          case' g4qb19x20=>
           have hro:=(HFW.out.rows.row cn HCN.out);rw[HGV.out]at hro;have HRO:=hid hro;clear hro;refine step_appN rfl (.tmp 112) (.tmp 115) rfl (fb+1) gv (edgesK l n (rootP P0) k cn) rfl HRO.out aB bn rfl HAB.out (by have:=HBN.out;have:=HSZ.out;omega) (by have:=HLE.out;have:=HSZ.out;omega) (by have h2:=HFW.out.rows.lt;omega) ?_;intro A7 c7 w9 ho7 hg7 hl7;have hcg:=Chg.of_grown' (M:=fun b=>gv.ownBlock=some b) hg7 (fun b hb=>hb);have HCG:=hid hcg;have hap:=HFW.out.app HS.out (a:=cn) (y:=bn) HCN.out (by rw[HGV.out];exact hcg) ho7 (fun q hq=>by rw[HGV.out];exact hl7 q hq);have HAP:=hid hap;have HKE:=hid (HSK.out _ _ HFW.out HCW.out);have HFL:=hid HFW.out.rows.lt;have HFR:=hid (HFW.out.rows.fro cn);clear ho7 hg7 hl7 hap hcg;refine rgK hK ⟨HCG.out.cell HKE.out.1 (fun e=>by have h1:=HRB.out sb e;have:=HWR.out;omega),HCG.out.cell HKE.out.2.1 (fun e=>by have h1:=HRB.out wr.heap.size e;omega),HCG.out.cell HKE.out.2.2 (fun e=>by have h1:=HRB.out fb e;omega)⟩ (fun hSg4q4=>?_);clear hK K;refine rgT 20 ?_;refine wpAnyH_done (by kernel_rfl) ?_ _;change wpList _ _ _ _ _ _;have r0:=HCG.out.cell HKE.out.2.2 (fun e=>by have h1:=HRB.out fb e;omega);have rf:=(HCG.out.frozen (p:=⟨fb,cn,none⟩) HFL.out (fun e=>by have h1:=HRB.out fb e;omega)).trans HFR.out
           go_wp2
           first
            |go_roundw
            |refine⟨?rel, ?measure⟩
           case rel=>exact⟨k+1,_,_,SC,by omega,by go_num,hid (HAP.out.same (edges_app HCC.out HED.out)),hid (fun x hx=>by rw[init_no HCC.out HK1.out];exact HSC.out x hx)⟩
           case measure=>simp [intOf];omega
        case' g4qb18x16=>
         go_simp
         first|have hN:=newI w8 bn|have hN:=newI w7 bn|have hN:=newI w5.drew bn
         obtain⟨wP,aB,hA1,hsz,hE,hab⟩:=hN;refine Eq.mpr (congrArg (K _) hA1) ?_
         first|rw[hsz]|(have hq:w5.heap.size=aB:=hsz;rw[hq];clear hq)|skip
         have HAG:Hid (wr.heap.size≤aB):=hid (by have h1:=HF6.out.now.chg.size;have h2:=HCW.out.size;have h3:=HX5.out.size;have h4:=HWR.out;have h5:w5.drew.heap.size=w5.heap.size:=rfl;omega);have HAB:=hid hab;have HFW:=hid (HFW.out.ext hE);have HCW:=hid (HCW.out.ext hE);clear hA1 hsz hE hab;refine rgK hK (HSK.out _ _ HFW.out HCW.out) (fun hSg4q2=>?_);clear hK K;refine wpAnyH_ready (rs:=[13]) (by kernel_rfl) (by simp) ?_;refine(AllReadyH.consL rfl (fun K hK=>?g4qb13x22) AllReadyH.nil)
         case' g4qb13x22=>
          go_simp;go_at_call 50;refine(HCO2.out _ _ HFW.out.now).mono ?_;rintro e w8 ⟨rfl,P8,hn8,hc8⟩;have HFW:=hid (HFW.out.find HS.out HNP.out hn8 hc8);have HCW:=hid (HCW.out.trans hc8)
          try have HAB:=hid (hc8.cell HAB.out (fun e=>by have h1:aB=D.pb:=e;have:=HAG.out;have:=HWR.out;omega))
          clear hn8 hc8;refine rgK hK (HSK.out _ _ HFW.out HCW.out) (fun hSg4q3=>?_);clear hK K;refine rgT2 14 15 ?_;refine wpAnyH_ready (rs:=[19]) (by kernel_rfl) (by simp) ?_;refine(AllReadyH.consL rfl (fun K hK=>?g4qb19x25) AllReadyH.nil)
          case' g4qb19x25=>
           have hro:=(HFW.out.rows.row cn HCN.out);rw[HGV.out]at hro;have HRO:=hid hro;clear hro;refine step_appN rfl (.tmp 112) (.tmp 115) rfl (fb+1) gv (edgesK l n (rootP P0) k cn) rfl HRO.out aB bn rfl HAB.out (by have:=HBN.out;have:=HSZ.out;omega) (by have:=HLE.out;have:=HSZ.out;omega) (by have h2:=HFW.out.rows.lt;omega) ?_;intro A7 c7 w9 ho7 hg7 hl7;have hcg:=Chg.of_grown' (M:=fun b=>gv.ownBlock=some b) hg7 (fun b hb=>hb);have HCG:=hid hcg;have hap:=HFW.out.app HS.out (a:=cn) (y:=bn) HCN.out (by rw[HGV.out];exact hcg) ho7 (fun q hq=>by rw[HGV.out];exact hl7 q hq);have HAP:=hid hap;have HKE:=hid (HSK.out _ _ HFW.out HCW.out);have HFL:=hid HFW.out.rows.lt;have HFR:=hid (HFW.out.rows.fro cn);clear ho7 hg7 hl7 hap hcg;refine rgK hK ⟨HCG.out.cell HKE.out.1 (fun e=>by have h1:=HRB.out sb e;have:=HWR.out;omega),HCG.out.cell HKE.out.2.1 (fun e=>by have h1:=HRB.out wr.heap.size e;omega),HCG.out.cell HKE.out.2.2 (fun e=>by have h1:=HRB.out fb e;omega)⟩ (fun hSg4q4=>?_);clear hK K;refine rgT 20 ?_;refine wpAnyH_done (by kernel_rfl) ?_ _;change wpList _ _ _ _ _ _;have r0:=HCG.out.cell HKE.out.2.2 (fun e=>by have h1:=HRB.out fb e;omega);have rf:=(HCG.out.frozen (p:=⟨fb,cn,none⟩) HFL.out (fun e=>by have h1:=HRB.out fb e;omega)).trans HFR.out
           go_wp2
           first
            |go_roundw
            |refine⟨?rel, ?measure⟩
           case rel=>exact⟨k+1,_,_,SC,by omega,by go_num,hid (HAP.out.same (edges_app HCC.out HED.out)),hid (fun x hx=>by rw[init_no HCC.out HK1.out];exact HSC.out x hx)⟩
           case measure=>simp [intOf];omega
       case' g4qb18x15=>
        go_simp
        first|have hN:=newI w8 bn|have hN:=newI w7 bn|have hN:=newI w5.drew bn
        obtain⟨wP,aB,hA1,hsz,hE,hab⟩:=hN;refine Eq.mpr (congrArg (K _) hA1) ?_
        first|rw[hsz]|(have hq:w5.heap.size=aB:=hsz;rw[hq];clear hq)|skip
        have HAG:Hid (wr.heap.size≤aB):=hid (by have h1:=HF6.out.now.chg.size;have h2:=HCW.out.size;have h3:=HX5.out.size;have h4:=HWR.out;have h5:w5.drew.heap.size=w5.heap.size:=rfl;omega);have HAB:=hid hab;have HFW:=hid (HFW.out.ext hE);have HCW:=hid (HCW.out.ext hE);clear hA1 hsz hE hab;refine rgK hK (HSK.out _ _ HFW.out HCW.out) (fun hSg4q1=>?_);clear hK K;refine wpAnyH_ready (rs:=[6]) (by kernel_rfl) (by simp) ?_;refine(AllReadyH.consL rfl (fun K hK=>?g4qb6x27) AllReadyH.nil)
        case' g4qb6x27=>
         go_simp;go_at_call 50;refine(HCO2.out _ _ HFW.out.now).mono ?_;rintro e w7 ⟨rfl,P7,hn7,hc7⟩;have HFW:=hid (HFW.out.find HS.out HNP.out hn7 hc7);have HCW:=hid (HCW.out.trans hc7)
         try have HAB:=hid (hc7.cell HAB.out (fun e=>by have h1:aB=D.pb:=e;have:=HAG.out;have:=HWR.out;omega))
         clear hn7 hc7;refine rgK hK (HSK.out _ _ HFW.out HCW.out) (fun hSg4q2=>?_);clear hK K;refine wpAnyH_ready (rs:=[13]) (by kernel_rfl) (by simp) ?_;refine(AllReadyH.consL rfl (fun K hK=>?g4qb13x28) AllReadyH.nil)
         case' g4qb13x28=>
          go_simp;go_at_call 50;refine(HCO2.out _ _ HFW.out.now).mono ?_;rintro e w8 ⟨rfl,P8,hn8,hc8⟩;have HFW:=hid (HFW.out.find HS.out HNP.out hn8 hc8);have HCW:=hid (HCW.out.trans hc8)
          try have HAB:=hid (hc8.cell HAB.out (fun e=>by have h1:aB=D.pb:=e;have:=HAG.out;have:=HWR.out;omega))
          clear hn8 hc8;refine rgK hK (HSK.out _ _ HFW.out HCW.out) (fun hSg4q3=>?_);clear hK K;refine rgT2 14 15 ?_;refine wpAnyH_ready (rs:=[19]) (by kernel_rfl) (by simp) ?_;refine(AllReadyH.consL rfl (fun K hK=>?g4qb19x31) AllReadyH.nil)
          case' g4qb19x31=>
           have hro:=(HFW.out.rows.row cn HCN.out);rw[HGV.out]at hro;have HRO:=hid hro;clear hro;refine step_appN rfl (.tmp 112) (.tmp 115) rfl (fb+1) gv (edgesK l n (rootP P0) k cn) rfl HRO.out aB bn rfl HAB.out (by have:=HBN.out;have:=HSZ.out;omega) (by have:=HLE.out;have:=HSZ.out;omega) (by have h2:=HFW.out.rows.lt;omega) ?_;intro A7 c7 w9 ho7 hg7 hl7;have hcg:=Chg.of_grown' (M:=fun b=>gv.ownBlock=some b) hg7 (fun b hb=>hb);have HCG:=hid hcg;have hap:=HFW.out.app HS.out (a:=cn) (y:=bn) HCN.out (by rw[HGV.out];exact hcg) ho7 (fun q hq=>by rw[HGV.out];exact hl7 q hq);have HAP:=hid hap;have HKE:=hid (HSK.out _ _ HFW.out HCW.out);have HFL:=hid HFW.out.rows.lt;have HFR:=hid (HFW.out.rows.fro cn);clear ho7 hg7 hl7 hap hcg;refine rgK hK ⟨HCG.out.cell HKE.out.1 (fun e=>by have h1:=HRB.out sb e;have:=HWR.out;omega),HCG.out.cell HKE.out.2.1 (fun e=>by have h1:=HRB.out wr.heap.size e;omega),HCG.out.cell HKE.out.2.2 (fun e=>by have h1:=HRB.out fb e;omega)⟩ (fun hSg4q4=>?_);clear hK K;refine rgT 20 ?_;refine wpAnyH_done (by kernel_rfl) ?_ _;change wpList _ _ _ _ _ _;have r0:=HCG.out.cell HKE.out.2.2 (fun e=>by have h1:=HRB.out fb e;omega);have rf:=(HCG.out.frozen (p:=⟨fb,cn,none⟩) HFL.out (fun e=>by have h1:=HRB.out fb e;omega)).trans HFR.out
           go_wp2
           first
            |go_roundw
            |refine⟨?rel, ?measure⟩
           case rel=>exact⟨k+1,_,_,SC,by omega,by go_num,hid (HAP.out.same (edges_app HCC.out HED.out)),hid (fun x hx=>by rw[init_no HCC.out HK1.out];exact HSC.out x hx)⟩
           case measure=>simp [intOf];omega
      ·have g3:(kd == 2)=false:=by simp[hk2]
       have HED:Hid (edgeC l n (rootP P0) ⟨kd,(an:Int),(bn:Int),off,wd,ct⟩=some (bn,cn)):=hid (by unfold edgeC;rw[if_neg HK0.out,if_pos HWV.out,if_neg hk2,hcn];rfl);clear hk2 hcn hb
       go_wp2_with fail
       refine(HWD.out _ HX5.out).mono ?_;rintro e w7 ⟨rfl,hx7⟩;have HF7:=hid (HF6.out.ext hx7);have c2:=hx7.cell c2;have HX7:=hid hx7;clear hx7 c0 c1 c3 c4 c5 c6 c7 c8 c9;go_upto_region 12 with fail
       have HRB:Hid (∀q,(g bn).ownBlock=some q→fb<q∧q<wr.heap.size):=hid (fun q hq=>⟨HF.out.big.2.2.1 bn q HBN.out hq,((HF.out.rows.row bn HBN.out).block q hq).2⟩);have HLE:Hid ((edgesK l n (rootP P0) k bn).length≤k):=hid (edges_len _ _);obtain⟨gv,hgv⟩:∃gv,g bn=gv:=⟨_,rfl⟩;rw[hgv]at HRB;have HGV:=hid hgv;have HSK:=hid (fun(w':World) (P':List Nat) (hF:FloP (d+1) D W0 w' (.slice (some ⟨bx,ox,none⟩) m me) l n P0 P' fb scb N g (edgesK l n (rootP P0) k) SC (.slice none 0 0) []) (hC:Chg (fun b=>b=D.pb) w7 w')=>(show w'.cell? ⟨sb,6,none⟩=some (.slice (some ⟨fb,0,none⟩) N N)∧w'.cell? ⟨wr.heap.size,2,none⟩=some (.int .i64 bn)∧w'.cell? ⟨fb,bn,none⟩=some gv from⟨by rw[←HSB.out];exact hF.now.box.1 6 _ rfl,hC.cell c2 (fun e=>by have h1:wr.heap.size=D.pb:=e;have:=HWR.out;have:=HF.out.now.chg.size;omega),by rw[←HGV.out];exact hF.rows.cell bn HBN.out⟩));have HS0:=hid (HSK.out _ _ (HF7.out.ext (Ext.refl w7).drew) (Chg.of_ext _ (Ext.refl w7).drew));have i1:bn<N:=HBN.out;clear hgv c2;refine wp_region_split 20 (by kernel_rfl) rfl rfl (by kernel_rfl) (fun w'=>w'.cell? ⟨sb,6,none⟩=some (.slice (some ⟨fb,0,none⟩) N N)∧w'.cell? ⟨wr.heap.size,2,none⟩=some (.int .i64 bn)∧w'.cell? ⟨fb,bn,none⟩=some gv) HS0.out (fun hSg5q0=>?_);refine rgT6 0 1 2 3 4 5 ?_;refine rgT6 6 7 8 9 10 11 ?_;refine rgT4 12 13 14 15 ?_;refine rgC 16 (fun K hK=>?_);go_simp;go_at_call 50;refine(HCO2.out _ _ (HF7.out.now.ext (Ext.refl w7).drew)).mono ?_;rintro e w8 ⟨rfl,P8,hn8,hc8⟩;have HC8:=hid ((Chg.of_ext (fun b=>b=D.pb) (Ext.refl w7).drew).trans hc8);have HF8:=hid ((HF7.out.ext (Ext.refl w7).drew).find HS.out HNP.out hn8 hc8);clear hn8 hc8;refine rgK hK (HSK.out _ _ HF8.out HC8.out) (fun hSg5q1=>?_);clear hK K;refine rgC 17 (fun K hK=>?_);go_simp;refine rgK hK ⟨((Ext.refl w8).alloc _).cell (HSK.out _ _ HF8.out HC8.out).1,((Ext.refl w8).alloc _).cell (HSK.out _ _ HF8.out HC8.out).2.1,((Ext.refl w8).alloc _).cell (HSK.out _ _ HF8.out HC8.out).2.2⟩ (fun hSg5q2=>?_);clear hK K;refine rgC 18 (fun K hK=>?_);have hro:=(HF8.out.rows.row bn HBN.out).ext ((Ext.refl w8).alloc (.cells #[.int .i64 (cn:Nat)] 3));rw[HGV.out]at hro;have HRO:=hid hro;clear hro;refine step_appN rfl (.tmp 134) (.tmp 138) rfl (fb+1) gv (edgesK l n (rootP P0) k bn) rfl HRO.out w8.heap.size cn rfl (by simp[go_sem]) (by have:=HCN.out;have:=HSZ.out;omega) (by have:=HLE.out;have:=HSZ.out;omega) (by have h2:=HF8.out.rows.lt;simp;omega) ?_;intro A7 c7 w9 ho7 hg7 hl7;have hcg:Chg (fun b=>gv.ownBlock=some b) w8 w9:=(Chg.of_ext _ ((Ext.refl w8).alloc _)).trans (Chg.of_grown' hg7 (fun b hb=>hb));have HCG:=hid hcg;have hap:=HF8.out.app HS.out (a:=bn) (y:=cn) HBN.out (by rw[HGV.out];exact hcg) ho7 (fun q hq=>by rw[HGV.out];rcases hl7 q hq with e|e;exact .inl e;exact .inr (by simp at e;omega));have HAP:=hid hap;clear ho7 hg7 hl7 hap hcg;refine rgK hK ⟨HCG.out.cell (HSK.out _ _ HF8.out HC8.out).1 (fun e=>by have h1:=HRB.out sb e;have:=HWR.out;omega),HCG.out.cell (HSK.out _ _ HF8.out HC8.out).2.1 (fun e=>by have h1:=HRB.out wr.heap.size e;omega),HCG.out.cell (HSK.out _ _ HF8.out HC8.out).2.2 (fun e=>by have h1:=HRB.out fb e;omega)⟩ (fun hSg5q3=>?_);clear hK K;refine rgT 19 ?_;refine wpAnyH_done (by kernel_rfl) ?_ _;change wpList _ _ _ _ _ _;have r0:=HCG.out.cell (HSK.out _ _ HF8.out HC8.out).2.2 (fun e=>by have h1:=HRB.out fb e;omega);have rf:=(HCG.out.frozen (p:=⟨fb,bn,none⟩) (by have:=HF8.out.rows.lt;exact this) (fun e=>by have h1:=HRB.out fb e;omega)).trans (HF8.out.rows.fro bn);clear HS0 HRB i1
       go_wp2
       first
        |go_roundw
        |refine⟨?rel, ?measure⟩
       case rel=>exact⟨k+1,_,_,SC,by omega,by go_num,hid (HAP.out.same (edges_app HCC.out HED.out)),hid (fun x hx=>by rw[init_no HCC.out HK1.out];exact HSC.out x hx)⟩
       case measure=>simp [intOf];omega
  ·obtain rfl : k=m:=by omega
   have i1:¬(k:Int)<(k:Int):=by omega
   have b7:=HF.out.now.box.1 7 _ rfl;rw[HSB.out]at b7;have hll:l.length=k:=HL.out.symm;have HIN:Hid (∀x,x<N→SC[x]? =some (initK l l.length x)):=hid (by rw[hll];exact HSC.out);have HFE:Hid (FloP (d+1) D W0 wr (.slice A k me) l n P0 P fb scb N g (edgesK l n (rootP P0) l.length) SC (.slice none 0 0) []):=hid (by rw[hll];exact HF.out);obtain⟨E,hE⟩:∃E,edgesK l n (rootP P0) l.length=E:=⟨_,rfl⟩;rw[hE]at HFE;have HE:=hid hE;obtain⟨T0,hT0⟩:∃T,initK l l.length=T:=⟨_,rfl⟩;rw[hT0]at HIN;have HT0:=hid hT0;clear hll hE hT0 HF HSC
   go_wp2_with fail
   clear b7 i1
   go_loopw [4,147] (fun s4 i wr=>∃(j:Nat) (A4:Option Addr) (q c4:Nat),j≤N∧i= .int .i64 j∧s4= .slice A4 q c4∧Hid (FloP (d+1) D W0 wr (.slice A k me) l n P0 P fb scb N g E SC (.slice A4 q c4) ((List.range j).filter fun x=>decide ((T0 x).kind≠0)))) (fun _ i _=>N - (intOf i).toNat)
   case atStart=>exact⟨0,none,0,0,by omega,rfl,rfl,HFE⟩
   case round =>
    clear HFE;obtain⟨j,A4,q,c4,hj,rfl,rfl,HF⟩:=hrel;by_cases h1:j<N
    ·obtain⟨x,hx⟩:∃x,SC[j]? =some x:=⟨_,HIN.out j h1⟩;have hxt:T0 j=x:=by have h2:=HIN.out j h1;rw[hx]at h2;injection h2 with h2;exact h2.symm
     obtain⟨d2,A3,n3,c3',B3,m3,e3,hd2,hvx,x0,x1,x2,x3,x4,hfr⟩:=ownTy_at HF.out.scal hx;obtain⟨W2,hW2⟩:∃W2,wr.alloc (.cells #[.int .i64 0,.int .i64 0,.int .i64 0,.slice none 0 0,.slice none 0 0] 42)=W2:=⟨_,rfl⟩;have hB2:Box5 W2 wr.heap.size (.int .i64 0) (.int .i64 0) (.int .i64 0) (.slice none 0 0) (.slice none 0 0):=by rw[←hW2];exact Box5.new wr _ _ _ _ _ _
     have hE2:Ext wr W2:=by rw[←hW2];exact(Ext.refl _).alloc _
     obtain⟨W3,hW3,hB3,hH3,hS3,hX3⟩:=box5_set hB2 (.int .i64 x.kind) (.int .i64 x.size) (.int .i64 x.count) (.slice A3 n3 c3') (.slice B3 m3 e3);have hE3:Ext wr W3:=hX3 wr hE2 (Nat.le_refl _);have HW3:=hid hW3;have HF3:=hid (HF.out.ext hE3);have HXT:=hid hxt;have hrow:=HF.out.work.len
     have hqj:q≤j:=by
      have h2:((List.range j).filter fun x=>decide ((T0 x).kind≠0)).length≤(List.range j).length:=List.length_filter_le _ _;rw[List.length_range]at h2;omega
     have HRW:Hid (((List.range j).filter fun x=>decide ((T0 x).kind≠0)).length=q):=hid hrow.symm;obtain⟨s0,s1,s2,s3,s4, -⟩:=hB3;obtain⟨z0,z1,z2,z3,z4,zf⟩:=hB2;have y0:=zf 0;have y1:=zf 1;have y2:=zf 2;have y3:=zf 3;have y4:=zf 4;have hN6:N≤131072:=HSZ.out;clear hW3 hH3 hS3 hX3 hE3 hE2 hd2 hvx hx zf hfr hxt hrow;go_upto_region 18 with fail
     rw[HW3.out];clear z0 z1 z2 z3 z4 y0 y1 y2 y3 y4 x0 x1 x2 x3 x4 hW2;by_cases h2:x.kind=0
     ·have g2:(x.kind != 0)=false:=by simp[h2]
      have HK0:=hid h2;clear h2
      go_wp2
      first
       |go_roundw
       |refine⟨?rel, ?measure⟩
      case rel=>exact⟨j+1,A4,q,c4,by omega,by go_num,rfl,hid (by rw[List.range_succ,List.filter_append,List.filter_cons_of_neg (by rw[HXT.out,HK0.out];simp),List.filter_nil,List.append_nil];exact HF3.out)⟩
      case measure=>simp [intOf];omega
     ·have g2:(x.kind != 0)=true:=by simp[h2]
      have HK0:=hid h2;clear h2
      go_wp2_with (first
       |(at_builtin;refine wpList_appN rfl (.tmp 155) (.tmp 157) rfl (fb+1) (.slice A4 q c4) ((List.range j).filter fun x=>decide ((T0 x).kind≠0)) rfl (HF3.out.work.ext ((Ext.refl W3).alloc _)) W3.heap.size j rfl (by simp[go_sem]) (by omega) (by rw[HRW.out];omega) (by have:=HF3.out.rows.lt;simp;omega) ?_;intro A5 c5 w5 ho5 hg5 hl5;rw[HRW.out]at ho5 hl5;rw[HRW.out];have HO5:=hid ho5;have HG5:=hid hg5;have HL5:=hid hl5;clear ho5 hg5 hl5)
       |fail)
      first
       |go_roundw
       |refine⟨?rel, ?measure⟩
      case rel=>
       refine⟨j+1,A5,q+1,c5,by omega,by go_num,rfl,hid ?_⟩;rw[List.range_succ,List.filter_append,List.filter_cons_of_pos (by rw[HXT.out];simpa using HK0.out),List.filter_nil];exact HF3.out.wrk HS.out ((Chg.of_ext _ ((Ext.refl W3).alloc (.cells #[.int .i64 (j:Int)] 3))).trans (Chg.of_grown' HG5.out (fun b hb=>hb))) HO5.out (fun g hg=>by rcases HL5.out g hg with e|e;exact .inl e;exact .inr (by simp at e;omega))
      case measure=>simp [intOf];omega
    ·obtain rfl :j=N:=by omega
     have i1:¬(j:Int)<(j:Int):=by omega
     obtain⟨WK0,hWK⟩:∃WK,((List.range j).filter fun x=>decide ((T0 x).kind≠0))=WK:=⟨_,rfl⟩;have hF:=HF.out;rw[hWK]at hF
     have HFR:Hid (∃x,FR (d+1) D W0 (.slice A k me) l n P0 P fb scb j g E (.slice A4 q c4) wr x):=hid (by
      refine⟨(WK0,SC,T0),⟨hF,HIN.out, ?_, ?_, ?_, ?_⟩⟩
      ·have h:=flow_start (r:=rootP P0) HS.out.ok;rw[HT0.out]at h;refine h.weaken (fun x y hxy hx hnx=>?_)
       exfalso
       apply hnx;show x∈WK0;rw[←hWK];exact List.mem_filter.2 ⟨List.mem_range.2 (by have:=(edge_lt HS.out.ok hxy).1;have:=HNN.out;omega),by simpa using hx⟩
      ·intro y hy;have hy':y∈WK0:=hy;rw[←hWK]at hy';exact List.mem_range.1 (List.mem_filter.1 hy').1
      ·intro y;show SupT l (T0 y);rw[←HT0.out];exact sup_init HS.out.ok _ _
      ·show 2 * potS l T0 j+WK0.length≤_;have h1:=potS_le (l:=l) T0 j
       have h2:WK0.length≤j:=by
        rw[←hWK];have:=List.length_filter_le (fun x=>decide ((T0 x).kind≠0)) (List.range j)
        rwa [List.length_range]at this
       omega)
     have HBD:Hid (2 * (j * l.length)+j≤17179869184 * 2):=hid (by
      have h1:j * l.length≤131072 * 65536:=Nat.mul_le_mul HSZ.out HS.out.hm;have:=HSZ.out;omega)
     clear hF hWK HF HIN
     go_wp2_with fail
     go_loopw [4] (fun s4 wr=>∃x,FR (d+1) D W0 (.slice A k me) l n P0 P fb scb j g E s4 wr x) (fun s4 wr=>leastM (FR (d+1) D W0 (.slice A k me) l n P0 P fb scb j g E s4 wr) (muF l j))
     case atStart=>exact HFR.out
     case round =>
      obtain⟨⟨WK,SC,T⟩,hfr,hmu⟩:=leastM_spec (μ:=muF l j) hrel;clear hrel HFR;have HMU:=hid hmu;have HFQ:=hid hfr;obtain⟨A4,c4,rfl, -, -⟩:=hfr.flo.work.form;clear hmu hfr;rcases List.eq_nil_or_concat WK with h0|⟨L,kk,hL⟩
      ·subst h0;have i1:¬((0:Nat):Int) > 0:=by omega
       rw[show([]:List Nat).length=0 from rfl]
       go_wp2_with fail
       refine bodyPost_ret (v:= .tuple #[]) (by simp[results,Tryz.results27,go_sem]) rfl ?_;refine⟨rfl,P,fb,scb,g,E,SC,_,[],T,by rw[HNN.out];exact HFQ.out.flo,fun x hx=>HFQ.out.sc x (by rw[←HNN.out];exact hx),HFQ.out.flow.weaken (fun x y _ hx _=>absurd hx (by simp))⟩
      ·rw [List.concat_eq_append]at hL;subst hL;obtain⟨p,hp⟩:∃p,L.length=p:=⟨_,rfl⟩;have hql:(L ++ [kk]).length=p+1:=by simp[hp]
       have HQL:=hid hql;have hwk:=HFQ.out.flo.work;rw[hql]at hwk ⊢;obtain⟨wb,rfl,hw1,hw2⟩:=hwk.at0 (by omega);have ck:=(hwk.num_cell (k:=p) (x:=kk) (by rw[List.getElem?_append_right (by omega),hp];simp)).1;obtain⟨hcap, -⟩:=hwk.sl.cap
       have hpb:p≤34359738368:=by
        have h1:=HFQ.out.bd;have h2:=HBD.out;unfold muF at h1;simp only at h1;rw[hql]at h1;omega
       have HPL:=hid hp;have i1:((p+1:Nat):Int) > 0:=by omega
       have i2:(p:Int)<(c4:Int):=by omega
       have i3:(p:Int)≤(c4:Int):=by omega
       clear hp hwk hw1 hw2 hql;have hF7:=HFQ.out.flo.wrk HS.out (wv':= .slice (some ⟨wb,0,none⟩) p c4) (WK':=L) (Chg.refl _ _) (by have h1:=own_pop (by have h2:=HFQ.out.flo.work;rw[HQL.out]at h2;exact h2);rwa [HPL.out]at h1) (fun q hq=> .inl hq);have HF7:=hid hF7;have hkN:=HFQ.out.lt kk (by simp);have HKN:=hid hkN;have b6:=HFQ.out.flo.now.box.1 6 _ rfl;rw[HSB.out]at b6;have r0:=hF7.rows.cell kk hkN;obtain⟨gA,gc,hgk, -, -⟩:=(hF7.rows.row kk hkN).form;obtain⟨ne,hne⟩:∃ne,(E kk).length=ne:=⟨_,rfl⟩;rw[hne]at hgk;rw[hgk]at r0;have HGK:=hid hgk;have HNE:=hid hne;have hne6:ne≤65536:=by rw[←hne,←HE.out];have:=edges_len (l:=l) (n:=n) (r:=rootP P0) kk l.length;have:=HL.out;omega
       clear hF7 hgk hne
       go_wp2_with fail
       clear b6 r0 ck
       go_loopw [4,182] (fun s4 i wr'=>∃(i':Nat) (WK2:List Nat) (SC2:List Ty) (T2:Nat→Ty),i'≤ne∧i= .int .i64 i'∧Hid (FloP (d+1) D W0 wr' (.slice A k me) l n P0 P fb scb j g E SC2 s4 WK2)∧Hid (∀y,y<j→SC2[y]? =some (T2 y))∧Hid (FlowIs l n (rootP P0) (fun y=>y∈WK2∨y=kk) T2)∧Hid (∀y∈WK2,y<j)∧Hid (∀y,SupT l (T2 y))∧Hid (muF l j (WK2,SC2,T2)<muF l j (L ++ [kk],SC,T))∧Hid (kk∈WK2∨∀y∈(E kk).take i',subT (T2 kk) (T2 y)=true)) (fun _ i _=>ne - (intOf i).toNat)
       case atStart=>
        exact⟨0,L,SC,T,by omega,rfl,HF7,hid HFQ.out.sc,hid (HFQ.out.flow.weaken (fun x y _ hx hn=>absurd (by simpa using hx) hn)),hid (fun y hy=>HFQ.out.lt y (by simp[hy])),hid HFQ.out.sup,hid (by unfold muF;simp),hid (.inr (fun y hy=>by simp at hy))⟩
       case round=>
        obtain⟨i',WK2,SC2,T2,hi,rfl,HF,HSC,HFL,HLT,HSU,HM,HPR⟩:=hrel;by_cases h2:i'<ne
        ·obtain ⟨y,hy⟩:∃y,(E kk)[i']? =some y:=⟨_,List.getElem?_eq_getElem (by have:=HNE.out;omega)⟩;obtain⟨V,hV⟩:∃V,V=wr:=⟨_,rfl⟩;obtain rfl:=hV;have hrow:=HF.out.rows.row kk HKN.out;rw[HGK.out]at hrow;obtain⟨rb,rfl,hr1,hr2⟩:=hrow.at0 (by omega);have r1:=(hrow.num_cell hy).1;have hyE:NStep l n (rootP P0) kk y:=edges_step.1 (by rw[HE.out];exact List.mem_of_getElem? hy);have hyN:y<j:=by have:=(edge_lt HS.out.ok hyE).2;have:=HNN.out;omega
         have HYE:=hid hyE;have HYY:=hid hy;have hsy:=HSC.out y hyN;have hsk:=HSC.out kk HKN.out;obtain⟨d2,A1,n1,c1,B1,m1,e1,hd2,hvy,y0,y1,y2,y3,y4,hfr⟩:=ownTy_at HF.out.scal hsy;obtain rfl:d2=d:=by omega
         obtain⟨d3,A2,n2,c2,B2,m2,e2,hd3,hvk,k0,k1,k2,k3,k4, -⟩:=ownTy_at HF.out.scal hsk;obtain rfl:d3=d2:=by omega
         have g3:=hfr 0 (by omega);rw[Nat.add_zero]at g3;have g4:=hfr 1 (by omega);have g5:=hfr 2 (by omega);have g6:=hfr 3 (by omega);have g7:=hfr 4 (by omega);obtain⟨t,ht⟩:∃t,joinT (T2 y) (T2 kk)=t:=⟨_,rfl⟩;have HT:=hid ht;have HVY:=hid (TyV.mono (S':=All) (fun _ _ _=>trivial) hvy);have HVK:=hid (TyV.mono (S':=All) (fun _ _ _=>trivial) hvk);obtain⟨ty,hty⟩:∃ty,T2 y=ty:=⟨_,rfl⟩;obtain⟨tk,htk⟩:∃tk,T2 kk=tk:=⟨_,rfl⟩;rw[hty]at y0 y1 y2 HVY;rw[htk]at k0 k1 k2 HVK;rw[hty,htk]at ht;have HTY:=hid hty;have HTK:=hid htk
         have HJ:=hid (fun w' (hw:Ext V w')=>(show Calls Tryz.prog 43 #[.agg #[.int .i64 ty.kind,.int .i64 ty.size,.int .i64 ty.count,.slice A1 n1 c1,.slice B1 m1 e1],.agg #[.int .i64 tk.kind,.int .i64 tk.size,.int .i64 tk.count,.slice A2 n2 c2,.slice B2 m2 e2]] w' (TyOut d3 w' t) from by
          rw[←ht,←joinG_good (by rw[←HTY.out];exact HFL.out.good y) (by rw[←HTK.out];exact HFL.out.good kk)];exact joing_any d3 w' ty tk _ _ (HVY.out.ext hw) (HVK.out.ext hw)))
         have b7:=HF.out.now.box.1 7 _ rfl;rw[HSB.out]at b7;have HSK:=hid (fun(w':World) (hx:Ext V w')=>(show w'.cell? ⟨sb,7,none⟩=some (.slice (some ⟨scb,0,none⟩) j j)∧w'.cell? ⟨scb,y * 5,none⟩=some (.int .i64 ty.kind)∧w'.cell? ⟨scb,y * 5+1,none⟩=some (.int .i64 ty.size)∧w'.cell? ⟨scb,y * 5+2,none⟩=some (.int .i64 ty.count)∧w'.cell? ⟨scb,y * 5+3,none⟩=some (.slice A1 n1 c1)∧w'.cell? ⟨scb,y * 5+4,none⟩=some (.slice B1 m1 e1)∧w'.cell? ⟨scb,kk * 5,none⟩=some (.int .i64 tk.kind)∧w'.cell? ⟨scb,kk * 5+1,none⟩=some (.int .i64 tk.size)∧w'.cell? ⟨scb,kk * 5+2,none⟩=some (.int .i64 tk.count)∧w'.cell? ⟨scb,kk * 5+3,none⟩=some (.slice A2 n2 c2)∧w'.cell? ⟨scb,kk * 5+4,none⟩=some (.slice B2 m2 e2) from⟨hx.cell b7,hx.cell y0,hx.cell y1,hx.cell y2,hx.cell y3,hx.cell y4,hx.cell k0,hx.cell k1,hx.cell k2,hx.cell k3,hx.cell k4⟩));have i1:(i':Int)<(ne:Int):=by omega
         have i4:y<j:=hyN;have i5:kk<j:=HKN.out;have HYN:=hid hyN;clear hy hrow hr1 hr2 hyE hyN hsy hsk hvy hvk hfr ht hty htk hd2 hd3;go_upto_region 27 with fail
         clear r1
         go_cut [10] from 186 to 200 (fun s10 wx=>∃(aP:Nat) (A5:Option Addr) (n5 c5:Nat) (B5:Option Addr) (m5 e5:Nat),s10= .pointer (some ⟨aP,0,none⟩)∧Hid (Box5 wx aP (.int .i64 t.kind) (.int .i64 t.size) (.int .i64 t.count) (.slice A5 n5 c5) (.slice B5 m5 e5))∧Hid (TyV d3 wx (fun b=>V.heap.size≤b) (.agg #[.int .i64 t.kind,.int .i64 t.size,.int .i64 t.count,.slice A5 n5 c5,.slice B5 m5 e5]) t)∧Hid (Ext V wx))
         case rest=>
          clear k0 k1 k2 k3 k4 i5;obtain⟨aP,A5,n5,c5,B5,m5,e5,rfl,HBP,HVT,HX⟩:=hcut;obtain⟨V2,hV2⟩:∃V2,V2=wc:=⟨_,rfl⟩;obtain rfl:=hV2;obtain⟨p0,p1,p2,p3,p4, -⟩:=HBP.out;have b7:=HX.out.cell b7;have y0:=HX.out.cell y0;have y1:=HX.out.cell y1;have y2:=HX.out.cell y2;have y3:=HX.out.cell y3;have y4:=HX.out.cell y4;obtain⟨z,hz⟩:∃z,sameT t ty=z:=⟨_,rfl⟩;have HZ:=hid hz
          have HSM:=hid (fun w' (hw:Ext V2 w')=>(show Calls Tryz.prog 51 #[.agg #[.int .i64 t.kind,.int .i64 t.size,.int .i64 t.count,.slice A5 n5 c5,.slice B5 m5 e5],.agg #[.int .i64 ty.kind,.int .i64 ty.size,.int .i64 ty.count,.slice A1 n1 c1,.slice B1 m1 e1]] w' (TBool w' z) from by
           rw[←hz];exact same_any d3 w' t ty _ _ ((TyV.mono (S':=All) (fun _ _ _=>trivial) HVT.out).ext hw) (HVY.out.ext (HX.out.trans hw))))
          clear hz HSK;go_upto_region 28 with fail
          refine wp_region_held_drew (S:=(fun w'=>w'.cell? ⟨sb,7,none⟩=some (.slice (some ⟨scb,0,none⟩) j j)∧w'.cell? ⟨scb,y * 5,none⟩=some (.int .i64 ty.kind)∧w'.cell? ⟨scb,y * 5+1,none⟩=some (.int .i64 ty.size)∧w'.cell? ⟨scb,y * 5+2,none⟩=some (.int .i64 ty.count)∧w'.cell? ⟨scb,y * 5+3,none⟩=some (.slice A1 n1 c1)∧w'.cell? ⟨scb,y * 5+4,none⟩=some (.slice B1 m1 e1)∧w'.cell? ⟨aP,0,none⟩=some (.int .i64 t.kind)∧w'.cell? ⟨aP,1,none⟩=some (.int .i64 t.size)∧w'.cell? ⟨aP,2,none⟩=some (.int .i64 t.count)∧w'.cell? ⟨aP,3,none⟩=some (.slice A5 n5 c5)∧w'.cell? ⟨aP,4,none⟩=some (.slice B5 m5 e5))) (by kernel_rfl) ⟨(Ext.refl V2).drew.cell b7,(Ext.refl V2).drew.cell y0,(Ext.refl V2).drew.cell y1,(Ext.refl V2).drew.cell y2,(Ext.refl V2).drew.cell y3,(Ext.refl V2).drew.cell y4,(Ext.refl V2).drew.cell p0,(Ext.refl V2).drew.cell p1,(Ext.refl V2).drew.cell p2,(Ext.refl V2).drew.cell p3,(Ext.refl V2).drew.cell p4⟩ (fun hSg6q0=>?_);refine rgT6 0 1 2 3 4 5 ?_;refine rgT2 6 7 ?_;refine rgC 8 (fun K hK=>?_);go_simp;go_at_call 51;refine(HSM.out _ (Ext.refl V2).drew).mono ?_;rintro e w7 ⟨rfl,hx7⟩;have HX7:=hid hx7.drew_left;clear hx7;refine rgK hK ⟨HX7.out.cell b7,HX7.out.cell y0,HX7.out.cell y1,HX7.out.cell y2,HX7.out.cell y3,HX7.out.cell y4,HX7.out.cell p0,HX7.out.cell p1,HX7.out.cell p2,HX7.out.cell p3,HX7.out.cell p4⟩ (fun hSg6q1=>?_);clear hK K;refine rgT 9 ?_;refine wpAnyH_done (by kernel_rfl) ?_ _;have HXV:=hid (HX.out.trans HX7.out);have b7:=HX7.out.cell b7;have p0:=HX7.out.cell p0;have p1:=HX7.out.cell p1;have p2:=HX7.out.cell p2;have p3:=HX7.out.cell p3;have p4:=HX7.out.cell p4;have y0:=HX7.out.cell y0;have y1:=HX7.out.cell y1;have y2:=HX7.out.cell y2;have y3:=HX7.out.cell y3;have y4:=HX7.out.cell y4
          have HTG:Hid (goodT ty=true∧goodT tk=true∧goodT t=true):=hid (by
           have h1:=HFL.out.good y;have h2:=HFL.out.good kk;rw[HTY.out]at h1;rw[HTK.out]at h2;refine⟨h1,h2, ?_⟩;rw[←HT.out,HTY.out,HTK.out];exact join_good h1 h2)
          have HLE:Hid (subT ty t=true∧subT tk t=true):=hid (by
           rw[←HT.out,HTY.out,HTK.out];exact⟨join_le1 (good_form HTG.out.1) (good_form HTG.out.2.1),join_le2 (good_form HTG.out.1) (good_form HTG.out.2.1)⟩)
          have HYI:Hid ((E kk).take (i'+1)=(E kk).take i' ++ [y]):=hid (by
           rw[List.take_add_one,HYY.out];rfl)
          cases z with
          | true=>
           clear b7 y0 y1 y2 y3 y4 p0 p1 p2 p3 p4 g3 g4 g5 g6 g7
           go_wp2
           first
            |go_roundw
            |refine⟨?rel, ?measure⟩
           case rel=>
            refine⟨i'+1,WK2,SC2,T2,by omega,by go_num,hid (HF.out.ext HXV.out),HSC,HFL,HLT,HSU,HM,hid ?_⟩;rcases HPR.out with h3|h3
            ·exact .inl h3
            ·refine .inr (fun y' hy'=>?_);rw[HYI.out]at hy';rcases List.mem_append.1 hy' with h4|h4
             ·exact h3 y' h4
             ·obtain rfl:y'=y:=by simpa using h4
              rw[HTK.out,HTY.out];have h5:=(sameT_iff t ty).1 HZ.out;rw[←h5];exact HLE.out.2
           case measure=>simp [intOf];omega
          | false=>
           obtain⟨A6,c6,hv6, -, -⟩:=HF.out.work.form;subst hv6;obtain⟨q6,hq6⟩:∃q,WK2.length=q:=⟨_,rfl⟩;have HQ6:=hid hq6
           have hwl:q6≤1000000000 * 1000:=by
            have h1:=HM.out;have h2:muF l j (L ++ [kk],SC,T)≤2 * (j * l.length)+j:=HFQ.out.bd;have h3:=HBD.out;have h4:muF l j (WK2,SC2,T2)=2 * potS l T2 j+WK2.length:=rfl;omega
           have HWL:=hid hwl;rw[hq6];have HSB7:Hid (scb<V.heap.size):=hid (HF.out.scal.block scb rfl).2;have g3:=(HXV.out.frozen (p:=⟨scb,y * 5,none⟩) HSB7.out).trans g3;have g4:=(HXV.out.frozen (p:=⟨scb,y * 5+1,none⟩) HSB7.out).trans g4;have g5:=(HXV.out.frozen (p:=⟨scb,y * 5+2,none⟩) HSB7.out).trans g5;have g6:=(HXV.out.frozen (p:=⟨scb,y * 5+3,none⟩) HSB7.out).trans g6;have g7:=(HXV.out.frozen (p:=⟨scb,y * 5+4,none⟩) HSB7.out).trans g7;have hput:=HF.out.put HS.out HXV.out (HSC.out y HYN.out) (x':=t) (A:=A5) (n1:=n5) (c1:=c5) (B:=B5) (m1:=m5) (e1:=e5) (HVT.out.ext HX7.out);obtain⟨W8,hW8⟩:∃W8,setRow w7 scb (y * 5) [.int .i64 t.kind,.int .i64 t.size,.int .i64 t.count,.slice A5 n5 c5,.slice B5 m5 e5]=W8:=⟨_,rfl⟩;rw[hW8]at hput;have HPUT:=hid hput;have HW8:=hid hW8;clear hput hW8 hq6 hwl;go_upto_region 29 with fail
           refine wp_region_split 7 (by kernel_rfl) rfl rfl (by kernel_rfl) (fun w'=>w'.cell? ⟨sb,7,none⟩=some (.slice (some ⟨scb,0,none⟩) j j)∧w'.cell? ⟨aP,0,none⟩=some (.int .i64 t.kind)∧w'.cell? ⟨aP,1,none⟩=some (.int .i64 t.size)∧w'.cell? ⟨aP,2,none⟩=some (.int .i64 t.count)∧w'.cell? ⟨aP,3,none⟩=some (.slice A5 n5 c5)∧w'.cell? ⟨aP,4,none⟩=some (.slice B5 m5 e5)) ⟨(Ext.refl w7).drew.cell b7,(Ext.refl w7).drew.cell p0,(Ext.refl w7).drew.cell p1,(Ext.refl w7).drew.cell p2,(Ext.refl w7).drew.cell p3,(Ext.refl w7).drew.cell p4⟩ (fun hSg7q0=>?_);refine rgT6 0 1 2 3 4 5 ?_;refine rgT 6 ?_;refine wpAnyH_done (by kernel_rfl) ?_ _;change wpList _ _ _ _ _ _;go_upto_region 30 with fail
           rw[show(((((w7.setCell ⟨scb,y * 5,none⟩ (.int .i64 t.kind)).setCell ⟨scb,y * 5+1,none⟩ (.int .i64 t.size)).setCell ⟨scb,y * 5+2,none⟩ (.int .i64 t.count)).setCell ⟨scb,y * 5+3,none⟩ (.slice A5 n5 c5)).setCell ⟨scb,y * 5+4,none⟩ (.slice B5 m5 e5))=W8 from HW8.out];have HF8:=hid (HPUT.out.ext (Ext.refl W8).drew);have hN6:y<1048576:=by have:=HYN.out;have:=HSZ.out;omega
           have hwl:=HWL.out;clear b7 y0 y1 y2 y3 y4 p0 p1 p2 p3 p4 g3 g4 g5 g6 g7
           go_wp2_with (first
            |(at_builtin;refine wpList_appW rfl (.tmp 218) (.tmp 220) rfl (fb+1) (.slice A6 WK2.length c6) WK2 (by rw[HQ6.out];rfl) (HF8.out.work.ext ((Ext.refl _).alloc _)) W8.heap.size y rfl (by simp[go_sem]) hN6 (by rw[HQ6.out];omega) (by have:=HF8.out.rows.lt;simp at this ⊢;omega) ?_;intro A9 c9 w9 ho9 hg9 hl9;rw[HQ6.out]at ho9 hl9;rw[HQ6.out];have HO9:=hid ho9;have HG9:=hid hg9;have HL9:=hid hl9;clear ho9 hg9 hl9)
            |fail)
           first
            |go_roundw
            |refine⟨?rel, ?measure⟩
           case rel=>
            have hgt:=HTG.out;have hsup:SupT l t:=by rw[←HT.out];exact sup_join (HFL.out.good y) (HFL.out.good kk) (HSU.out y) (HSU.out kk) HS.out.ok
            have hpot:pot l t<pot l (T2 y):=by rw[HTY.out];exact pot_lt HS.out.ok hgt.1 hgt.2.2 hsup HLE.out.1 (same_false HZ.out)
            have hst:=flow_step HS.out.ok HFL.out HYE.out;rw[HT.out]at hst;have hw:=HF8.out.wrk HS.out (wv':= .slice A9 (q6+1) c9) (WK':=WK2 ++ [y]) ((Chg.of_ext _ ((Ext.refl _).alloc _)).trans (Chg.of_grown' HG9.out (fun b hb=>by rw[←HQ6.out]at *;exact hb))) HO9.out (fun g hg=>by rcases HL9.out g hg with e|e;exact .inl (by rw[HQ6.out];exact e);exact .inr (by simp at e ⊢;omega));refine⟨i'+1,WK2 ++ [y],SC2.set y t,fun x=>if x=y then t else T2 x,by omega,by go_num,hid hw,hid ?_,hid ?_,hid ?_,hid ?_,hid ?_,hid ?_⟩
            ·intro y' hy';show(SC2.set y t)[y']? =some (if y'=y then t else T2 y');by_cases hyy:y'=y
             ·subst hyy;rw[if_pos rfl,List.getElem?_set_self (List.getElem?_eq_some_iff.1 (HSC.out y' hy')).1]
             ·rw[if_neg hyy,List.getElem?_set_ne (Ne.symm hyy)];exact HSC.out y' hy'
            ·refine hst.weaken (fun x x' _ hx hn=>?_)
             exfalso
             apply hn;rcases hx with(hx|hx)|hx
             ·exact .inl (List.mem_append_left _ hx)
             ·exact .inr hx
             ·exact .inl (List.mem_append_right _ (by simp[hx]))
            ·intro y' hy';rcases List.mem_append.1 hy' with h3|h3
             ·exact HLT.out y' h3
             ·obtain rfl:y'=y:=by simpa using h3
              exact HYN.out
            ·intro y';show SupT l (if y'=y then t else T2 y')
             split
             ·exact hsup
             ·exact HSU.out y'
            ·have h3:=potS_lt (l:=l) (S:=T2) (S':=fun x=>if x=y then t else T2 x) HYN.out (fun x hx=>if_neg hx) (by simpa using hpot);have h4:=HM.out;unfold muF at h4 ⊢;simp only[List.length_append,List.length_cons,List.length_nil]at h4 ⊢;omega
            ·by_cases hky:kk=y
             ·exact .inl (List.mem_append_right _ (by simp[hky]))
             ·rcases HPR.out with h3|h3
              ·exact .inl (List.mem_append_left _ h3)
              ·refine .inr (fun y' hy'=>?_);show subT (if kk=y then t else T2 kk) (if y'=y then t else T2 y')=true;rw[if_neg hky,HTK.out];rw[HYI.out]at hy';by_cases hyy:y'=y
               ·rw[if_pos hyy];exact HLE.out.2
               ·rw[if_neg hyy,←HTK.out];rcases List.mem_append.1 hy' with h4|h4
                ·exact h3 y' h4
                ·exact absurd (by simpa using h4) hyy
           case measure=>simp [intOf];omega
         have HXg8q_0:=hid ((Ext.refl V).drew);refine wp_region_split 16 (by kernel_rfl) rfl rfl (by kernel_rfl) (fun w'=>w'.cell? ⟨sb,7,none⟩=some (.slice (some ⟨scb,0,none⟩) j j)∧w'.cell? ⟨scb,y * 5,none⟩=some (.int .i64 ty.kind)∧w'.cell? ⟨scb,y * 5+1,none⟩=some (.int .i64 ty.size)∧w'.cell? ⟨scb,y * 5+2,none⟩=some (.int .i64 ty.count)∧w'.cell? ⟨scb,y * 5+3,none⟩=some (.slice A1 n1 c1)∧w'.cell? ⟨scb,y * 5+4,none⟩=some (.slice B1 m1 e1)∧w'.cell? ⟨scb,kk * 5,none⟩=some (.int .i64 tk.kind)∧w'.cell? ⟨scb,kk * 5+1,none⟩=some (.int .i64 tk.size)∧w'.cell? ⟨scb,kk * 5+2,none⟩=some (.int .i64 tk.count)∧w'.cell? ⟨scb,kk * 5+3,none⟩=some (.slice A2 n2 c2)∧w'.cell? ⟨scb,kk * 5+4,none⟩=some (.slice B2 m2 e2)) (HSK.out _ (Ext.refl V).drew) (fun hSg8q0=>?_);refine rgT6 0 1 2 3 4 5 ?_;refine rgT6 6 7 8 9 10 11 ?_;refine rgT2 12 13 ?_;refine wpAnyH_ready (rs:=[14,15]) (by kernel_rfl) (by simp) ?_;refine(AllReadyH.consL rfl (fun K hK=>?g8qb14x15) (AllReadyH.consL rfl (fun K hK=>?g8qb15x15) AllReadyH.nil))
         case' g8qb14x15=>
          go_simp;go_at_call 43;refine(HJ.out _ HXg8q_0.out).mono ?_;rintro e w5 ⟨v5,rfl,hv5,hEg8q1⟩;have HSA:=hid (hEg8q1).size;have HVF:=hid (tyv_lt hv5);obtain⟨A5,n5,c5,B5,m5,e5,rfl, -⟩:=hv5;have HXg8q_1:=hid (HXg8q_0.out.trans hEg8q1);clear hEg8q1;refine rgK hK (HSK.out _ HXg8q_1.out) (fun hSg8q1=>?_);clear hK K;refine wpAnyH_ready (rs:=[15]) (by kernel_rfl) (by simp) ?_;refine(AllReadyH.consL rfl (fun K hK=>?g8qb15x16) AllReadyH.nil)
          case' g8qb15x16=>
           go_simp;obtain⟨wP,aP,hA1,hsz,hEg8q2,hge,hob,hss⟩:=newT HXg8q_1.out;refine Eq.mpr (congrArg (K _) hA1) ?_
           first|rw[hsz]|(have hq:V.heap.size=aP:=hsz;rw[hq];clear hq)|skip
           have HBP:=hid hob;have HGP:=hid hge;have HSP:=hid (And.intro hsz hss);clear hA1 hsz hge hob hss;have HXg8q_2:=hid (HXg8q_1.out.trans hEg8q2);have HVF:=hid (HVF.out.ext hEg8q2);clear hEg8q2;refine rgK hK (HSK.out _ HXg8q_2.out) (fun hSg8q2=>?_);clear hK K;have HXend:=HXg8q_2;refine wpAnyH_done (by kernel_rfl) ?_ _;change wpList _ _ _ _ _ _;obtain⟨W8,hW8,hB8,hH8,hS8,hX8⟩:=box5_set HBP.out (.int .i64 t.kind) (.int .i64 t.size) (.int .i64 t.count) (.slice A5 n5 c5) (.slice B5 m5 e5);have HX8:=hid (hX8 V HXend.out HGP.out);have HV8:=hid (TyV.mono (S':=fun b=>V.heap.size≤b) (fun b hb _=>by have hb':=hb;have:=HSP.out;have:=HSA.out;have:=HGP.out;have h0:V.drew.heap.size=V.heap.size:=rfl;omega) (HVF.out.keep (w':=W8) (fun b hb _=>hH8 b (by have hb':=hb;have:=HSA.out;have:=HSP.out;omega))));have HB8:=hid hB8;have HW8:=hid hW8;obtain⟨z0,z1,z2,z3,z4,zf⟩:=HBP.out;have f0:=zf 0;have f1:=zf 1;have f2:=zf 2;have f3:=zf 3;have f4:=zf 4;clear hW8 hB8 hH8 hS8 hX8 zf
           go_wp2
           rw[HW8.out];go_meet;exact⟨aP,A5,n5,c5,B5,m5,e5,rfl,HB8,HV8,HX8⟩
         case' g8qb15x15=>
          go_simp;obtain⟨wP,aP,hA1,hsz,hEg8q1,hge,hob,hss⟩:=newT HXg8q_0.out;refine Eq.mpr (congrArg (K _) hA1) ?_
          first|rw[hsz]|(have hq:V.heap.size=aP:=hsz;rw[hq];clear hq)|skip
          have HBP:=hid hob;have HGP:=hid hge;have HSP:=hid (And.intro hsz hss);clear hA1 hsz hge hob hss;have HXg8q_1:=hid (HXg8q_0.out.trans hEg8q1);clear hEg8q1;refine rgK hK (HSK.out _ HXg8q_1.out) (fun hSg8q1=>?_);clear hK K;refine wpAnyH_ready (rs:=[14]) (by kernel_rfl) (by simp) ?_;refine(AllReadyH.consL rfl (fun K hK=>?g8qb14x17) AllReadyH.nil)
          case' g8qb14x17=>
           go_simp;go_at_call 43;refine(HJ.out _ HXg8q_1.out).mono ?_;rintro e w5 ⟨v5,rfl,hv5,hEg8q2⟩;have HSA:=hid (hEg8q2).size;have HVF:=hid (tyv_lt hv5);obtain⟨A5,n5,c5,B5,m5,e5,rfl, -⟩:=hv5;have HXg8q_2:=hid (HXg8q_1.out.trans hEg8q2);have HBP:=hid (HBP.out.ext hEg8q2);clear hEg8q2;refine rgK hK (HSK.out _ HXg8q_2.out) (fun hSg8q2=>?_);clear hK K;have HXend:=HXg8q_2;refine wpAnyH_done (by kernel_rfl) ?_ _;change wpList _ _ _ _ _ _;obtain⟨W8,hW8,hB8,hH8,hS8,hX8⟩:=box5_set HBP.out (.int .i64 t.kind) (.int .i64 t.size) (.int .i64 t.count) (.slice A5 n5 c5) (.slice B5 m5 e5);have HX8:=hid (hX8 V HXend.out HGP.out);have HV8:=hid (TyV.mono (S':=fun b=>V.heap.size≤b) (fun b hb _=>by have hb':=hb;have:=HSP.out;have:=HSA.out;have:=HGP.out;have h0:V.drew.heap.size=V.heap.size:=rfl;omega) (HVF.out.keep (w':=W8) (fun b hb _=>hH8 b (by have hb':=hb;have:=HSA.out;have:=HSP.out;omega))));have HB8:=hid hB8;have HW8:=hid hW8;obtain⟨z0,z1,z2,z3,z4,zf⟩:=HBP.out;have f0:=zf 0;have f1:=zf 1;have f2:=zf 2;have f3:=zf 3;have f4:=zf 4;clear hW8 hB8 hH8 hS8 hX8 zf
           go_wp2
           rw[HW8.out];go_meet;exact⟨aP,A5,n5,c5,B5,m5,e5,rfl,HB8,HV8,HX8⟩
        ·obtain rfl:i'=ne:=by omega
         have i1:¬(i':Int)<(i':Int):=by omega
         go_wp2_with fail
         first
          |go_roundw
          |refine⟨?rel, ?measure⟩
         case rel=>
          refine⟨(WK2,SC2,T2),⟨HF.out,HSC.out,HFL.out.weaken (fun x y hxy hx hn=>?_),HLT.out,HSU.out,Nat.le_trans (Nat.le_of_lt HM.out) HFQ.out.bd⟩⟩;rcases hx with hx|hx
          ·exact absurd hx hn
          ·subst hx;rcases HPR.out with h3|h3
           ·exact absurd h3 hn
           ·refine h3 y ?_;rw[List.take_of_length_le (by rw[HNE.out];exact Nat.le_refl _),←HE.out];exact edges_step.2 hxy
         case measure=>
          have h3:=leastM_le (μ:=muF l j) (p:=FR (d+1) D W0 (.slice A k me) l n P0 P fb scb j g E _ _) (a:=(WK2,SC2,T2)) ⟨HF.out,HSC.out,HFL.out.weaken (fun x y hxy hx hn=>by
           rcases hx with hx|hx
           ·exact absurd hx hn
           ·subst hx;rcases HPR.out with h3|h3
            ·exact absurd h3 hn
            ·refine h3 y ?_;rw[List.take_of_length_le (by rw[HNE.out];exact Nat.le_refl _),←HE.out];exact edges_step.2 hxy),HLT.out,HSU.out,Nat.le_trans (Nat.le_of_lt HM.out) HFQ.out.bd⟩
          have h4:=HM.out;have h5:=HMU.out;rw[←HQL.out,←h5];exact Nat.lt_of_le_of_lt h3 h4
end Go.Proofs.YtlmipgdnlfjpaaaGreat
