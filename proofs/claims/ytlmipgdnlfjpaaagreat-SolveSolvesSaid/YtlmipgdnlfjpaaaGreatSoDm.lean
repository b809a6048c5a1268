/- Lemmas of mine, merged. -/
import Derived.Test.YtlmipgdnlfjpaaaGreatSobm
import Derived.Test.YtlmipgdnlfjpaaaGreatPlam
import Derived.Test.YtlmipgdnlfjpaaaGreatMpcm
import Derived.Test.YtlmipgdnlfjpaaaGreatSptm
set_option maxRecDepth 100000
set_option maxHeartbeats 4000000
set_option linter.unusedSimpArgs false
set_option linter.unusedVariables false
namespace Go.Proofs.YtlmipgdnlfjpaaaGreat
open Go.RowKit Go.Deco
def No (_:Nat):Prop:=False
def Z4 (w:World)(pb cap:Nat)(P:List Nat):Prop:=Qf QF w 0 3 No (.slice (some ⟨pb,0,none⟩) P.length cap) P/\DnP P/\P.length<=1048576
section
variable {w w':World}{pb cap:Nat}{P:List Nat}
theorem Z4.lt (h:Z4 w pb cap P):pb<w.heap.size:=(h.1.block pb rfl).2
theorem Z4.cell (h:Z4 w pb cap P){k x:Nat}(hk:P[k]? =some x):w.cell? ⟨pb,k,none⟩=some (.int .i64 x)/\w.frozen? ⟨pb,k,none⟩=false:=by
 have:=h.1.num_cell hk;exact this
theorem Z4.keep (h:Z4 w pb cap P)(hk:w'.heap[pb]? =w.heap[pb]?):Z4 w' pb cap P:=by
 refine⟨?_,h.2⟩;obtain⟨xs,h1,h2⟩:=h.1;refine⟨xs,⟨h1.1, ?_⟩,XV.2 (XV.1 h2)⟩;rcases h1.2 with⟨hn,_⟩|⟨g,cap,cur,hv,hb,hg,rest⟩
 ·cases hn
 ·injection hv with hv h3 h4
  injection hv with hv
  injection hv with hv
  subst hv h4;exact .inr ⟨pb,_,cur,rfl,hb,hk.trans hg,rest⟩
theorem Z4.ext (h:Z4 w pb cap P)(he:Ext w w'):Z4 w' pb cap P:=h.keep (he.block h.lt)
theorem Z4.chg {M:Nat->Prop}(h:Z4 w pb cap P)(he:Chg M w w')(hp:¬M pb):Z4 w' pb cap P:=h.keep (he.block pb h.lt hp)
theorem Z4.set (h:Z4 w pb cap P){k q:Nat}(hq:q<=k)(hk:k<P.length):Z4 (w.setCell ⟨pb,k,none⟩ (.int .i64 q)) pb cap (P.set k q):=by
 refine⟨?_,yC h.2.1 hq,by rw[List.length_set];exact h.2.2⟩;have:=h.1.num_set (x:=q) (by have:=h.2.2;omega) k
 rwa [List.length_set]
end
def kV (w:World)(pb cap:Nat)(P:List Nat)(k:Nat)(e:Ending)(w':World):Prop:=e= .returned (.int .i64 (Qb P k))/\∃P',XM P P'/\Z4 w' pb cap P'/\Chg (fun b=>b=pb) w w'
theorem zY (w:World)(sb pb cap:Nat)(P:List Nat)(hP:Z4 w pb cap P)(hc:w.cell? ⟨sb,2,none⟩=some (.slice (some ⟨pb,0,none⟩) P.length cap))(hne:sb≠pb)(k:Nat)(hk:k<P.length):
  Calls Tryz.prog 28 #[.pointer (some ⟨sb,0,none⟩),.int .i64 k] w (kV w pb cap P k):=by
 obtain⟨r,hr⟩:=Qg (Qb P k);unfold kV;rw[hr];obtain⟨N,hN⟩:=Qg (P.length);have HP:=hid hP;rw[hN]at hc hk;have HN:=hid hN;have HR:=hid hr;have HNE:=hid hne;have HC:=hid hc;have HD:=hid hP.2.1;clear hr hN hP hne hc;go_enter Tryz.func28,Tryz.ntmps28
 go_wp2
 go_loopw [1] (fun s1 wr=>∃(j:Nat) (P':List Nat),s1= .int .i64 j/\j<N/\Hid (XM P P')/\Hid (Z4 wr pb cap P')/\Hid (Chg (fun b=>b=pb) w wr)/\Hid (Qb P j=r)) (fun s1 _=>(intOf s1).toNat)
 case atStart=>exact⟨k,P,rfl,hk,hid (XM.refl HD.o),HP,hid (Chg.refl _ _),HR⟩
 case round=>
  obtain⟨j,P',rfl,hj,HS,HPR,HCH,HRJ⟩:=hrel;obtain⟨p,hp⟩:∃p,P'[j]? =some p:=⟨_,Qq (by have:=HS.o.len;have:=HN.o;omega)⟩;have hpj:=HPR.o.2.1 j p hp;obtain⟨q,hq⟩:∃q,P'[p]? =some q:=⟨_,Qq (by have:=HS.o.len;have:=HN.o;omega)⟩;have hqp:=HPR.o.2.1 p q hq;have c2:=HCH.o.cell HC.o (p:=⟨sb,2,none⟩) (fun e=>HNE.o e);obtain⟨x0,f0⟩:=HPR.o.cell hp;obtain⟨y0, -⟩:=HPR.o.cell hq;have HPJ:=hid hp;have HQJ:=hid hq;have i1:(0:Int)<=(j:Int):=by omega
  have i2:(j:Int)<(N:Int):=by omega
  have i3:(0:Int)<=(p:Int):=by omega
  have i4:(p:Int)<(N:Int):=by omega
  have HQP:=hid hqp;have HPJL:=hid hpj;clear hp hq hqp hpj;by_cases h1:p=j
  ·subst h1;have g1:((p:Int) != (p:Int))=false:=by simp
   clear y0 HQJ f0
   go_wp2
   go_ret;refine⟨Kf ?_,P',HS.o,HPR.o,HCH.o⟩;rw[<-HRJ.o,<-HS.o.root,Kv HPR.o.2.1 HPJ.o]
  ·have g1:((p:Int) != (j:Int))=true:=by simp;omega
   have HH:=hid (aw HPR.o.2.1 HPJ.o HQJ.o);have HLT:Hid (p<j):=hid (by have:=HPJL.o;omega);have HP2:=hid (HPR.o.set (k:=j) (q:=q) (by have:=HQP.o;have:=HPJL.o;omega) (by have:=HS.o.len;have:=HN.o;omega));have HC2:=hid (HCH.o.set (p:=⟨pb,j,none⟩) (.int .i64 q) rfl);have ne1:sb≠pb:=HNE.o;clear h1
   go_wp2_with fail
   refine rgS 19 rfl rfl (Ext.hc3 c2 x0 y0) (Ext.refl _).drew (fun hSg1q0=>?_);refine Qp 0 1 2 3 4 5 ?_;refine Qp 6 7 8 9 10 11 ?_;refine Qp 12 13 14 15 16 17 ?_;refine rgT 18 ?_;refine wpAnyH_done (by kernel_rfl) ?_ _;change wpList _ _ _ _ _ _
   go_wp2
   first
    |go_roundw
    |refine⟨?rel, ?measure⟩
   case rel=>exact⟨q,P'.set j q,rfl,by have:=HQP.o;have:=HPJL.o;omega,hid (HS.o.trans HH.o),hid (HP2.o.ext (Ext.refl _).drew),hid (HC2.o.ext (Ext.refl _).drew),hid (by rw[<-HRJ.o,<-HS.o.root j,<-HS.o.root q,J0 HPR.o.2.1 HPJ.o,J0 HPR.o.2.1 HQJ.o])⟩
   case measure=>simp [intOf];have:=HQP.o;have:=HLT.o;omega
structure FX (P:List Nat)(a b:Nat)(P':List Nat):Prop where
 len:P'.length=P.length
 dn:DnP P'
 root:∀x,Qb P' x=if Qb P x=max (Qb P a) (Qb P b) then min (Qb P a) (Qb P b) else Qb P x
 sum:P'.sum<=P.sum
 less:Qb P a≠Qb P b->P'.sum<P.sum
def yp (w:World)(pb cap:Nat)(P:List Nat)(a b:Nat)(e:Ending)(w':World):Prop:=e= .returned (.bool (decide (Qb P a≠Qb P b)))/\∃P',FX P a b P'/\Z4 w' pb cap P'/\Chg (fun b=>b=pb) w w'
theorem pZ (w:World)(sb pb cap:Nat)(P:List Nat)(hP:Z4 w pb cap P)(hc:w.cell? ⟨sb,2,none⟩=some (.slice (some ⟨pb,0,none⟩) P.length cap))(hne:sb≠pb)(a b:Nat)(ha:a<P.length)(hb:b<P.length):
  Calls Tryz.prog 48 #[.pointer (some ⟨sb,0,none⟩),.int .i64 a,.int .i64 b] w (yp w pb cap P a b):=by
 have HF1:=hid (zY w sb pb cap P hP hc hne a ha);have HF2:=hid (fun(w':World) (P':List Nat) (hs:XM P P') (hp:Z4 w' pb cap P') (hg:Chg (fun b=>b=pb) w w')=>zY w' sb pb cap P' hp (by rw[hs.len];exact hg.cell hc (fun e=>hne e)) hne b (by rw[hs.len];exact hb));have HD:=hid hP.2.1;have HFA:=hid (qg hP.2.1 a a (Nat.le_refl _) ha);have HFB:=hid (qg hP.2.1 b b (Nat.le_refl _) hb);have HLA:=hid (xj hP.2.1 ha);have HLB:=hid (xj hP.2.1 hb);obtain⟨N,hN⟩:=Qg (P.length);have HN:=hid hN;have HC:=hid hc;have HNE:=hid hne;rw[hN]at hc ha hb;clear hP hN hne;go_enter Tryz.func48,Tryz.ntmps48
 go_wp2_with fail
 refine HF1.o.mono ?_;rintro e w1 ⟨rfl,P1,hs1,hp1,hg1⟩;have HF3:=hid (HF2.o w1 P1 hs1 hp1 hg1);have HS1:=hid hs1;have HG1:=hid hg1;clear hs1 hp1 hg1 HF1;obtain⟨ra,hra⟩:=Qg (Qb P a);have HRA:=hid hra;rw[hra];clear hra
 go_wp2_with fail
 refine HF3.o.mono ?_;rintro e w2 ⟨rfl,P2,hs2,hp2,hg2⟩;obtain⟨rb,hrb⟩:=Qg (Qb P1 b);have HRB:Hid (Qb P b=rb):=hid (by rw[<-hrb,HS1.o.root]);rw[hrb];clear hrb;have HS2:=hid (HS1.o.trans hs2);have HP2:=hid hp2;have HG2:=hid (HG1.o.trans hg2);have c2:=HG2.o.cell HC.o (p:=⟨sb,2,none⟩) (fun e=>HNE.o e);rw[HN.o]at c2;clear hs2 hp2 hg2 HF2 HF3 hc;have hla:ra<N:=by have:=HLA.o;have:=HRA.o;have:=HN.o;omega
 have hlb:rb<N:=by have:=HLB.o;have:=HRB.o;have:=HN.o;omega
 have hfa:P2[ra]? =some ra:=by
  have h1:=qg HS2.o.dn a a (Nat.le_refl _) (by rw[HS2.o.len,HN.o];exact ha)
  rwa [HS2.o.root,HRA.o]at h1
 have hfb:P2[rb]? =some rb:=by
  have h1:=qg HS2.o.dn b b (Nat.le_refl _) (by rw[HS2.o.len,HN.o];exact hb)
  rwa [HS2.o.root,HRB.o]at h1
 have HHS:=hid (And.intro hla hlb);have HFM:=hid (And.intro hfa hfb);clear hla hlb hfa hfb ha hb;rcases Nat.lt_trichotomy ra rb with h|h|h
 ·have j1:(ra:Int)<(rb:Int):=by omega
  have j2:¬(rb:Int)<(ra:Int):=by omega
  have j3:((ra:Int) != (rb:Int))=true:=by simp;omega
  have HU:=hid (wD HS2.o.dn (HFM.o.2) (HFM.o.1) (by omega));have HPU:=hid (HP2.o.set (k:=rb) (q:=ra) (by omega) (by have:=HS2.o.len;have:=HN.o;have:=HHS.o;omega));have HGU:=hid (HG2.o.set (p:=⟨pb,rb,none⟩) (.int .i64 ra) rfl);obtain⟨x0,f0⟩:=HP2.o.cell (HFM.o.2);have i1:(0:Int)<=(rb:Int):=by omega
  have i2:(rb:Int)<(N:Int):=by have:=HHS.o;omega
  have HMM:=hid (show max ra rb=rb/\min ra rb=ra by omega);have HLE:=hid (show ra<=rb by omega);have HNL:=hid (show ra≠rb->ra<rb by omega);have HDC:Hid (decide (ra≠rb)=((ra:Int) != (rb:Int))):=hid (by rw[Bool.eq_iff_iff];simp <;> omega)
  try clear h
  go_wp2
  go_ret;refine⟨XP ?_,_,⟨?_,HU.o.1,fun x=>?_, ?_,fun hne=>?_⟩,HPU.o,HGU.o⟩
  ·rw[HRA.o,HRB.o,HDC.o,j3]
  ·rw[HU.o.2.1,HS2.o.len]
  ·rw[HU.o.2.2.1,HS2.o.root,HRA.o,HRB.o,HMM.o.1,HMM.o.2]
  ·have h1:=HU.o.2.2.2;have h2:=HLE.o;have h3:=HS2.o.sum;omega
  ·rw[HRA.o,HRB.o]at hne;have h1:=HU.o.2.2.2;have h2:=HNL.o hne;have h3:=HS2.o.sum;omega
 ·subst h;have j1:¬(ra:Int)<(ra:Int):=by omega
  have j3:((ra:Int) != (ra:Int))=false:=by simp
  have HU:=hid (wD HS2.o.dn (HFM.o.1) (HFM.o.1) (by omega));have HPU:=hid (HP2.o.set (k:=ra) (q:=ra) (by omega) (by have:=HS2.o.len;have:=HN.o;have:=HHS.o;omega));have HGU:=hid (HG2.o.set (p:=⟨pb,ra,none⟩) (.int .i64 ra) rfl);obtain⟨x0,f0⟩:=HP2.o.cell (HFM.o.1);have i1:(0:Int)<=(ra:Int):=by omega
  have i2:(ra:Int)<(N:Int):=by have:=HHS.o;omega
  have HMM:=hid (show max ra ra=ra/\min ra ra=ra by omega);have HLE:=hid (show ra<=ra by omega);have HNL:=hid (show ra≠ra->ra<ra by omega);have HDC:Hid (decide (ra≠ra)=((ra:Int) != (ra:Int))):=hid (by rw[Bool.eq_iff_iff];simp <;> omega)
  try clear h
  go_wp2
  go_ret;refine⟨XP ?_,_,⟨?_,HU.o.1,fun x=>?_, ?_,fun hne=>?_⟩,HPU.o,HGU.o⟩
  ·rw[HRA.o,HRB.o,HDC.o,j3]
  ·rw[HU.o.2.1,HS2.o.len]
  ·rw[HU.o.2.2.1,HS2.o.root,HRA.o,HRB.o,HMM.o.1,HMM.o.2]
  ·have h1:=HU.o.2.2.2;have h2:=HLE.o;have h3:=HS2.o.sum;omega
  ·rw[HRA.o,HRB.o]at hne;have h1:=HU.o.2.2.2;have h2:=HNL.o hne;have h3:=HS2.o.sum;omega
 ·have j1:¬(ra:Int)<(rb:Int):=by omega
  have j2:(rb:Int)<(ra:Int):=by omega
  have j3:((ra:Int) != (rb:Int))=true:=by simp;omega
  have HU:=hid (wD HS2.o.dn (HFM.o.1) (HFM.o.2) (by omega));have HPU:=hid (HP2.o.set (k:=ra) (q:=rb) (by omega) (by have:=HS2.o.len;have:=HN.o;have:=HHS.o;omega));have HGU:=hid (HG2.o.set (p:=⟨pb,ra,none⟩) (.int .i64 rb) rfl);obtain⟨x0,f0⟩:=HP2.o.cell (HFM.o.1);have i1:(0:Int)<=(ra:Int):=by omega
  have i2:(ra:Int)<(N:Int):=by have:=HHS.o;omega
  have HMM:=hid (show max ra rb=ra/\min ra rb=rb by omega);have HLE:=hid (show rb<=ra by omega);have HNL:=hid (show ra≠rb->rb<ra by omega);have HDC:Hid (decide (ra≠rb)=((ra:Int) != (rb:Int))):=hid (by rw[Bool.eq_iff_iff];simp <;> omega)
  try clear h
  go_wp2
  go_ret;refine⟨XP ?_,_,⟨?_,HU.o.1,fun x=>?_, ?_,fun hne=>?_⟩,HPU.o,HGU.o⟩
  ·rw[HRA.o,HRB.o,HDC.o,j3]
  ·rw[HU.o.2.1,HS2.o.len]
  ·rw[HU.o.2.2.1,HS2.o.root,HRA.o,HRB.o,HMM.o.1,HMM.o.2]
  ·have h1:=HU.o.2.2.2;have h2:=HLE.o;have h3:=HS2.o.sum;omega
  ·rw[HRA.o,HRB.o]at hne;have h1:=HU.o.2.2.2;have h2:=HNL.o hne;have h3:=HS2.o.sum;omega
end Go.Proofs.YtlmipgdnlfjpaaaGreat
