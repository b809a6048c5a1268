/- Merged by program from texts of my own. -/
import Derived.Test.YtlmipgdnlfjpaaaGreatSoBm
import Derived.Test.YtlmipgdnlfjpaaaGreatPlam
import Derived.Test.YtlmipgdnlfjpaaaGreatMpcm
import Derived.Test.YtlmipgdnlfjpaaaGreatSptm
namespace Go.Proofs.YtlmipgdnlfjpaaaGreat
open Go.RowKit Go.Deco
set_option linter.unusedSimpArgs false
set_option linter.unusedVariables false
def No (_:Nat):Prop:=False
def ParR (w:World)(pb cap:Nat)(P:List Nat):Prop:=OwnS natR w 0 3 No (.slice (some ⟨pb,0,none⟩) P.length cap) P∧DnP P∧P.length≤1048576
section
variable {w w':World}{pb cap:Nat}{P:List Nat}
theorem ParR.lt (h:ParR w pb cap P):pb<w.heap.size:=(h.1.block pb rfl).2
theorem ParR.cell (h:ParR w pb cap P){k x:Nat}(hk:P[k]? =some x):w.cell? ⟨pb,k,none⟩=some (.int .i64 x)∧w.frozen? ⟨pb,k,none⟩=false:=by
 have:=h.1.num_cell hk;exact this
theorem ParR.keep (h:ParR w pb cap P)(hk:w'.heap[pb]? =w.heap[pb]?):ParR w' pb cap P:=by
 refine⟨?_,h.2⟩;obtain⟨xs,h1,h2⟩:=h.1;refine⟨xs,⟨h1.1, ?_⟩,chunks_num.2 (chunks_num.1 h2)⟩;rcases h1.2 with⟨hn,_⟩|⟨g,cap,cur,hv,hb,hg,rest⟩
 ·cases hn
 ·injection hv with hv h3 h4
  injection hv with hv
  injection hv with hv
  subst hv h4;exact .inr ⟨pb,_,cur,rfl,hb,hk.trans hg,rest⟩
theorem ParR.ext (h:ParR w pb cap P)(he:Ext w w'):ParR w' pb cap P:=h.keep (he.block h.lt)
theorem ParR.chg {M:Nat→Prop}(h:ParR w pb cap P)(he:Chg M w w')(hp:¬M pb):ParR w' pb cap P:=h.keep (he.block pb h.lt hp)
theorem ParR.set (h:ParR w pb cap P){k q:Nat}(hq:q≤k)(hk:k<P.length):ParR (w.setCell ⟨pb,k,none⟩ (.int .i64 q)) pb cap (P.set k q):=by
 refine⟨?_,dn_set h.2.1 hq,by rw[List.length_set];exact h.2.2⟩;have:=h.1.num_set (x:=q) (by have:=h.2.2;omega) k
 rwa [List.length_set]
end
def FindIs (w:World)(pb cap:Nat)(P:List Nat)(k:Nat)(e:Ending)(w':World):Prop:=e= .returned (.int .i64 (rootP P k))∧∃P',SameP P P'∧ParR w' pb cap P'∧Chg (fun b=>b=pb) w w'
set_option maxRecDepth 100000 in
set_option maxHeartbeats 4000000 in
theorem find_any (w:World)(sb pb cap:Nat)(P:List Nat)(hP:ParR w pb cap P)(hc:w.cell? ⟨sb,2,none⟩=some (.slice (some ⟨pb,0,none⟩) P.length cap))(hne:sb≠pb)(k:Nat)(hk:k<P.length):
  Calls Tryz.prog 28 #[.pointer (some ⟨sb,0,none⟩),.int .i64 k] w (FindIs w pb cap P k):=by
 obtain⟨r,hr⟩:∃r,rootP P k=r:=⟨_,rfl⟩;unfold FindIs;rw[hr];obtain⟨N,hN⟩:∃N,P.length=N:=⟨_,rfl⟩;have HP:=hid hP;rw[hN]at hc hk;have HN:=hid hN;have HR:=hid hr;have HNE:=hid hne;have HC:=hid hc;have HD:=hid hP.2.1;clear hr hN hP hne hc;go_enter Tryz.func28,Tryz.ntmps28
 go_wp2
 go_loopw [1] (fun s1 wr=>∃(j:Nat) (P':List Nat),s1= .int .i64 j∧j<N∧Hid (SameP P P')∧Hid (ParR wr pb cap P')∧Hid (Chg (fun b=>b=pb) w wr)∧Hid (rootP P j=r)) (fun s1 _=>(intOf s1).toNat)
 case atStart=>exact⟨k,P,rfl,hk,hid (SameP.refl HD.out),HP,hid (Chg.refl _ _),HR⟩
 case round=>
  obtain⟨j,P',rfl,hj,HS,HPR,HCH,HRJ⟩:=hrel;obtain⟨p,hp⟩:∃p,P'[j]? =some p:=⟨_,List.getElem?_eq_getElem (by have:=HS.out.len;have:=HN.out;omega)⟩;have hpj:=HPR.out.2.1 j p hp;obtain⟨q,hq⟩:∃q,P'[p]? =some q:=⟨_,List.getElem?_eq_getElem (by have:=HS.out.len;have:=HN.out;omega)⟩;have hqp:=HPR.out.2.1 p q hq;have c2:=HCH.out.cell HC.out (p:=⟨sb,2,none⟩) (fun e=>HNE.out e);obtain⟨x0,f0⟩:=HPR.out.cell hp;obtain⟨y0, -⟩:=HPR.out.cell hq;have HPJ:=hid hp;have HQJ:=hid hq;have i1:(0:Int)≤(j:Int):=by omega
  have i2:(j:Int)<(N:Int):=by omega
  have i3:(0:Int)≤(p:Int):=by omega
  have i4:(p:Int)<(N:Int):=by omega
  have HQP:=hid hqp;have HPJL:=hid hpj;clear hp hq hqp hpj;by_cases h1:p=j
  ·subst h1;have g1:((p:Int) != (p:Int))=false:=by simp
   clear y0 HQJ f0
   go_wp2
   go_ret;refine⟨ret_int ?_,P',HS.out,HPR.out,HCH.out⟩;rw[←HRJ.out,←HS.out.root,rootP_self HPR.out.2.1 HPJ.out]
  ·have g1:((p:Int) != (j:Int))=true:=by simp;omega
   have HH:=hid (half_same HPR.out.2.1 HPJ.out HQJ.out);have HLT:Hid (p<j):=hid (by have:=HPJL.out;omega);have HP2:=hid (HPR.out.set (k:=j) (q:=q) (by have:=HQP.out;have:=HPJL.out;omega) (by have:=HS.out.len;have:=HN.out;omega));have HC2:=hid (HCH.out.set (p:=⟨pb,j,none⟩) (.int .i64 q) rfl);have ne1:sb≠pb:=HNE.out;clear h1
   go_wp2_with fail
   refine wp_region_split 19 (by kernel_rfl) rfl rfl (by kernel_rfl) (fun w'=>w'.cell? ⟨sb,2,none⟩=some (.slice (some ⟨pb,0,none⟩) N cap)∧w'.cell? ⟨pb,j,none⟩=some (.int .i64 p)∧w'.cell? ⟨pb,p,none⟩=some (.int .i64 q)) ⟨c2,x0,y0⟩ (fun hSg1q0=>?_);refine rgT6 0 1 2 3 4 5 ?_;refine rgT6 6 7 8 9 10 11 ?_;refine rgT6 12 13 14 15 16 17 ?_;refine rgT 18 ?_;refine wpAnyH_done (by kernel_rfl) ?_ _;change wpList _ _ _ _ _ _
   go_wp2
   first
    |go_roundw
    |refine⟨?rel, ?measure⟩
   case rel=>exact⟨q,P'.set j q,rfl,by have:=HQP.out;have:=HPJL.out;omega,hid (HS.out.trans HH.out),hid (HP2.out.ext (Ext.refl _).drew),hid (HC2.out.ext (Ext.refl _).drew),hid (by rw[←HRJ.out,←HS.out.root j,←HS.out.root q,rootP_up HPR.out.2.1 HPJ.out,rootP_up HPR.out.2.1 HQJ.out])⟩
   case measure=>simp [intOf];have:=HQP.out;have:=HLT.out;omega
structure UniP (P:List Nat)(a b:Nat)(P':List Nat):Prop where
 len:P'.length=P.length
 dn:DnP P'
 root:∀x,rootP P' x=if rootP P x=max (rootP P a) (rootP P b) then min (rootP P a) (rootP P b) else rootP P x
 sum:P'.sum≤P.sum
 less:rootP P a≠rootP P b→P'.sum<P.sum
def UniteIs (w:World)(pb cap:Nat)(P:List Nat)(a b:Nat)(e:Ending)(w':World):Prop:=e= .returned (.bool (decide (rootP P a≠rootP P b)))∧∃P',UniP P a b P'∧ParR w' pb cap P'∧Chg (fun b=>b=pb) w w'
set_option maxRecDepth 100000 in
set_option maxHeartbeats 4000000 in
theorem unite_any (w:World)(sb pb cap:Nat)(P:List Nat)(hP:ParR w pb cap P)(hc:w.cell? ⟨sb,2,none⟩=some (.slice (some ⟨pb,0,none⟩) P.length cap))(hne:sb≠pb)(a b:Nat)(ha:a<P.length)(hb:b<P.length):
  Calls Tryz.prog 48 #[.pointer (some ⟨sb,0,none⟩),.int .i64 a,.int .i64 b] w (UniteIs w pb cap P a b):=by
 have HF1:=hid (find_any w sb pb cap P hP hc hne a ha);have HF2:=hid (fun(w':World) (P':List Nat) (hs:SameP P P') (hp:ParR w' pb cap P') (hg:Chg (fun b=>b=pb) w w')=>find_any w' sb pb cap P' hp (by rw[hs.len];exact hg.cell hc (fun e=>hne e)) hne b (by rw[hs.len];exact hb));have HD:=hid hP.2.1;have HFA:=hid (rootP_fix hP.2.1 a a (Nat.le_refl _) ha);have HFB:=hid (rootP_fix hP.2.1 b b (Nat.le_refl _) hb);have HLA:=hid (rootP_lt hP.2.1 ha);have HLB:=hid (rootP_lt hP.2.1 hb);obtain⟨N,hN⟩:∃N,P.length=N:=⟨_,rfl⟩;have HN:=hid hN;have HC:=hid hc;have HNE:=hid hne;rw[hN]at hc ha hb;clear hP hN hne;go_enter Tryz.func48,Tryz.ntmps48
 go_wp2_with fail
 refine HF1.out.mono ?_;rintro e w1 ⟨rfl,P1,hs1,hp1,hg1⟩;have HF3:=hid (HF2.out w1 P1 hs1 hp1 hg1);have HS1:=hid hs1;have HG1:=hid hg1;clear hs1 hp1 hg1 HF1;obtain⟨ra,hra⟩:∃ra,rootP P a=ra:=⟨_,rfl⟩;have HRA:=hid hra;rw[hra];clear hra
 go_wp2_with fail
 refine HF3.out.mono ?_;rintro e w2 ⟨rfl,P2,hs2,hp2,hg2⟩;obtain⟨rb,hrb⟩:∃rb,rootP P1 b=rb:=⟨_,rfl⟩;have HRB:Hid (rootP P b=rb):=hid (by rw[←hrb,HS1.out.root]);rw[hrb];clear hrb;have HS2:=hid (HS1.out.trans hs2);have HP2:=hid hp2;have HG2:=hid (HG1.out.trans hg2);have c2:=HG2.out.cell HC.out (p:=⟨sb,2,none⟩) (fun e=>HNE.out e);rw[HN.out]at c2;clear hs2 hp2 hg2 HF2 HF3 hc;have hla:ra<N:=by have:=HLA.out;have:=HRA.out;have:=HN.out;omega
 have hlb:rb<N:=by have:=HLB.out;have:=HRB.out;have:=HN.out;omega
 have hfa:P2[ra]? =some ra:=by
  have h1:=rootP_fix HS2.out.dn a a (Nat.le_refl _) (by rw[HS2.out.len,HN.out];exact ha)
  rwa [HS2.out.root,HRA.out]at h1
 have hfb:P2[rb]? =some rb:=by
  have h1:=rootP_fix HS2.out.dn b b (Nat.le_refl _) (by rw[HS2.out.len,HN.out];exact hb)
  rwa [HS2.out.root,HRB.out]at h1
 have HHS:=hid (And.intro hla hlb);have HFM:=hid (And.intro hfa hfb);clear hla hlb hfa hfb ha hb;rcases Nat.lt_trichotomy ra rb with h|h|h
 ·have j1:(ra:Int)<(rb:Int):=by omega
  have j2:¬(rb:Int)<(ra:Int):=by omega
  have j3:((ra:Int) != (rb:Int))=true:=by simp;omega
  have HU:=hid (unite_root HS2.out.dn (HFM.out.2) (HFM.out.1) (by omega));have HPU:=hid (HP2.out.set (k:=rb) (q:=ra) (by omega) (by have:=HS2.out.len;have:=HN.out;have:=HHS.out;omega));have HGU:=hid (HG2.out.set (p:=⟨pb,rb,none⟩) (.int .i64 ra) rfl);obtain⟨x0,f0⟩:=HP2.out.cell (HFM.out.2);have i1:(0:Int)≤(rb:Int):=by omega
  have i2:(rb:Int)<(N:Int):=by have:=HHS.out;omega
  have HMM:=hid (show max ra rb=rb∧min ra rb=ra by omega);have HLE:=hid (show ra≤rb by omega);have HNL:=hid (show ra≠rb→ra<rb by omega);have HDC:Hid (decide (ra≠rb)=((ra:Int) != (rb:Int))):=hid (by rw[Bool.eq_iff_iff];simp <;> omega)
  try clear h
  go_wp2
  go_ret;refine⟨ret_bool ?_,_,⟨?_,HU.out.1,fun x=>?_, ?_,fun hne=>?_⟩,HPU.out,HGU.out⟩
  ·rw[HRA.out,HRB.out,HDC.out,j3]
  ·rw[HU.out.2.1,HS2.out.len]
  ·rw[HU.out.2.2.1,HS2.out.root,HRA.out,HRB.out,HMM.out.1,HMM.out.2]
  ·have h1:=HU.out.2.2.2;have h2:=HLE.out;have h3:=HS2.out.sum;omega
  ·rw[HRA.out,HRB.out]at hne;have h1:=HU.out.2.2.2;have h2:=HNL.out hne;have h3:=HS2.out.sum;omega
 ·subst h;have j1:¬(ra:Int)<(ra:Int):=by omega
  have j3:((ra:Int) != (ra:Int))=false:=by simp
  have HU:=hid (unite_root HS2.out.dn (HFM.out.1) (HFM.out.1) (by omega));have HPU:=hid (HP2.out.set (k:=ra) (q:=ra) (by omega) (by have:=HS2.out.len;have:=HN.out;have:=HHS.out;omega));have HGU:=hid (HG2.out.set (p:=⟨pb,ra,none⟩) (.int .i64 ra) rfl);obtain⟨x0,f0⟩:=HP2.out.cell (HFM.out.1);have i1:(0:Int)≤(ra:Int):=by omega
  have i2:(ra:Int)<(N:Int):=by have:=HHS.out;omega
  have HMM:=hid (show max ra ra=ra∧min ra ra=ra by omega);have HLE:=hid (show ra≤ra by omega);have HNL:=hid (show ra≠ra→ra<ra by omega);have HDC:Hid (decide (ra≠ra)=((ra:Int) != (ra:Int))):=hid (by rw[Bool.eq_iff_iff];simp <;> omega)
  try clear h
  go_wp2
  go_ret;refine⟨ret_bool ?_,_,⟨?_,HU.out.1,fun x=>?_, ?_,fun hne=>?_⟩,HPU.out,HGU.out⟩
  ·rw[HRA.out,HRB.out,HDC.out,j3]
  ·rw[HU.out.2.1,HS2.out.len]
  ·rw[HU.out.2.2.1,HS2.out.root,HRA.out,HRB.out,HMM.out.1,HMM.out.2]
  ·have h1:=HU.out.2.2.2;have h2:=HLE.out;have h3:=HS2.out.sum;omega
  ·rw[HRA.out,HRB.out]at hne;have h1:=HU.out.2.2.2;have h2:=HNL.out hne;have h3:=HS2.out.sum;omega
 ·have j1:¬(ra:Int)<(rb:Int):=by omega
  have j2:(rb:Int)<(ra:Int):=by omega
  have j3:((ra:Int) != (rb:Int))=true:=by simp;omega
  have HU:=hid (unite_root HS2.out.dn (HFM.out.1) (HFM.out.2) (by omega));have HPU:=hid (HP2.out.set (k:=ra) (q:=rb) (by omega) (by have:=HS2.out.len;have:=HN.out;have:=HHS.out;omega));have HGU:=hid (HG2.out.set (p:=⟨pb,ra,none⟩) (.int .i64 rb) rfl);obtain⟨x0,f0⟩:=HP2.out.cell (HFM.out.1);have i1:(0:Int)≤(ra:Int):=by omega
  have i2:(ra:Int)<(N:Int):=by have:=HHS.out;omega
  have HMM:=hid (show max ra rb=ra∧min ra rb=rb by omega);have HLE:=hid (show rb≤ra by omega);have HNL:=hid (show ra≠rb→rb<ra by omega);have HDC:Hid (decide (ra≠rb)=((ra:Int) != (rb:Int))):=hid (by rw[Bool.eq_iff_iff];simp <;> omega)
  try clear h
  go_wp2
  go_ret;refine⟨ret_bool ?_,_,⟨?_,HU.out.1,fun x=>?_, ?_,fun hne=>?_⟩,HPU.out,HGU.out⟩
  ·rw[HRA.out,HRB.out,HDC.out,j3]
  ·rw[HU.out.2.1,HS2.out.len]
  ·rw[HU.out.2.2.1,HS2.out.root,HRA.out,HRB.out,HMM.out.1,HMM.out.2]
  ·have h1:=HU.out.2.2.2;have h2:=HLE.out;have h3:=HS2.out.sum;omega
  ·rw[HRA.out,HRB.out]at hne;have h1:=HU.out.2.2.2;have h2:=HNL.out hne;have h3:=HS2.out.sum;omega
end Go.Proofs.YtlmipgdnlfjpaaaGreat
