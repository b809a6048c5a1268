/- Lemmas of mine, merged. -/
import Derived.Test.YtlmipgdnlfjpaaaGreatSoQm
import Derived.Test.YtlmipgdnlfjpaaaGreatSoHm
import Derived.Test.YtlmipgdnlfjpaaaGreatFloDm
set_option linter.unusedSimpArgs false
set_option linter.unusedVariables false
namespace Go.Proofs.YtlmipgdnlfjpaaaGreat
open Go.RowKit Go.Deco Go.Maps
section
variable {d:Nat}{D:Zj}{w0 W0 W:World}{vl:Value}{l:List Con}{n:Nat}{P0 P:List Nat}{v6 v7:Value}{scb N:Nat}{SC:List Ty}
theorem rQ {A:Option Addr}{m me:Nat}(S:Zw d D w0 W0 (.slice A m me) l n P0){TF:Nat->Ty}(hF:xd l n P0 SC TF):∀M,YB d D W0 (.slice A m me) l n P0 v6 scb (n+l.length) SC M
 |0=>fun q _ _ _ h=>absurd h (Nat.not_lt_zero _)
 |M+1=>fun q h1 h2 h3 h4 W P T ft fc fr h=>iD S hF h h1 h2 h3 ((rQ S hF M).mono (Nat.lt_succ_iff.1 h4))
def Zj.on (D:Zj):Zj:={D with mx:=True}
def Zj.off (D:Zj):Zj:={D with mx:=False}
theorem xZ.off (b:xZ D W l n P):xZ D.off W l n P:=⟨b.cls,b.cells,b.offs,b.some',b.full,b.dir,b.hcm,b.hlo,b.hsz,b.hpb,b.rows,b.hn⟩
theorem Zw.on (S:Zw d D w0 W0 vl l n P0):Zw d D.on w0 W0 vl l n P0:=
 ⟨S.sl,S.ext,S.lt,⟨S.base.cls,S.base.cells,S.base.offs,S.base.some',S.base.full,S.base.dir,S.base.hcm,S.base.hlo,S.base.hsz,S.base.hpb,S.base.rows,S.base.hn⟩,S.ok,S.hn,S.hm⟩
theorem Q6.on (h:Q6 D W0 W vl l n P0 P v6 v7):Q6 D.on W0 W vl l n P0 P v6 v7:=
 ⟨h.chg.mono (fun b hb=>by
  rcases hb with e|e|e|e|e
  ·exact .inl e
  ·exact .inr (.inl ⟨trivial,e.2⟩)
  ·exact .inr (.inr (.inl ⟨trivial,e.2⟩))
  ·exact .inr (.inr (.inr (.inl ⟨trivial,e.2⟩)))
  ·exact .inr (.inr (.inr (.inr e)))),h.box,h.par,h.same⟩
theorem aM (S:Zw d D w0 W0 vl l n P0)(hmx:¬D.mx){fb:Nat}{g:Nat->Value}{F:Nat->List Nat}{wv:Value}{WK:List Nat}(h:ZQ d D W0 W vl l n P0 P fb scb N g F SC wv WK)
  (h0:MapG (QG Tryz.underlying3) W0 D.b0 0 (fun _=>none)) (h1:MapG (QG Tryz.underlying3) W0 (D.b0+1) 0 (fun _=>none)) (h2:MapG (QG Tryz.underlying3) W0 (D.b0+2) 0 (fun _=>none)) (hN:0<n+l.length):
  PtS d D.on W0 W vl l n P0 P (.slice (some ⟨fb,0,none⟩) N N) scb N SC (fun b=>(qF W0.heap.size fb N g wv b/\b<W.heap.size)\/b=scb) (fun _=>none) (fun _=>none) (fun _=>none):=by
 have hbd:=S.bounds hN
 have hm:∀b,b<=D.b0+2->¬Mut D b:=fun b hb e=>by
  rcases e with e|e|e|e|e
  ·omega
  ·exact hmx e.1
  ·exact hmx e.1
  ·exact hmx e.1
  ·omega
 have hsc:=h.scal.block scb rfl;refine⟨h.now.on,h.scal.monoT (fun b hb hi=> .inl ⟨hb,hi.lt⟩), ?_, ?_, ?_,fun q v hq=>(by cases hq),fun _ _=>rfl,fun q v hq=>(by cases hq),fun b hb=>?_,.inr rfl,trivial⟩
 ·rw[pJ];exact h.now.chg.map h0 (hm D.b0 (by omega))
 ·rw[pJ];exact h.now.chg.map h1 (hm (D.b0+1) (by omega))
 ·rw[pJ];exact h.now.chg.map h2 (hm (D.b0+2) (by omega))
 ·rcases hb with hb|rfl
  ·exact⟨hb.1.1,hb.2⟩
  ·exact hsc
end
theorem Qf.ty_up {d d':Nat}(hd:d<=d'){w:World}{base:Nat}{e:TypeId}{T:Nat->Prop}{v:Value}{l:List Ty}(h:Qf (tyR d) w base e T v l):Qf (tyR d') w base e T v l:=by
 obtain⟨xs,h1,h2⟩:=h;refine⟨xs, ?_, ?_⟩
 ·rw[ZY]at h1 ⊢;exact h1
 ·clear h1
  induction l generalizing xs with
  |nil=>exact h2
  |cons x l ih=>
   obtain⟨cs,rest,rfl,h3,h4⟩:=h2;exact⟨cs,rest,rfl,Km hd _ _ _ _ h3,ih rest h4⟩
theorem GV (d:Nat)(w:World)(S:Nat->Prop)(cs:List Value)(c:Con)(h:(Zf (tyR d)).rel w S cs c):(Zf (tyR (d+1))).rel w S cs c:=by
 obtain⟨r,k1,k2,k3⟩:=h;exact⟨r,k1,Km (Nat.le_succ d) _ _ _ _ k2,k3⟩
theorem rz {d:Nat}{w:World}{S:Nat->Prop}{v:Value}{l:List Con}(h:Sl (Zf (tyR d)) w S v l):Sl (Zf (tyR (d+1))) w S v l:=Sl.up (by rw[zd,zd]) (GV d) h
def bk (w:World)(l:List Con)(n:Int)(e:Ending)(w':World):Prop:=
 (Xy l n≠0/\e= .returned (.tuple #[.agg #[.slice none 0 0,.slice none 0 0],.int .i64 (Xy l n:Nat)])/\Ext w w')\/
 (Xy l n=0/\∃(ts:List Ty) (A:Option Addr) (c:Nat) (B:Option Addr) (c' dd:Nat),e= .returned (.tuple #[.agg #[.slice A ts.length c,.slice B (ZZ ts).length c'],.int .i64 0])/\J9 l n ts/\
  Sl (tyR dd) w' (fun b=>w.heap.size<=b) (.slice A ts.length c) ts/\Sl QF w' (fun b=>w.heap.size<=b) (.slice B (ZZ ts).length c') (ZZ ts)/\Ext w w')
set_option maxRecDepth 100000 in
set_option maxHeartbeats 16000000 in
theorem pd (d:Nat)(w:World)(A:Option Addr)(m me:Nat)(l:List Con)(n:Int)(hs:Sl (Zf (tyR d)) w All (.slice A m me) l)(hcnt:Xy l n=0->K5 l<=1000000000):
  Calls Tryz.prog 8 #[.slice A m me,.int .i64 n] w (bk w l n):=by
 have hlen:=hs.len;obtain⟨W1,hW1⟩:=Qg (w.alloc (.cells #[.slice none 0 0,.slice none 0 0] 28));have hRB:Q5 W1 w.heap.size (.slice none 0 0) (.slice none 0 0):=by rw[<-hW1];exact Q5.new w _ _ _
 have hE1:Ext w W1:=by rw[<-hW1];exact(Ext.refl w).alloc _
 have hs1:W1.heap.size=w.heap.size+1:=by rw[<-hW1];simp
 have HCH:=hid (oX d W1 A m me l n (hs.ext hE1));obtain⟨ck,hck⟩:=Qg (Xy l n);rw[hck]at HCH;have HCK:=hid hck;have HRB:=hid hRB;have HE1:=hid hE1;have HS:=hid hs;have HL:=hid hlen;have HCNT:=hid hcnt;have HS1:=hid hs1;clear hs hlen hRB hE1 hck hcnt hs1;go_enter Tryz.func8,Tryz.ntmps8;go_upto_region 1 with fail
 clear hW1
 go_wp2_with fail
 refine HCH.o.mono ?_;rintro e w2 ⟨rfl,hx2⟩;have HX2:=hid hx2;have HRB2:=hid (HRB.o.ext hx2);clear hx2 HCH;by_cases hc0:ck=0
 case neg=>
  have g1:((ck:Int) != 0)=true:=by simp[hc0]
  have HC0:=hid hc0;clear hc0;obtain⟨r0,r1,rf⟩:=HRB2.o;have u0:=rf 0;have u1:=rf 1;obtain⟨W9,hW9,hB9,hH9,hS9,hX9⟩:=Vq (HRB2.o) (.slice none 0 0) (.slice none 0 0);obtain⟨t0,t1, -⟩:=hB9;have HW9:=hid hW9;have HX9':=hid hX9;have HH9:=hid hH9;have HS9:=hid hS9;clear hW9 hH9 hS9 hX9 rf
  go_wp2
  try rw[HW9.o]
  clear r0 r1;refine bodyPost_ret (v:= .tuple #[.agg #[(.slice none 0 0),(.slice none 0 0)],.int .i64 ck]) (by simp[results,Tryz.results8,go_sem,t0,t1]) rfl ?_;exact .inl ⟨by rw[HCK.o];exact HC0.o,by rw[HCK.o],HX9'.o w (HE1.o.trans HX2.o) (Nat.le_refl _)⟩
 have g1:((ck:Int) != 0)=false:=by simp[hc0]
 have hok:=vP.1 (HCK.o.trans hc0);obtain⟨nn,rfl⟩:∃nn:Nat,n=nn:=⟨n.toNat,(Qk hok.1).symm⟩;have HOK:=hid hok;have hnn:nn<=65536:=by omega
 have hmm:m<=65536:=by have:=HL.o;omega
 have HC0:=hid hc0;have HNW:=hid (sZ (d+1) w2 A m me l nn ((rz (HS.o.ext (HE1.o.trans HX2.o)))) hnn hmm hok.2.2.2);clear hok hc0
 go_wp2_with fail
 refine HNW.o.mono ?_;rintro e w3 ⟨D,P0,rfl,hD0,hbase,hbox,hpar,hm0,hm1,hm2,hx3⟩;have hE3:Ext w w3:=(HE1.o.trans HX2.o).trans hx3;have S:Zw (d+1) D.off w w3 (.slice A m me) l nn P0:=⟨rz HS.o,hE3,by have:=HX2.o.size;have:=HE1.o.size;show w.heap.size<=D.b0;omega,hbase.off,HOK.o.2.2.2,hnn,HOK.o.2.2.1⟩;have h3:Q6 D.off w3 w3 (.slice A m me) l nn P0 P0 (.slice none 0 0) (.slice none 0 0):=⟨Chg.refl _ _,hbox,hpar,XM.refl hpar.2.1⟩;have HFA:=hid (show Calls Tryz.prog 27 #[.pointer (some ⟨D.b0+5,0,none⟩)] w3 (bq (d+1) D.off w3 (.slice A m me) l nn P0) from ig S h3);have HST:=hid S;have HSO:=hid S.on;have HM0:=hid hm0;have HM1:=hid hm1;have HM2:=hid hm2;have HX3:=hid hx3;have HD0:=hid hD0;clear hD0 hbase hbox hpar hm0 hm1 hm2 hx3 hE3 S h3 HNW
 go_wp2_with fail
 refine HFA.o.mono ?_;rintro e w4 ⟨rfl,P,fb,scb,g,F,SC,wv,WK,TF,hflo,hsc,hfl⟩;have HFLO:=hid hflo;have HFOK:Hid (xd l nn P0 SC TF):=hid ⟨hsc,hfl,HCNT.o (HCK.o.trans HC0.o)⟩
 have hE4:Ext w2 w4:=Chg.old HX3.o hflo.now.chg (fun b hb=>by
  have h1:=HD0.o;have h2:=HST.o.base.hpb.1;have h3:D.off.pb=D.pb:=rfl;rcases hb with e|e|e|e|e
  ·have h4:b=D.pb:=e.1;have h5:D.b0+6<=D.pb:=h2;omega
  ·exact e.1.elim
  ·exact e.1.elim
  ·exact e.1.elim
  ·have h4:b=D.b0+5:=e;omega)
 have HE4:=hid hE4;obtain⟨w5,hms,hown,hx5⟩:=uq 0 w4 nn w4.heap.size (T:=fun b=>w4.heap.size<=b) (by omega) (Nat.le_refl _);have HMS:=hid hms;have HX5:=hid hx5;have HOWN:=hid hown;have hms:=HMS.o
 have HPT0:Hid (0<nn->∃(P':List Nat) (T':Nat->Prop) (ft' fc' fr':Int->Option Value),Q4 (d+1) D.off.on w3 w4 (.slice A m me) l nn P0 (.slice (some ⟨fb,0,none⟩) (nn+l.length) (nn+l.length)) scb (nn+l.length) SC (fun b=>(qF w3.heap.size fb (nn+l.length) g wv b/\b<w4.heap.size)\/b=scb) (fun _=>none) (fun _=>True) w5 P' T' ft' fc' fr'/\¬T' w4.heap.size):=hid (fun h0=>
  ⟨P,_,_,_,_,(Q4.start (aM HST.o (fun h=>h) HFLO.o HM0.o HM1.o HM2.o (by omega)) (Chg.refl _ _)).ext HX5.o,by
   have h6:=(HFLO.o.scal.block scb rfl).2;rintro(k|k)
   ·have:=k.2;omega
   ·omega⟩)
 have HOB:Hid (w3.heap.size<=w4.heap.size/\w4.heap.size<=w4.heap.size/\w2.heap.size<=w4.heap.size/\w.heap.size<w2.heap.size):=hid (by
  have h1:=HFLO.o.now.chg.size;have h2:=HX3.o.size;have h3:=HRB2.o.lt;omega)
 clear hflo hsc hfl hE4 hown hx5 HFA
 go_wp2_with fail
 clear hms
 go_loopw [27] (fun i wr=>∃(j:Nat) (OUT:List Ty) (dd:Nat),j<=nn/\i= .int .i64 j/\Hid (Qf (tyR (dd+1)) wr w4.heap.size 42 (fun b=>w4.heap.size<=b) (.slice (some ⟨w4.heap.size,0,none⟩) nn nn) OUT)/\Hid (∀v:Nat,v<j->∃t,OUT[v]? =some t/\qM l (v:Int) t)/\Hid (Ext w2 wr)/\Hid (0<nn->∃(P':List Nat) (T':Nat->Prop) (ft' fc' fr':Int->Option Value),Q4 (d+1) D.off.on w3 w4 (.slice A m me) l nn P0 (.slice (some ⟨fb,0,none⟩) (nn+l.length) (nn+l.length)) scb (nn+l.length) SC (fun b=>(qF w3.heap.size fb (nn+l.length) g wv b/\b<w4.heap.size)\/b=scb) (fun _=>none) (fun _=>True) wr P' T' ft' fc' fr'/\¬T' w4.heap.size)) (fun i _=>nn - (intOf i).toNat)
 case atStart=>exact⟨0,_,0,by omega,rfl,HOWN,hid (fun v hv=>absurd hv (Nat.not_lt_zero _)),hid (HE4.o.trans HX5.o),HPT0⟩
 case round=>
  obtain⟨j,OUT,dd,hj,rfl,HO,HFD,HX9,HPT⟩:=hrel;clear HPT0 HOWN HMS;by_cases h1:j<nn
  ·obtain⟨P6,T6,ft6,fc6,fr6,hpt,hnt⟩:=HPT.o (by omega);obtain⟨xo,hxo⟩:∃xo,OUT[j]? =some xo:=⟨_,Qq (by have:=HO.o.len;omega)⟩;have HXO:=hid hxo;have HP6:=hid hpt;have HN6:=hid hnt;have hNP:0<nn+l.length:=by omega
   have HPB:Hid (w2.heap.size<=D.pb/\D.pb<w3.heap.size/\w2.heap.size<=D.b0/\D.b0+5<w3.heap.size):=hid (by
    have h1:=HD0.o;have h2:D.b0+6<=D.pb:=HST.o.base.hpb.1;have h3:D.pb<D.cm:=HST.o.base.hpb.2 hNP;have h4:D.cm<D.lo:=HST.o.base.hlo;have h5:D.lo<=w3.heap.size:=HST.o.base.hsz;omega)
   have HNP:=hid hNP;have HFI:=hid (show Calls Tryz.prog 28 #[.pointer (some ⟨D.b0+5,0,none⟩),.int .i64 j] wr (fun e w'=>e= .returned (.int .i64 (Qb P0 j:Nat))/\∃P',Q6 D.off.on w3 w' (.slice A m me) l nn P0 P' (.slice (some ⟨fb,0,none⟩) (nn+l.length) (nn+l.length)) (.slice (some ⟨scb,0,none⟩) (nn+l.length) (nn+l.length))/\Chg (fun b=>b=D.pb) wr w') from jg HSO.o hpt.pts.now (by omega));obtain⟨q,hq⟩:=Qg (Qb P0 j);rw[hq]at HFI;have HQE:=hid hq;clear hpt hnt hxo hNP hq
   go_wp2_with fail
   refine HFI.o.mono ?_;rintro e w6 ⟨rfl,P7,hn7,hc7⟩;have HR:=hid hn7.roots
   have HQ:Hid (q<nn/\Qb P0 q=q/\VE l (j:Int) (q:Int)):=hid (by
    rw[<-HQE.o];exact⟨HR.o.lt j h1,HR.o.idem j h1,YJ HSO.o.base.cls HR.o h1⟩)
   have HN7:=hid hn7;have HP7:=hid (HP6.o.pb HSO.o HNP.o hn7 hc7);have HX7:=hid (Chg.old HX9.o hc7 (fun b hb=>by have:=HPB.o;omega));have HO7:=hid (hc7.own HO.o (fun b hb e=>by have:=(HO.o.block b hb).1;have:=HPB.o;have:=HOB.o;omega) (fun b hb e=>by have hb':w4.heap.size<=b:=hb;have:=HPB.o;have:=HOB.o;omega));have HIP:=hid (show Calls Tryz.prog 29 #[.pointer (some ⟨D.b0+5,0,none⟩),.int .i64 (q:Int)] w6 (fun e w'=>e= .returned (.bool (D.fo q).isSome)/\Ext w6 w') from pj HSO.o hn7 (by have:=HQ.o.1;unfold Qy;omega));have HIS:Hid ((D.fo q).isSome=true↔Q9 l (q:Int)):=hid (HSO.o.isptr HR.o HQ.o.1 HQ.o.2.1);obtain⟨z,hz⟩:=Qg ((D.fo q).isSome);rw[hz]at HIP HIS;clear hn7 hc7 hz
   go_wp2_with fail
   refine HIP.o.mono ?_;rintro e w7 ⟨rfl,hx7⟩;have HP8:=hid (HP7.o.ext hx7);have HX8:=hid (HX7.o.trans hx7);have HO8':=hid (HO7.o.ext hx7);clear hx7
   cases z with
   | true=>
    have hip:Q9 l (q:Int):=HIS.o.1 (by first|rfl|trivial);have HIQ:=hid hip;have HPC:=hid (show Calls Tryz.prog 31 #[.pointer (some ⟨D.b0+5,0,none⟩),.int .i64 q] w7 (kp (d+1) D.off.on w3 w7 (.slice A m me) l nn P0 (.slice (some ⟨fb,0,none⟩) (nn+l.length) (nn+l.length)) scb (nn+l.length) SC T6 ft6 q) from rQ HSO.o HFOK.o (mu l nn (q:Int)+1) q HQ.o.1 HQ.o.2.1 hip (Nat.lt_succ_self _) w7 P7 T6 ft6 fc6 fr6 HP8.o.pts);clear hip
    go_wp2_with fail
    refine HPC.o.mono ?_;rintro e w8 ⟨v8,t,d8,mm,P8,T8,ft8,fc8,fr8,rfl,hv8,hpt8,hct8,hcn8,hto8⟩;have HPT8:=hid hpt8;have HTO8:=hid (HP8.o.trans (hto8.weak (fun _ _=>trivial)));have HCP:=hid (pF d8 w8 t v8 hv8.all (kW t (by omega)))
    have hmu:∀y,w3.heap.size<=y->¬Kx D.off.on y:=fun y hy e=>by
     have h7:=HPB.o;rcases e with e|e|e|e
     ·have h8:y=D.pb:=e;omega
     ·have h8:y=D.b0:=e;omega
     ·have h8:y=D.b0+1:=e;omega
     ·have h8:y=D.b0+2:=e;omega
    have hmu2:∀y,Kx D.off.on y->w2.heap.size<=y:=fun y e=>by
     have h7:=HPB.o;rcases e with e|e|e|e
     ·have h8:y=D.pb:=e;omega
     ·have h8:y=D.b0:=e;omega
     ·have h8:y=D.b0+1:=e;omega
     ·have h8:y=D.b0+2:=e;omega
    have HX10:=hid (Chg.old HX8.o hto8.chg hmu2);have HO10:=hid (hto8.chg.own HO8'.o (fun b hb=>hmu b (by have:=(HO8'.o.block b hb).1;have:=HOB.o;omega)) (fun b hb=>hmu b (by have hb':w4.heap.size<=b:=hb;have:=HOB.o;omega)));have HW8S:Hid (w4.heap.size<w7.heap.size):=hid (HO8'.o.block w4.heap.size rfl).2
    have HNT8:Hid (¬T8 w4.heap.size):=hid (fun k=>by
     rcases hto8.plc _ k with e|e
     ·exact HN6.o e
     ·have:=HW8S.o;omega)
    have hw78:=hto8.chg.size;obtain⟨A8,n8,c8,B8,m8,e8,rfl, -⟩:=hv8;clear hpt8 hct8 hcn8 hto8 hmu hmu2 HPC
    go_wp2_with fail
    refine HCP.o.mono ?_;rintro e w9 ⟨v9,rfl,hv9,hx9⟩;have HV9:Hid (TyV d8 w9 (fun b=>w4.heap.size<=b/\b≠w4.heap.size) v9 t):=hid (hv9.mono (fun b hb _=>by have hb':w8.heap.size<=b:=hb;have:=HW8S.o;exact⟨by omega,by omega⟩));have HXV:=hid (HX10.o.trans hx9);have HO11:=hid (HO10.o.ext hx9);have HTO9:=hid (HTO8.o.ext hx9);have HNTV:=HNT8;obtain⟨A9,n9,c9,B9,m9,e9,rfl, -⟩:=hv9;obtain⟨d2,A3,n3,c3,B3,m3,e3, -, -,y0,y1,y2,y3,y4,hfr⟩:=JD HO11.o HXO.o;have g3:=hfr 0 (by omega);rw[Nat.add_zero]at g3;have g4:=hfr 1 (by omega);have g5:=hfr 2 (by omega);have g6:=hfr 3 (by omega);have g7:=hfr 4 (by omega);clear hfr hx9 hw78 HCP;have hown8:=pp (Qf.ty_up (show dd+1<=max dd d8+1 by omega) (HO11.o)) (x:=xo) (x':=t) (by have:=HXO.o;exact this) ((HV9.o).up (show d8<=max dd d8 by omega));obtain⟨W8,hW8⟩:=Qg (setRow w9 w4.heap.size (j * 5) [(.int .i64 t.kind),(.int .i64 t.size),(.int .i64 t.count),(.slice A9 n9 c9),(.slice B9 m9 e9)]);rw[hW8]at hown8;have hC8:Chg (fun b=>b=w4.heap.size) w9 W8:=by rw[<-hW8];exact Chg.row (M:=fun b=>b=w4.heap.size) rfl _ _ _
    have HO8:=hid hown8;have HC8:=hid hC8;have HW8:=hid hW8;clear hown8 hW8 hC8
    go_wp2
    rw[show(((((World.setCell w9 ⟨w4.heap.size,j * 5,none⟩ (.int .i64 t.kind)).setCell ⟨w4.heap.size,j * 5+1,none⟩ (.int .i64 t.size)).setCell ⟨w4.heap.size,j * 5+2,none⟩ (.int .i64 t.count)).setCell ⟨w4.heap.size,j * 5+3,none⟩ (.slice A9 n9 c9)).setCell ⟨w4.heap.size,j * 5+4,none⟩ (.slice B9 m9 e9))=W8 from HW8.o]
    first
     |go_roundw
     |refine⟨?rel, ?measure⟩
    case rel=>
     refine⟨j+1,OUT.set j t,max dd d8,by omega,by go_num,HO8,hid (fun v hv=>?_),hid (Chg.old HXV.o HC8.o (fun b hb=>by have:=HOB.o;omega)),hid (fun _=>⟨_,_,_,_,_,Q4.far HSO.o (HTO9.o) HC8.o (fun b hb=>⟨by have:=HOB.o;omega,by have:=HOB.o;omega,by rw[hb];exact HNTV.o⟩),HNTV.o⟩)⟩;by_cases hvj:v=j
     ·subst hvj;exact⟨t,List.getElem?_set_self (Qz HXO.o).1,(.inl ⟨X0 HQ.o.2.2.symm HIQ.o,mm,yq HQ.o.2.2.symm HPT8.o⟩)⟩
     ·rw[List.getElem?_set_ne (Ne.symm hvj)];exact HFD.o v (by omega)
    case measure=>simp [intOf];omega
   | false=>
    have hnp:¬Q9 l (q:Int):=fun k=>by have:=HIS.o.2 k;simp at this
    have HNQ:=hid hnp;have hsx:SC[j]? =some (TF j):=HFOK.o.at' j (by omega);obtain⟨t,ht⟩:=Qg (TF j);rw[ht]at hsx;have HTG:Hid (Zq t=true/\qG l (j:Int) t):=hid (by rw[<-ht];exact⟨HFOK.o.flow.good j,o8 HSO.o.base.cls HSO.o.ok HFOK.o.flow h1⟩);obtain⟨d8,A8,n8,c8,B8,m8,e8, -,hv8,x0,x1,x2,x3,x4, -⟩:=JD HP8.o.pts.scal hsx;have HCP:=hid (pF d8 w7 t _ hv8.all (fY HTG.o.1));have hb7:w7.cell? ⟨D.b0+5,7,none⟩=some (.slice (some ⟨scb,0,none⟩) (nn+l.length) (nn+l.length)):=HP8.o.pts.now.box.1 7 _ rfl;have i3:(j:Int)<((nn+l.length:Nat):Int):=by omega
    have HW8S:Hid (w4.heap.size<w7.heap.size):=hid (HO8'.o.block w4.heap.size rfl).2;obtain⟨NN,hNN⟩:=Qg (nn+l.length);rw[hNN]at hb7 i3;clear hnp hsx ht hv8 hNN
    go_wp2_with fail
    refine HCP.o.mono ?_;rintro e w9 ⟨v9,rfl,hv9,hx9⟩;have HV9:Hid (TyV d8 w9 (fun b=>w4.heap.size<=b/\b≠w4.heap.size) v9 t):=hid (hv9.mono (fun b hb _=>by have hb':w7.heap.size<=b:=hb;have:=HW8S.o;exact⟨by omega,by omega⟩));have HXV:=hid (HX8.o.trans hx9);have HO11:=hid (HO8'.o.ext hx9);have HTO9:=hid (HP8.o.ext hx9);have HNTV:=HN6;obtain⟨A9,n9,c9,B9,m9,e9,rfl, -⟩:=hv9;obtain⟨d2,A3,n3,c3,B3,m3,e3, -, -,y0,y1,y2,y3,y4,hfr⟩:=JD HO11.o HXO.o;have g3:=hfr 0 (by omega);rw[Nat.add_zero]at g3;have g4:=hfr 1 (by omega);have g5:=hfr 2 (by omega);have g6:=hfr 3 (by omega);have g7:=hfr 4 (by omega);clear hfr hx9 HCP x0 x1 x2 x3 x4 hb7 i3;have hown8:=pp (Qf.ty_up (show dd+1<=max dd d8+1 by omega) (HO11.o)) (x:=xo) (x':=t) (by have:=HXO.o;exact this) ((HV9.o).up (show d8<=max dd d8 by omega));obtain⟨W8,hW8⟩:=Qg (setRow w9 w4.heap.size (j * 5) [(.int .i64 t.kind),(.int .i64 t.size),(.int .i64 t.count),(.slice A9 n9 c9),(.slice B9 m9 e9)]);rw[hW8]at hown8;have hC8:Chg (fun b=>b=w4.heap.size) w9 W8:=by rw[<-hW8];exact Chg.row (M:=fun b=>b=w4.heap.size) rfl _ _ _
    have HO8:=hid hown8;have HC8:=hid hC8;have HW8:=hid hW8;clear hown8 hW8 hC8
    go_wp2
    rw[show(((((World.setCell w9 ⟨w4.heap.size,j * 5,none⟩ (.int .i64 t.kind)).setCell ⟨w4.heap.size,j * 5+1,none⟩ (.int .i64 t.size)).setCell ⟨w4.heap.size,j * 5+2,none⟩ (.int .i64 t.count)).setCell ⟨w4.heap.size,j * 5+3,none⟩ (.slice A9 n9 c9)).setCell ⟨w4.heap.size,j * 5+4,none⟩ (.slice B9 m9 e9))=W8 from HW8.o]
    first
     |go_roundw
     |refine⟨?rel, ?measure⟩
    case rel=>
     refine⟨j+1,OUT.set j t,max dd d8,by omega,by go_num,HO8,hid (fun v hv=>?_),hid (Chg.old HXV.o HC8.o (fun b hb=>by have:=HOB.o;omega)),hid (fun _=>⟨_,_,_,_,_,Q4.far HSO.o (HTO9.o) HC8.o (fun b hb=>⟨by have:=HOB.o;omega,by have:=HOB.o;omega,by rw[hb];exact HNTV.o⟩),HNTV.o⟩)⟩;by_cases hvj:v=j
     ·subst hvj;exact⟨t,List.getElem?_set_self (Qz HXO.o).1,(.inr ⟨fun k=>HNQ.o (X0 HQ.o.2.2 k),HTG.o.2⟩)⟩
     ·rw[List.getElem?_set_ne (Ne.symm hvj)];exact HFD.o v (by omega)
    case measure=>simp [intOf];omega
  ·obtain rfl:j=nn:=by omega
   have i1:¬(j:Int)<(j:Int):=by omega
   have HOL:=hid HO.o.len;have HSN:=hid (Gw (dd+1) wr (some ⟨w4.heap.size,0,none⟩) j j OUT HO.o.sl (by omega))
   go_wp2_with fail
   refine HSN.o.mono ?_;rintro e w6 ⟨B6,c6,rfl,hb6,hx6⟩;have HB6:=hid hb6;have HX6:=hid (HX9.o.trans hx6);have HX66:=hid hx6;clear hx6 hb6;obtain⟨r0,r1,rf⟩:=(HRB2.o.ext HX6.o);have u0:=rf 0;have u1:=rf 1;obtain⟨W9,hW9,hB9,hH9,hS9,hX9⟩:=Vq ((HRB2.o.ext HX6.o)) (.slice (some ⟨w4.heap.size,0,none⟩) j j) (.slice B6 (ZZ OUT).length c6);obtain⟨t0,t1, -⟩:=hB9;have HW9:=hid hW9;have HX9':=hid hX9;have HH9:=hid hH9;have HS9:=hid hS9;clear hW9 hH9 hS9 hX9 rf
   go_wp2
   try rw[HW9.o]
   clear r0 r1;refine bodyPost_ret (v:= .tuple #[.agg #[(.slice (some ⟨w4.heap.size,0,none⟩) j j),(.slice B6 (ZZ OUT).length c6)],.int .i64 0]) (by simp[results,Tryz.results8,go_sem,t0,t1]) rfl ?_;refine .inr ⟨HCK.o.trans HC0.o,OUT,some ⟨w4.heap.size,0,none⟩,j,B6,c6,dd+1,by rw[HOL.o],⟨by rw[<-HOL.o],fun v t hv=>?_⟩, ?_, ?_,HX9'.o w ((HE1.o.trans HX2.o).trans HX6.o) (Nat.le_refl _)⟩
   ·obtain⟨t',k1,k2⟩:=HFD.o v (by have:=(Qz hv).1;have:=HOL.o;omega);rw[hv]at k1;cases k1;exact k2
   ·have h5:=(HO.o.ext HX66.o).slT (S:=fun b=>w4.heap.size<=b) (fun b hb=>hb) (fun k hk=>(HO.o.block k hk).1);rw[<-HOL.o];exact(h5.keep (w':=W9) (fun b hb _=>HH9.o b (by have:=HOB.o;have hb':w4.heap.size<=b:=hb;omega))).mono (fun b hb _=>by have:=HOB.o;have hb':w4.heap.size<=b:=hb;omega)
   ·have h6:w2.heap.size<=wr.heap.size:=HX9.o.size;exact(HB6.o.keep (w':=W9) (fun b hb _=>HH9.o b (by have:=HOB.o;have hb':wr.heap.size<=b:=hb;omega))).mono (fun b hb _=>by have:=HOB.o;have hb':wr.heap.size<=b:=hb;omega)
end Go.Proofs.YtlmipgdnlfjpaaaGreat
