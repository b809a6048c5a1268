/- Lemmas of mine, merged. -/
import Derived.Test.YtlmipgdnlfjpaaaGreatRwKm
import Derived.Test.YtlmipgdnlfjpaaaGreatRwhm
import Derived.Test.YtlmipgdnlfjpaaaGreatRvBm
import Derived.Test.YtlmipgdnlfjpaaaGreatThem
set_option maxRecDepth 100000
set_option maxHeartbeats 16000000
set_option linter.unusedSimpArgs false
set_option linter.unusedVariables false
namespace Go.Proofs.YtlmipgdnlfjpaaaGreat
open Go.RowKit Go.Deco Go.Maps
def kC (l:List Con)(n:Int)(ts:List Ty)(bs:List Nat):Prop:=(Xy l n≠0/\ts=[]/\bs=[])\/(Xy l n=0/\J9 l n ts/\bs=ZZ ts)
theorem kC.same {l:List Con}{n:Int}{ts us:List Ty}{bs cs:List Nat}(h:kC l n ts bs)(k:kC l n us cs):us=ts/\cs=bs:=by
 rcases h with⟨h1,rfl,rfl⟩|⟨h1,h2,rfl⟩
 ·rcases k with⟨k1,rfl,rfl⟩|⟨k1,_,_⟩
  ·exact⟨rfl,rfl⟩
  ·exact absurd k1 h1
 ·rcases k with⟨k1,_,_⟩|⟨k1,k2,rfl⟩
  ·exact absurd h1 k1
  ·obtain rfl:=h2.unique k2;exact⟨rfl,rfl⟩
def dc (w:World)(l:List Con)(n:Int)(e:Ending)(w':World):Prop:=∃(A:Option Addr) (k c:Nat) (B:Option Addr) (m c' dd:Nat) (ts:List Ty) (bs:List Nat),
  e= .returned (.tuple #[.agg #[.slice A k c,.slice B m c'],.int .i64 (Xy l n:Nat)])/\Sl (tyR dd) w' All (.slice A k c) ts/\Sl QF w' All (.slice B m c') bs/\Ext w w'/\kC l n ts bs
theorem G8 {w w':World}{l:List Con}{n:Int}{e:Ending}(h:bk w l n e w'):dc w l n e w':=by
 rcases h with⟨h1,rfl,hx⟩|⟨hz,ts,A,c,B,c',dd,rfl,hso,hst,hsb,hx⟩
 ·exact⟨none,0,0,none,0,0,0,[],[],rfl,Sl.nil,Sl.nil,hx,.inl ⟨h1,rfl,rfl⟩⟩
 ·exact⟨A,_,c,B,_,c',dd,ts,ZZ ts,by rw[hz];rfl,hst.mono fun _ _ _=>trivial,hsb.mono fun _ _ _=>trivial,hx,.inr ⟨hz,hso,rfl⟩⟩
theorem tX (d:Nat) (w:World) (A:Option Addr) (m me:Nat) (l:List Con) (n:Int) (hs:Sl (Zf (tyR d)) w All (.slice A m me) l) (hn:n<=12\/65536<n) (hm:m<=16):
  Calls Tryz.prog 10 #[.slice A m me,.int .i64 n] w (dc w l n):=by
 replace hs:Sl (Zf (tyR d)) w (fun b=>b<w.heap.size) (.slice A m me) l:=hs.mono fun b _ hi=>hi.lt
 have hlen:=hs.len;obtain⟨W1,hW1⟩:=Qg (w.alloc (.cells #[.slice none 0 0,.slice none 0 0] 34));have hRB:Q5 W1 w.heap.size (.slice none 0 0) (.slice none 0 0):=by rw[<-hW1];exact Q5.new w _ _ _
 have hE1:Ext w W1:=by rw[<-hW1];exact(Ext.refl w).alloc _
 have hs1:W1.heap.size=w.heap.size+1:=by rw[<-hW1];simp
 have HCH:=hid (tv d W1 A m me l n ((hs.ext hE1).mono fun _ _ _=>trivial));obtain⟨ck,hck⟩:=Qg (Xy l n);rw[hck]at HCH;have HCK:=hid hck;have HRB:=hid hRB;have HE1:=hid hE1;have HS:=hid hs;have HL:=hid hlen;have HS1:=hid hs1;have HNN:=hid hn;clear hs hlen hRB hE1 hck hs1 hn;go_enter Tryz.func10,Tryz.ntmps10;go_upto_region 1 with fail
 clear hW1
 go_wp2_with fail
 refine HCH.o.mono ?_;rintro e w2 ⟨rfl,hx2⟩;have HX2:=hid hx2;have HRB2:=hid (HRB.o.ext hx2);clear hx2 HCH;by_cases hc0:ck=0
 case neg=>
  have g1:((ck:Int) != 0)=true:=by simp[hc0]
  have HC0:=hid hc0;clear hc0;obtain⟨r0,r1,rf⟩:=HRB2.o;have u0:=rf 0;have u1:=rf 1;obtain⟨W9,hW9,hB9,hH9,hS9,hX9⟩:=Vq (HRB2.o) (.slice none 0 0) (.slice none 0 0);obtain⟨t0,t1, -⟩:=hB9;have HW9:=hid hW9;have HX9':=hid hX9;have HH9:=hid hH9;clear hW9 hH9 hS9 hX9 rf
  go_wp2
  try rw[HW9.o]
  clear r0 r1;refine bodyPost_ret (v:= .tuple #[.agg #[(.slice none 0 0),(.slice none 0 0)],.int .i64 ck]) (by simp[results,Tryz.results10,go_sem,t0,t1]) rfl ?_;exact⟨none,0,0,none,0,0,0,[],[],by rw[HCK.o],Sl.nil,Sl.nil,HX9'.o w (HE1.o.trans HX2.o) (Nat.le_refl _),.inl ⟨by rw[HCK.o];exact HC0.o,rfl,rfl⟩⟩
 have g1:((ck:Int) != 0)=false:=by simp[hc0]
 have hok:=vP.1 (HCK.o.trans hc0);obtain⟨nn,rfl⟩:∃nn:Nat,n=nn:=⟨n.toNat,(Qk hok.1).symm⟩;have HOK:=hid hok;have hnn:nn<=12:=by have:=HNN.o;omega
 have HC0:=hid hc0;have HCL:=hid (sf (n:=nn) (HS.o.ext (HE1.o.trans HX2.o)) hok.2.2.2 (by omega) (by omega));clear hok hc0
 go_wp2_with fail
 refine HCL.o.mono ?_;rintro e w3 ⟨B,N,f,C,rfl,hp3,hx3⟩;obtain⟨W4,hW4⟩:=Qg (w3.alloc (.cells #[.slice none 0 0,.int .i64 0,.slice none 0 0] 79));have hE4:Ext w3 W4:=by rw[<-hW4];exact(Ext.refl w3).alloc _
 have hP:ZB W4 w3.heap.size (.slice none 0 0) (.int .i64 0) (.slice none 0 0):=by rw[<-hW4];exact ZB.new w3 _ _ _ _
 obtain⟨W5,hW5,hB5,hH5,hS5,hX5⟩:=pK hP (.slice A m me) (.int .i64 nn) (.slice B N f);have HX35:=hid (hX5 w3 hE4 (Nat.le_refl _));have HX5:=hid (HE1.o.trans (HX2.o.trans (hx3.trans HX35.o)));have HSZ5:=hid (show W5.heap.size=w3.heap.size+1 by rw[hS5,<-hW4];simp);have HW5:=hid hW5;have HBP:=hid hB5;have HP5:=hid (hp3.ext HX35.o);have HRB5:=hid (HRB2.o.ext (hx3.trans HX35.o));have HNM:=hid hp3.num;have HM:=hid hp3.sl.len;obtain⟨z0,z1,z2,zf⟩:=hP;have y0:=zf 0;have y1:=zf 1;have y2:=zf 2;obtain⟨i0,hi0,hi1,hi2,hi3⟩:=info_parts mq;have HI:=hid hi0;have HI0:=hid hi1;have HI1:=hid hi2;have HI2:=hid hi3;obtain⟨hm1,hm2⟩:=hp3.sl.cap;obtain⟨hf1,hf2⟩:=hp3.cl.cap;clear hW5 hB5 hH5 hS5 hX5 hE4 hx3 hp3 HCL zf hi0 hi1 hi2 hi3;go_upto_region 5 with fail
 rw[HW5.o];clear z0 z1 z2 y0 y1 y2 hW4
 go_wp2
 go_loopw [8,9] (fun s8 s9 wr=>∃(j D:Nat) (G:Option Addr) (cg:Nat) (R:List Ty),j<=nn/\s9= .int .i64 j/\s8= .slice G j cg/\Hid (Qf (tyR D) wr W5.heap.size 42 (fun b=>b<w.heap.size\/W5.heap.size<=b) (.slice G j cg) R)/\Hid (R.length=j)/\Hid (∀(v:Nat) t,R[v]? =some t->qM l (v:Int) t)/\Hid (Ext W5 wr)) (fun _ s9 _=>nn - (intOf s9).toNat)
 case atStart=>exact⟨0,0,none,0,[],by omega,rfl,rfl,hid Qf.nil,hid rfl,hid (fun v t h=>by simp at h),hid (Ext.refl _)⟩
 case round=>
  obtain⟨j,D,G,cg,R,hj,rfl,rfl,HO,HRL,HVT,HX⟩:=hrel;by_cases h1:j<nn
  ·obtain⟨bB,oB,rfl,y0⟩:=HP5.o.lab (x:=j) (by omega);obtain⟨q,hq⟩:=Qg (QW C j);have hlp:=pD HP5.o.cls HP5.o.ok (x:=j) (by omega);have hpt:=gW (mu l nn (Zz l nn j)+1);have HPT:=hid (fun(w':World) (hw:Ext W5 w')=>hpt d w' _ A m me _ N f l nn C (HP5.o.ext hw) j (by omega) (Nat.lt_succ_self _));have HSC:=hid (fun(w':World) (hw:Ext W5 w')=>vG (HP5.o.ext hw) j (by omega));have HIP:=hid (fun(w':World) (hw:Ext W5 w')=>vD (HP5.o.ext hw) q);rw[hq,Z5 h1]at hlp;rw[hq]at HPT y0;obtain⟨M,hM⟩:=Qg (mu l nn (Zz l nn j)+1);rw[hM,Z5 h1]at HPT;have HLP:=hid hlp;obtain⟨c0,c1,c2,cf⟩:=HBP.o;have HEL:=hid (Ext.hc4 c0 c1 c2 y0);have i1:(j:Int)<(nn:Int):=by omega
   have i2:(0:Int)<=(j:Int):=by omega
   have i3:(j:Int)<(N:Int):=by have:=HNM.o;omega
   have HSZ:=hid HX.o.size;have HWS:=hid (show w.heap.size<=W5.heap.size from Nat.le_trans HX5.o.size (Nat.le_refl _));clear hq hlp hpt hM c0 c1 c2 cf y0;obtain⟨b0,b1,b2,b3⟩:=HEL.o _ HX.o
   go_wp2_with fail
   clear b0 b1 b2 b3;refine rgH HEL.o HX.o.drew (fun hSg1q0=>?_);refine Qp 0 1 2 3 4 5 ?_;refine rgC 6 (fun K hK=>?_);go_simp;go_at_call 35;refine(HIP.o _ HX.o.drew).mono ?_;rintro e5 w5 ⟨b5,rfl,hb5,hx5⟩;have HXR5:=hid hx5.drew_left;have HX6:=hid (HX.o.trans hx5.drew_left);have HB6:=hid hb5;clear hx5 hb5;refine rgK hK (HEL.o _ HX6.o) (fun hSg1q1=>?_);clear hK K;refine wpAnyH_done (by kernel_rfl) ?_ _
   cases b5 with
   | true=>
    have HIS:=hid (HLP.o.1 (HB6.o.1 rfl));go_upto_region 10 with fail
    refine rgH HEL.o HX6.o.drew (fun hSg2q0=>?_);refine Qp 0 1 2 3 4 5 ?_;refine rgT 6 ?_;refine rgC 7 (fun K hK=>?_);go_simp;go_at_call 36;refine(HPT.o _ HX6.o.drew).mono ?_;rintro e6 w6 ⟨D6,v6,t6,rfl,ht6,hv6,hx6⟩;have HXR7:=hid (HXR5.o.trans hx6.drew_left);have HX7:=hid (HX6.o.trans hx6.drew_left);have HT6:=hid ht6;have HV6:=hid hv6;obtain⟨A6,n6,c6,B6,m6,e6,rfl, -⟩:=hv6;clear hx6 ht6;refine rgK hK (HEL.o _ HX7.o) (fun hSg2q1=>?_);clear hK K;refine rgC 8 (fun K hK=>?_);go_simp;refine rgK hK (HEL.o _ (HX7.o.alloc _)) (fun hSg2q2=>?_);clear hK K;refine rgC 9 (fun K hK=>?_);have hown8:=Qf.ty_up (show D<=max D D6+1 by omega) (HO.o.ext HXR7.o)
    have hrel8:(tyR (max D D6+1)).rel w6 (fun b=>(b<w.heap.size\/W5.heap.size<=b)/\some b≠(Value.slice G j cg).ownBlock) [.int .i64 t6.kind,.int .i64 t6.size,.int .i64 t6.count,.slice A6 n6 c6,.slice B6 m6 e6] t6:=(by
     refine Xb.2 ⟨_,(TyV.up (d:=D6) (d':=max D D6) (by omega) HV6.o).mono fun b hb _=>?_,rfl⟩;have h6:=HO.o.block;have h7:=HXR5.o.size;have h8:=HSZ.o;have h9:=HWS.o;rcases hb with hb|hb
     ·exact⟨.inl hb,fun e=>by have:=(h6 b e.symm).1;omega⟩
     ·exact⟨.inr (by have:w5.drew.heap.size=w5.heap.size:=rfl;omega),fun e=>by have:=(h6 b e.symm).2;have:w5.drew.heap.size=w5.heap.size:=rfl;omega⟩)
    refine zp rfl (.tmp 32) (.tmp 40) 25 rfl W5.heap.size 42 i0 _ 5 72 Tryz.underlying25 HI.o HI0.o HI1.o HI2.o rfl (tyR (max D D6+1)) (ZY _) (.slice G j cg) R rfl hown8 t6 rfl hrel8 (by rw[HRL.o];omega) (by rw[HRL.o];omega) (by exact HX7.o.size) ?_;intro A9 c9 w9 hown9 hg9 hloc9;rw[HRL.o]at hown9;have HO9:=hid hown9;have HX9:=hid ((HX7.o.alloc _).grown hg9 (fun q hq=>(hown8.block q hq).1));rw[HRL.o];clear hown9 hg9 hloc9 hown8 hrel8;refine rgK hK (HEL.o _ HX9.o) (fun hSg2q3=>?_);clear hK K;refine rgT 10 ?_;refine wpAnyH_done (by kernel_rfl) ?_ _
    go_wp2
    first
     |go_roundw
     |refine⟨?rel, ?measure⟩
    case rel=>
     refine⟨j+1,_,A9,c9,R ++ [t6],by omega,by go_num,rfl,HO9,hid (by rw[List.length_append,HRL.o];rfl),hid (fun v t hv=>?_),HX9⟩;by_cases hvj:v<j
     ·rw[List.getElem?_append_left (by rw[HRL.o];exact hvj)]at hv;exact HVT.o v t hv
     ·rw[List.getElem?_append_right (by rw[HRL.o];omega),HRL.o]at hv
      obtain rfl:v=j:=by
       by_cases h9:v=j
       ·exact h9
       ·rw[show v - j=(v - j - 1)+1 by omega]at hv;simp at hv
      rw[Nat.sub_self]at hv;cases hv;exact .inl ⟨HIS.o,_,HT6.o⟩
    case measure=>simp [intOf];omega
   | false=>
    have HIS:=hid (show ¬Q9 l (j:Int) from fun h=>absurd (HB6.o.2 (HLP.o.2 h)) (by simp));obtain⟨b0,b1,b2,b3⟩:=HEL.o _ HX6.o
    go_wp2_with fail
    clear b0 b1 b2 b3;refine(HSC.o _ HX6.o).mono ?_;rintro e6 w6 ⟨v6,t6,rfl,ht6,hv6,hx6⟩;obtain⟨D6,hD6⟩:=Qg (d);rw[hD6]at hv6;have HXR7:=hid (HXR5.o.trans hx6);have HX7:=hid (HX6.o.trans hx6);have HT6:=hid ht6;have HV6:=hid hv6;obtain⟨A6,n6,c6,B6,m6,e6,rfl, -⟩:=hv6;clear hx6 ht6 hD6;have hown8:=Qf.ty_up (show D<=max D D6+1 by omega) (HO.o.ext HXR7.o)
    have hrel8:(tyR (max D D6+1)).rel w6 (fun b=>(b<w.heap.size\/W5.heap.size<=b)/\some b≠(Value.slice G j cg).ownBlock) [.int .i64 t6.kind,.int .i64 t6.size,.int .i64 t6.count,.slice A6 n6 c6,.slice B6 m6 e6] t6:=(by
     refine Xb.2 ⟨_,(TyV.up (d:=D6) (d':=max D D6) (by omega) HV6.o).mono fun b hb _=>?_,rfl⟩;have h6:=HO.o.block;have h7:=HXR5.o.size;have h8:=HSZ.o;have h9:=HWS.o;rcases hb with hb|hb
     ·exact⟨.inl hb,fun e=>by have:=(h6 b e.symm).1;omega⟩
     ·exact⟨.inr (by have:w5.heap.size=w5.heap.size:=rfl;omega),fun e=>by have:=(h6 b e.symm).2;have:w5.heap.size=w5.heap.size:=rfl;omega⟩)
    have HO8:=hid hown8;have HR8:=hid hrel8;clear hown8 hrel8
    go_wp2_with (first
     |(at_builtin;refine zq rfl (.tmp 42) (.tmp 46) 25 rfl W5.heap.size 42 i0 _ 5 72 Tryz.underlying25 HI.o HI0.o HI1.o HI2.o rfl (tyR (max D D6+1)) (ZY _) (.slice G j cg) R rfl HO8.o w6.heap.size rfl t6 rfl HR8.o (by have:=HRL.o;omega) (by have:=HRL.o;omega) (by exact HX7.o.size) ?_;intro A9 c9 w9 hown9 hg9 hloc9;rw[HRL.o]at hown9;have HO9:=hid hown9;have HX9:=hid ((HX7.o.alloc _).grown hg9 (fun q hq=>(HO8.o.block q hq).1));rw[HRL.o];clear hown9 hg9 hloc9)
     |fail)
    go_wp2
    first
     |go_roundw
     |refine⟨?rel, ?measure⟩
    case rel=>
     refine⟨j+1,_,A9,c9,R ++ [t6],by omega,by go_num,rfl,HO9,hid (by rw[List.length_append,HRL.o];rfl),hid (fun v t hv=>?_),HX9⟩;by_cases hvj:v<j
     ·rw[List.getElem?_append_left (by rw[HRL.o];exact hvj)]at hv;exact HVT.o v t hv
     ·rw[List.getElem?_append_right (by rw[HRL.o];omega),HRL.o]at hv
      obtain rfl:v=j:=by
       by_cases h9:v=j
       ·exact h9
       ·rw[show v - j=(v - j - 1)+1 by omega]at hv;simp at hv
      rw[Nat.sub_self]at hv;cases hv;exact .inr ⟨HIS.o,ek HP5.o.ok h1 HT6.o⟩
    case measure=>simp [intOf];omega
  ·obtain rfl:j=nn:=by omega
   have i1:¬(j:Int)<(j:Int):=by omega
   have HSN:=hid (sB D wr G j cg R HO.o.sl (by omega));have HSV:=hid (show J9 l (j:Int) R from⟨by rw[HRL.o],HVT.o⟩)
   go_wp2_with fail
   refine HSN.o.mono ?_;rintro e w6 ⟨B6,c6,rfl,hb6,hx6⟩;have HB6:=hid hb6;have HX6:=hid hx6;have HRB6:=hid (HRB5.o.ext (HX.o.trans hx6));clear hx6 hb6 HSN;obtain⟨r0,r1,rf⟩:=HRB6.o;have u0:=rf 0;have u1:=rf 1;obtain⟨W9,hW9,hB9,hH9,hS9,hX9⟩:=Vq (HRB6.o) (.slice G j cg) (.slice B6 (ZZ R).length c6);obtain⟨t0,t1, -⟩:=hB9;have HW9:=hid hW9;have HX9':=hid hX9;have HH9:=hid hH9;clear hW9 hH9 hS9 hX9 rf
   go_wp2
   try rw[HW9.o]
   clear r0 r1;refine bodyPost_ret (v:= .tuple #[.agg #[(.slice G j cg),(.slice B6 (ZZ R).length c6)],.int .i64 0]) (by simp[results,Tryz.results10,go_sem,t0,t1]) rfl ?_;refine⟨G,j,cg,B6,_,c6,D,R,ZZ R,by rw[HCK.o,HC0.o];rfl, ?_, ?_,HX9'.o w (HX5.o.trans (HX.o.trans HX6.o)) (Nat.le_refl _),.inr ⟨HCK.o.trans HC0.o,HSV.o,rfl⟩⟩
   ·have h5:=(HO.o.ext HX6.o).slT (S:=fun b=>b≠w.heap.size) (fun b hb=>by have:=HRB5.o.lt;rcases hb with hb|hb <;> omega) (fun k hk=>by have:=(HO.o.block k hk).1;have:=HRB5.o.lt;omega);exact(h5.keep (w':=W9) (fun b hb _=>HH9.o b hb)).mono fun _ _ _=>trivial
   ·exact(HB6.o.keep (w':=W9) (fun b hb _=>HH9.o b (by have hb':wr.heap.size<=b:=hb;have:=HRB5.o.lt;have:=HX.o.size;omega))).mono fun _ _ _=>trivial
theorem lW (d:Nat)(w:World)(A:Option Addr)(m me:Nat)(l:List Con)(n:Int)(hs:Sl (Zf (tyR d)) w All (.slice A m me) l):
  Calls Tryz.prog 3 #[.slice A m me,.int .i64 n] w (ZX w true):=by
 have hln:=hs.len;have HS:=hid hs;have HL:=hid hln;have HFEW:=hid (GB d w A m me l hs);clear hs hln;go_enter Tryz.func3,Tryz.ntmps3;go_upto_region 1 with fail
 go_cut [19] from 9 to 18 (fun s19 wx=>∃b:Bool,s19= .bool b/\Hid (b=false->(l.length<=16/\∀c∈l,Q0 c.type 64=true->QV c.type<=40)/\(n<=12\/65536<n))/\Hid (Ext w wx))
 case rest=>
  obtain⟨b,rfl,HB,HX1⟩:=hcut;obtain⟨w1,hw1⟩:∃V,V=wc:=⟨_,rfl⟩;obtain rfl:=hw1
  cases b with
  |true=>
   go_wp2_with fail
   refine(rk _).mono ?_;rintro e wz ⟨rfl,hxz⟩;have HXZ:=hid (Ext.trans HX1.o hxz);clear hxz
   go_wp2
   go_ret;exact⟨rfl,HXZ.o⟩
  | false=>
   have HFW:=hid (HB.o rfl).1;have HNN:=hid (HB.o rfl).2;have hm16:m<=16:=by have:=HFW.o.1;have:=HL.o;omega
   go_wp2_with fail
   refine(iq d w1 A m me l (HS.o.ext HX1.o) (by omega)).mono ?_;rintro e w2' ⟨A2,c2,rfl,hl2,hx2⟩;have HS2:=hid hl2;have HX2:=hid (HX1.o.trans hx2);clear hx2 hl2
   go_wp2_with fail
   refine(pd d w2' A2 l.length c2 l n HS2.o (GM HFW.o)).mono ?_;rintro e w2 hsv;obtain⟨A3,n3,c3,B3,m3,e3,dd3,ts,bs,rfl,hst,hsb,hx3,hou⟩:=G8 hsv;have HST:=hid hst;have HSB:=hid hsb;have HX3:=hid (HX2.o.trans hx3);have HOU:=hid hou;obtain⟨ck,hck⟩:=Qg (Xy l n);rw[hck];have HCK:=hid hck;clear hsv hst hsb hx3 hou hck;obtain⟨WN4,hW5⟩:=Qg ((w2).alloc (.cells #[.slice none 0 0,.slice none 0 0] 28));have hB5:Q5 WN4 (w2).heap.size (.slice none 0 0) (.slice none 0 0):=by rw[<-hW5];exact Q5.new w2 _ _ _
   have hE5:Ext w2 WN4:=by rw[<-hW5];exact(Ext.refl _).alloc _
   obtain⟨WS4,hW6,hB6,hH6,hS6,hX6⟩:=Vq hB5 (.slice A3 n3 c3) (.slice B3 m3 e3);have HXS4:=hid (hX6 w2 hE5 (Nat.le_refl _));have HWS4:=hid hW6;have HBS4:=hid hB6;obtain⟨z0,z1,zf⟩:=hB5;have f0:=zf 0;have f1:=zf 1;obtain⟨t0,t1, -⟩:=hB6;clear hE5 hW6 hH6 hS6 hX6 zf;go_upto_region 4 with fail
   rw[HWS4.o];clear z0 z1 f0 f1 hW5;clear t0 t1;have HX4:=hid (HX3.o.trans HXS4.o)
   go_wp2_with fail
   refine(tX d WS4 A m me l n (HS.o.ext HX4.o) HNN.o hm16).mono ?_;rintro e w5 ⟨A5,n5,c5,B5,m5,e5,dd5,us,cs,rfl,hst,hsb,hx5,hou⟩;obtain⟨rfl,rfl⟩:=HOU.o.same hou;rw[HCK.o];have HST5:=hid hst;have HSB5:=hid hsb;have HX5:=hid hx5;clear hst hsb hx5 hou;obtain⟨WN6,hW5⟩:=Qg ((w5).alloc (.cells #[.slice none 0 0,.slice none 0 0] 34));have hB5:Q5 WN6 (w5).heap.size (.slice none 0 0) (.slice none 0 0):=by rw[<-hW5];exact Q5.new w5 _ _ _
   have hE5:Ext w5 WN6:=by rw[<-hW5];exact(Ext.refl _).alloc _
   obtain⟨WS6,hW6,hB6,hH6,hS6,hX6⟩:=Vq hB5 (.slice A5 n5 c5) (.slice B5 m5 e5);have HXS6:=hid (hX6 w5 hE5 (Nat.le_refl _));have HWS6:=hid hW6;have HBS6:=hid hB6;obtain⟨z0,z1,zf⟩:=hB5;have f0:=zf 0;have f1:=zf 1;obtain⟨t0,t1, -⟩:=hB6;clear hE5 hW6 hH6 hS6 hX6 zf;go_upto_region 5 with fail
   rw[HWS6.o];clear z0 z1 f0 f1 hW5;have HXE:=hid (HXS4.o.trans (HX5.o.trans HXS6.o));have HXF:=hid (HX4.o.trans (HX5.o.trans HXS6.o));obtain⟨s0,s1, -⟩:=HBS4.o.ext (HX5.o.trans HXS6.o);have HTR:=hid (fun w'=>eX w' A3 B3 n3 c3 m3 e3)
   have HSMM:=hid (fun(w':World) (hx:Ext WS6 w')=>lJ (dd3+dd5) w' A3 B3 A5 B5 n3 c3 m3 e3 n5 c5 m5 e5 us us cs cs
    (rF (d:=dd3) (by omega) (HST.o.ext (HXE.o.trans hx))) (rF (d:=dd5) (by omega) (HST5.o.ext (HXS6.o.trans hx)))
    (HSB.o.ext (HXE.o.trans hx)) (HSB5.o.ext (HXS6.o.trans hx)))
   rw[show(decide (us=us) && decide (cs=cs))=true from by rw[Qv rfl,Qv rfl];rfl]at HSMM;have HSK:=hid (Ext.hc4 s0 s1 t0 t1);have g1:((ck:Int) == (ck:Int))=true:=by simp
   clear s0 s1 t0 t1 HCK HOU;refine rgH HSK.o (Ext.refl WS6).drew (fun hSg1q0=>?_);refine Qp 0 1 2 3 4 6 ?_;refine rgC 5 (fun K hK=>?_);go_simp;go_at_call 12;refine(HTR.o _).mono ?_;rintro e w6 ⟨rfl,hx6⟩;have HX6:=hid hx6.drew_left;clear hx6;refine rgK hK (HSK.o _ HX6.o) (fun hSg1q1=>?_);clear hK K;refine rgC 7 (fun K hK=>?_);go_simp;go_at_call 11;refine(HSMM.o _ HX6.o).mono ?_;rintro e w7 ⟨rfl,hx7⟩;have HX7:=hid (HX6.o.trans hx7);clear hx7;refine rgK hK (HSK.o _ HX7.o) (fun hSg1q2=>?_);clear hK K;refine QJ 8 9 ?_;refine rgC 10 (fun K hK=>?_);go_simp;go_at_call 7;refine(rk _).mono ?_;rintro e w8 ⟨rfl,hx8⟩;have HX8:=hid (HX7.o.trans hx8);clear hx8;refine rgK hK (HSK.o _ HX8.o) (fun hSg1q3=>?_);clear hK K;refine QJ 11 12 ?_;refine wpAnyH_done (by kernel_rfl) ?_ _
   go_wp2
   go_ret;exact⟨rfl,HXF.o.trans HX8.o⟩
 go_wp2_with fail
 refine HFEW.o.mono ?_;rintro e w1 ⟨b,rfl,hx1,hb⟩;have HX1:=hid hx1;have hb':=fun h:b=true=>hb h;clear hx1 hb
 cases b with
 |false=>
  go_wp2
  go_meet;exact⟨true,rfl,hid (fun h=>by cases h),HX1⟩
 | true=>
  have HB:=hid (hb' rfl);clear hb';by_cases h12:n > 12
  ·have g1:(12:Int)<n:=h12;obtain⟨r,g2⟩:=Qg (decide (n<70000));have HR:=hid g2
   go_wp2
   go_meet;exact⟨r,rfl,hid (fun h=>⟨HB.o,.inr (by rw[h]at HR;have:=of_decide_eq_false HR.o;omega)⟩),HX1⟩
  ·have g1:¬(12:Int)<n:=h12
   go_wp2
   go_meet;exact⟨false,rfl,hid (fun h=>⟨HB.o,.inl (by omega)⟩),HX1⟩
end Go.Proofs.YtlmipgdnlfjpaaaGreat
