/- Lemmas of mine, merged. -/
import Derived.Test.YtlmipgdnlfjpaaaGreatRwam
set_option linter.unusedSimpArgs false
set_option linter.unusedVariables false
namespace Go.Proofs.YtlmipgdnlfjpaaaGreat
open Go.RowKit Go.Deco
structure qD (d:Nat)(w:World)(S:Nat->Prop)(A:Option Addr)(m me:Nat)(l:List Con)(n:Nat):Prop where
 sl:Sl (Zf (tyR d)) w S (.slice A m me) l
 ok:∀c∈l,OkC n c
def ZB (w:World)(b:Nat)(v0 v1 v2:Value):Prop:=w.cell? ⟨b,0,none⟩=some v0/\w.cell? ⟨b,1,none⟩=some v1/\w.cell? ⟨b,2,none⟩=some v2/\∀i,w.frozen? ⟨b,i,none⟩=false
section
variable {d:Nat}{w w':World}{S:Nat->Prop}{A B:Option Addr}{m me N f n b:Nat}{l:List Con}{C:List Nat}{v0 v1 v2:Value}
theorem qD.ext (h:qD d w S A m me l n)(he:Ext w w'):qD d w' S A m me l n:=⟨h.sl.ext he,h.ok⟩
theorem qD.con (h:qD d w S A m me l n){k:Nat}(hk:k<m):
  ∃c d' b off A1 n1 c1 B1 m1 e1,l[k]? =some c/\OkC n c/\d=d'+1/\A=some ⟨b,off,none⟩/\Xc d' w S (.agg #[.int .i64 c.kind,.int .i64 c.a,.int .i64 c.b,.int .i64 c.off,.int .i64 c.width,.int .i64 c.type.kind,.int .i64 c.type.size,.int .i64 c.type.count,.slice A1 n1 c1,.slice B1 m1 e1]) c/\
   Xj w b (off+k * 10) c A1 n1 c1 B1 m1 e1:=by
 have hl:=h.sl.len;obtain⟨c,hc⟩:∃c,l[k]? =some c:=⟨_,Qq (by omega)⟩;obtain⟨d',b,off,A1,n1,c1,B1,m1,e1,h1,h2,h3,h4, -⟩:=h.sl.con_at hc;exact⟨c,d',b,off,A1,n1,c1,B1,m1,e1,hc,h.ok c (Qx hc),h1,h2,h3,h4⟩
theorem ZB.lt (h:ZB w b v0 v1 v2):b<w.heap.size:=World.block_lt_of_cell? _ _ h.1
theorem ZB.ext (h:ZB w b v0 v1 v2)(he:Ext w w'):ZB w' b v0 v1 v2:=⟨he.cell h.1,he.cell h.2.1,he.cell h.2.2.1,fun i=>(he.frozen (p:=⟨b,i,none⟩) h.lt).trans (h.2.2.2 i)⟩
theorem ZB.new (w:World)(v0 v1 v2:Value)(t:TypeId):ZB (w.alloc (.cells #[v0,v1,v2] t)) w.heap.size v0 v1 v2:=⟨by simp[go_sem],by simp[go_sem],by simp[go_sem],fun i=>by simp[go_sem]⟩
theorem ZB.block (h:ZB w b v0 v1 v2)(e:w'.heap[b]? =w.heap[b]?):ZB w' b v0 v1 v2:=
 ⟨(World.cell?_of_block (a:=⟨b,0,none⟩) e).trans h.1,(World.cell?_of_block (a:=⟨b,1,none⟩) e).trans h.2.1,(World.cell?_of_block (a:=⟨b,2,none⟩) e).trans h.2.2.1,fun i=>(World.frozen?_of_block (a:=⟨b,i,none⟩) e).trans (h.2.2.2 i)⟩
theorem ZB.put2 (h:ZB w b v0 v1 v2)(u:Value):ZB (w.setCell ⟨b,2,none⟩ u) b v0 v1 u:=⟨by simp[World.cell?_setCell_other,h.1],by simp[World.cell?_setCell_other,h.2.1],by simp[World.cell?_setCell_same,h.2.2.1],fun i=>by rw[World.frozen?_setCell];exact h.2.2.2 i⟩
theorem pK (h:ZB w b v0 v1 v2)(u0 u1 u2:Value):
  ∃W3,((w.setCell ⟨b,0,none⟩ u0).setCell ⟨b,1,none⟩ u1).setCell ⟨b,2,none⟩ u2=W3/\ZB W3 b u0 u1 u2/\(∀k,k≠b->W3.heap[k]? =w.heap[k]?)/\W3.heap.size=w.heap.size/\∀a,Ext a w->a.heap.size<=b->Ext a W3:=by
 refine⟨_,rfl,⟨by simp[World.cell?_setCell_other,World.cell?_setCell_same,h.1],by simp[World.cell?_setCell_other,World.cell?_setCell_same,h.2.1],by simp[World.cell?_setCell_other,World.cell?_setCell_same,h.2.2.1],fun i=>?_⟩,fun k hk=>?_,by simp,fun a ha hb=>((ha.setCell hb _).setCell hb _).setCell hb _⟩
 ·rw[World.frozen?_setCell,World.frozen?_setCell,World.frozen?_setCell];exact h.2.2.2 i
 ·rw[Below.heap_setCell _ _ _ _ (by exact hk),Below.heap_setCell _ _ _ _ (by exact hk),Below.heap_setCell _ _ _ _ (by exact hk)]
theorem ZB.grown {o:Obj}{w5:World}{v:Value}{lo:Nat}(h:ZB w b v0 v1 v2)(hg:(w.alloc o).grownBy w5 v.ownBlock)(hv:∀g,v.ownBlock=some g->lo<=g)(hb:b<lo):ZB w5 b v0 v1 v2:=
 (h.ext ((Ext.refl w).alloc o)).block (hg.block b (by have:=h.lt;simp;omega) (fun e=>by have:=hv b e.symm;omega))
end
def DC (d:Nat)(w:World)(S:Nat->Prop)(A:Option Addr)(m me:Nat)(l:List Con)(n:Nat)(e:Ending)(w':World):Prop:=∃B N f C,e= .returned (.agg #[.slice A m me,.int .i64 n,.slice B N f])/\PrS d w' S A m me B N f l n C/\Ext w w'
section
variable {d:Nat}{w:World}{S:Nat->Prop}{A B:Option Addr}{m me N f n:Nat}{l:List Con}{C:List Nat}
structure vj (l:List Con)(n N:Nat)(p:Nat)(vl:Value)(w0:World)(s8:Value)(wr:World)(x:Bool×Option Addr×Nat×List Nat):Prop where
 s:s8= .bool x.1
 box:ZB wr p vl (.int .i64 n) (.slice x.2.1 N x.2.2.1)
 sl:Sl QF wr (fun b=>p+1<=b) (.slice x.2.1 N x.2.2.1) x.2.2.2
 lab:Xz l n x.2.2.2 l.length
 no:x.1=false->∀k i,i<k->¬KP l n x.2.2.2 k i
 ext:Ext w0 wr
def xG (x:Bool×Option Addr×Nat×List Nat):Nat:=2 * K4 x.2.2.2+if x.1=true then 1 else 0
structure KX (l:List Con)(n N:Nat)(p:Nat)(vl:Value)(w0 wr:World)(B:Option Addr)(f:Nat)(C:List Nat):Prop where
 box:ZB wr p vl (.int .i64 n) (.slice B N f)
 sl:Sl QF wr (fun b=>p+1<=b) (.slice B N f) C
 labk:Xz l n C l.length
 ext:Ext w0 wr
theorem KX.step {p:Nat}{vl:Value}{w0 wr w':World}(h:KX l n N p vl w0 wr B f C)(he:Ext wr w'):KX l n N p vl w0 w' B f C:=⟨h.box.ext he,h.sl.ext he,h.labk,h.ext.trans he⟩
theorem KX.lab {p:Nat}{vl:Value}{w0 wr:World}(h:KX l n N p vl w0 wr B f C){x:Nat}(hx:x<N):∃b off,B=some ⟨b,off,none⟩/\wr.cell? ⟨b,off+x,none⟩=some (.int .i64 (QW C x)):=by
 have h1:=h.sl.len;obtain⟨b,off,h3,h4, -⟩:=h.sl.num_at (xy (C:=C) (x:=x) (by omega));exact⟨b,off,h3,h4⟩
theorem KX.put {p:Nat}{vl:Value}{w0 wr w5:World}(h:KX l n N p vl w0 wr B f C)(hp:w0.heap.size<=p)(he:Ext wr w5){B5:Option Addr}{f5:Nat}{C5:List Nat}(hsl:Sl QF w5 (fun b=>p+1<=b\/wr.heap.size<=b) (.slice B5 N f5) C5)(hl:Xz l n C5 l.length):KX l n N p vl w0 (w5.setCell ⟨p,2,none⟩ (.slice B5 N f5)) B5 f5 C5:=by
 have hlt:=h.box.lt;refine⟨(h.box.ext he).put2 _,(hsl.mono (S':=fun b=>p+1<=b) (fun b hb _=>by rcases hb with hb|hb <;> omega)).keep (fun b hb _=>Below.heap_setCell _ _ _ _ (by have hb':p+1<=b:=hb;show b≠p;omega)),hl,(h.ext.trans he).setCell hp _⟩
theorem fM {p:Nat}{wr w5:World}{lo:Nat}(hlt:p<wr.heap.size){B5:Option Addr}{f5:Nat}{C5:List Nat}(hsl:Sl QF w5 (fun b=>p+1<=b\/lo<=b) (.slice B5 N f5) C5)(hlo:wr.heap.size<=lo):Sl QF (w5.setCell ⟨p,2,none⟩ (.slice B5 N f5)) (fun b=>p+1<=b) (.slice B5 N f5) C5:=
 (hsl.mono (S':=fun b=>p+1<=b) (fun b hb _=>by rcases hb with hb|hb <;> omega)).keep (fun b hb _=>Below.heap_setCell _ _ _ _ (by have hb':p+1<=b:=hb;show b≠p;omega))
structure XK (l:List Con)(n:Nat)(C0 C:List Nat)(ag:Bool)(k i:Nat):Prop where
 no:ag=false->C=C0/\(∀k' i',k'<k->i'<k'->¬KP l n C k' i')/\∀i',i'<i->¬KP l n C k i'
 yes:ag=true->K4 C<K4 C0
theorem XK.start:XK l n C C false 0 0:=⟨fun _=>⟨rfl,fun k' i' h=>absurd h (Nat.not_lt_zero _),fun i' h=>absurd h (Nat.not_lt_zero _)⟩,fun h=>(by cases h)⟩
theorem XK.pass {C0:List Nat}{ag:Bool}{k i:Nat}(h:XK l n C0 C ag k i)(hn:¬KP l n C k i):XK l n C0 C ag k (i+1):=
 ⟨fun ha=>⟨(h.no ha).1,(h.no ha).2.1,fun i' hi'=>by
  by_cases hx:i'=i
  ·subst hx;exact hn
  ·exact(h.no ha).2.2 i' (by omega)⟩,h.yes⟩
theorem XK.next {C0:List Nat}{ag:Bool}{k:Nat}(h:XK l n C0 C ag k k):XK l n C0 C ag (k+1) 0:=
 ⟨fun ha=>⟨(h.no ha).1,fun k' i' hk hi=>by
  by_cases hx:k'=k
  ·subst hx;exact(h.no ha).2.2 i' hi
  ·exact(h.no ha).2.1 k' i' (by omega) hi,fun i' h=>absurd h (Nat.not_lt_zero _)⟩,h.yes⟩
theorem XK.put {C0 C5:List Nat}{ag:Bool}{k i:Nat}(h:XK l n C0 C ag k i)(hc:K4 C5<K4 C):XK l n C0 C5 true k (i+1):=
 ⟨fun ha=>(by cases ha),fun _=>by
  cases ag with
  |false=>rw [(h.no rfl).1]at hc;exact hc
  |true=>have:=h.yes rfl;omega⟩
theorem XK.stop {C0:List Nat}(h:XK l n C0 C false l.length 0):∀k i,i<k->¬KP l n C k i:=fun k i hi ha=>(h.no rfl).2.1 k i ha.lt.1 hi ha
theorem XK.mu {C0:List Nat}{ag:Bool}{k i:Nat}{B0:Option Addr}{f0:Nat}(h:XK l n C0 C ag k i):xG (ag,B,f,C)<xG (true,B0,f0,C0):=by
 unfold xG
 cases ag with
 |false=>rw [(h.no rfl).1];simp
 |true=>have:=h.yes rfl;simp;omega
set_option maxRecDepth 100000 in
set_option maxHeartbeats 64000000 in
theorem sf (hs:Sl (Zf (tyR d)) w S (.slice A m me) l) (hok:∀c∈l,OkC n c) (hn:n<=20) (hm:m<=20):Calls Tryz.prog 34 #[.slice A m me,.int .i64 n] w (DC d w S A m me l n):=by
 have hlen:=hs.len;obtain⟨hm1,hm2⟩:=hs.cap;obtain⟨W0,hW0⟩:=Qg (w.alloc (.cells #[.slice none 0 0,.int .i64 0,.slice none 0 0] 79));have hE0:Ext w W0:=by rw[<-hW0];exact(Ext.refl w).alloc _
 have hs0:W0.heap.size=w.heap.size+1:=by rw[<-hW0];simp
 have hR:ZB W0 w.heap.size (.slice none 0 0) (.int .i64 0) (.slice none 0 0):=by rw[<-hW0];exact ZB.new w _ _ _ _
 obtain⟨W1,hW1⟩:=Qg (W0.alloc (.cells #[.slice none 0 0,.int .i64 0,.slice none 0 0] 79));have hE1:Ext W0 W1:=by rw[<-hW1];exact(Ext.refl W0).alloc _
 have hs1:W1.heap.size=W0.heap.size+1:=by rw[<-hW1];simp
 have hP:ZB W1 W0.heap.size (.slice none 0 0) (.int .i64 0) (.slice none 0 0):=by rw[<-hW1];exact ZB.new W0 _ _ _ _
 obtain⟨W2,hW2,hB2,hH2,hS2,hX2⟩:=pK hP (.slice A m me) (.int .i64 n) (.slice none 0 0);have HX2:=hid (hX2 W0 hE1 (Nat.le_refl _));have HW2:=hid hW2;have HBP:=hid hB2;have HR:=hid hR;have HE0:=hid hE0;have HSZ:=hid hs0;have HSZ2:=hid (show W2.heap.size=W0.heap.size+1 by rw[hS2,hs1]);have HS:=hid (show qD d W0 S A m me l n from⟨hs.ext hE0,hok⟩);have HM:=hid hlen;obtain⟨z0,z1,z2,zf⟩:=hP;have y0:=zf 0;have y1:=zf 1;have y2:=zf 2;obtain⟨N,hN⟩:=Qg (n+m);have HNM:=hid hN;have in1:IntKind.i64.wrap ((n:Int)+(m:Int))=(N:Int):=by rw[IntWalk.i64_in _ (by omega)];omega
 have hN40:N<=40:=by omega
 have HS0:=hid hs;clear hs hok hlen hE0 hs0 hR hE1 hs1 hW2 hB2 hH2 hS2 hX2 zf hN;go_enter Tryz.func34,Tryz.ntmps34;go_upto_region 2 with fail
 rw[HW2.o];clear z0 z1 z2 y0 y1 y2 hW0 hW1
 go_wp2
 go_loopw [6] (fun s6 wr=>∃(k:Nat) (B:Option Addr) (f:Nat),k<=N/\s6= .int .i64 k/\Hid (ZB wr W0.heap.size (.slice A m me) (.int .i64 n) (.slice B k f))/\Hid (Qf QF wr (W0.heap.size+1) 3 No (.slice B k f) (List.range k))/\Hid (Ext W0 wr)) (fun s6 _=>N - (intOf s6).toNat)
 case atStart=>exact⟨0,none,0,by omega,rfl,HBP,hid Qf.nil,HX2⟩
 case round =>
  obtain⟨k,B,f,hk,rfl,HB,HO,HX⟩:=hrel;clear HBP HX2;have HG:Hid (∀g,(Value.slice B k f).ownBlock=some g->W0.heap.size+1<=g):=hid (fun g hg=>(HO.o.block g hg).1);by_cases h1:k<N
  ·have i1:(k:Int)<(N:Int):=by omega
   obtain⟨c0,c1,c2,cf⟩:=HB.o;have f2:=cf 2
   go_wp2_with (first
    |(at_builtin;refine Yg rfl (.tmp 23) (.tmp 25) rfl (W0.heap.size+1) (.slice B k f) (List.range k) rfl (HO.o.ext ((Ext.refl _).alloc _)) wr.heap.size k rfl (by simp[go_sem]) (by omega) (by simp;omega) (by have:=HB.o.lt;simp;omega) ?_;intro A9 c9' w9 ho9 hg9 hl9;rw[List.length_range]at ho9 ⊢;have HO9:=hid ho9;have HG9:=hid hg9;have HB9:=hid (HB.o.grown hg9 HG.o (Nat.lt_succ_self _));clear ho9 hg9 hl9 c0 c1 c2 cf f2;obtain⟨c0,c1,c2,cf⟩:=HB9.o;have f2:=cf 2)
    |fail)
   have HX9:=hid ((HX.o.alloc (.cells #[.int .i64 (k:Int)] 3)).grown HG9.o (fun g hg=>by have:=HG.o g hg;omega))
   first
    |go_roundw
    |refine⟨?rel, ?measure⟩
   case rel=>
    refine⟨k+1,A9,c9',by omega,by go_num,hid (HB9.o.put2 _),hid ?_,hid (HX9.o.setCell (Nat.le_refl _) _)⟩;rw[List.range_succ];exact HO9.o.set_far (p:=⟨W0.heap.size,2,none⟩) (fun e=>by have:=(HO9.o.block _ e).1;simp at this;omega) (fun b hb=>hb.elim)
   case measure=>simp [intOf];omega
  ·obtain rfl : N =k:=by omega
   have i1:¬(N:Int)<(N:Int):=by omega
   have HSL0:=hid (HO.o.num_sl (S:=fun b=>W0.heap.size+1<=b) (fun _ h=>h));have HL0:=hid (show Xz l n (List.range N) 0 from by have:=Xz.start l n;rwa [show n+l.length=N by have:=HM.o;have:=HNM.o;omega]at this);have HB0:=HB;have HX0:=HX;clear HO HG HB HX
   go_wp2
   go_loopw [7] (fun s7 wr=>∃(k:Nat) (B:Option Addr) (f:Nat) (C:List Nat),k<=m/\s7= .int .i64 k/\Hid (ZB wr W0.heap.size (.slice A m me) (.int .i64 n) (.slice B N f))/\Hid (Sl QF wr (fun b=>W0.heap.size+1<=b) (.slice B N f) C)/\Hid (Xz l n C k)/\Hid (Ext W0 wr)) (fun s7 _=>m - (intOf s7).toNat)
   case atStart=>exact⟨0,B,f,_,by omega,rfl,HB0,HSL0,HL0,HX0⟩
   case round =>
    clear HB0 HSL0 HL0 HX0;obtain⟨k,B,f,C,hk,rfl,HB,HSL,HLB,HX⟩:=hrel;by_cases h1:k<m
    ·skip;obtain⟨cu,du,bA,oA,P1u,n1u,c1u,P2u,n2u,c2u,hc,hok,hd,rfl,hcv,hbx⟩:=(HS.o).con h1;obtain⟨x0u,x1u,x2u,x3u,x4u,x5u,x6u,x7u,x8u,x9u⟩:=hbx;have HCVu:=hid hcv;have HCu:=hid hc;have HOKu:=hid hok;have HDu:=hid hd;obtain⟨kdu,cau,cbu,ou,wdu,ctu⟩:=cu;obtain⟨au,rfl⟩:∃a:Nat,cau=(a:Int):=⟨cau.toNat,(Qk hok.a0).symm⟩;have hau:au<n:=by have:=hok.a1;simp only at this;omega
     simp only at x0u x1u x2u x3u x4u x5u x6u x7u x8u x9u;clear hc hok hd hcv;have HWD:=hid (fun(w':World) (hw:Ext W0 w')=>Yp _ w' _ _ (HCVu.o.all.ext hw));have HELC:=hid (Ext.hc10 x0u x1u x2u x3u x4u x5u x6u x7u x8u x9u);clear x0u x1u x2u x3u x4u x5u x6u x7u x8u x9u;obtain⟨x0u,x1u,x2u,x3u,x4u,x5u,x6u,x7u,x8u,x9u⟩:=HELC.o _ HX.o;obtain⟨z,hz⟩:=Qg (QQ ⟨kdu,(au:Int),cbu,ou,wdu,ctu⟩);simp only at HWD;rw[hz]at HWD;have HZ:=hid hz;have i3:(0:Int)<=(k:Int):=by omega
     have i4:(k:Int)<(m:Int):=by omega
     obtain⟨c0,c1,c2,cf⟩:=HB.o;have HEL:=hid (Ext.two (Ext.hc1 c2) (Ext.hc10 x0u x1u x2u x3u x4u x5u x6u x7u x8u x9u));have HNX:Hid (n+l.length=N):=hid (by have:=HM.o;have:=HNM.o;omega);clear hz;by_cases k0:kdu=0
     ·have g0:(kdu == 0)=true:=by simp[k0]
      have hb0:0<=cbu:=HOKu.o.b0 (by simp[k0]);have hbu:cbu<n:=HOKu.o.b1 (by simp[k0]);have HUN:=hid (fun(w':World) (hw:Ext wr w')=>wC w' _ B N f C (HSL.o.ext hw) au cbu.toNat (by have:=HNM.o;omega) (by have:=HNM.o;omega) (by omega));rw[Qk hb0]at HUN;have HLS:=hid (HLB.o.sub_step HS.o.ok HCu.o k0);simp only[Int.toNat_natCast]at HLS;have HZ0:Hid (z=false):=hid (by cases z;rfl;exact absurd k0 (Zp HZ.o).2.1);clear k0
      go_wp2_with fail
      clear c0 c1 c2 cf x0u x1u x2u x3u x4u x5u x6u x7u x8u x9u;refine rgS 14 rfl rfl HEL.o (Ext.refl wr).drew (fun hSg1q0=>?_);refine Qp 0 1 2 3 4 5 ?_;refine Qp 6 7 8 9 10 11 ?_;refine rgC 12 (fun K hK=>?_);go_simp;go_at_call 57;refine(HUN.o _ (Ext.refl wr).drew).mono ?_;rintro e5 w5 ⟨B5,f5,rfl,hsl5,hx5⟩;have HX5:=hid (Ext.trans (Ext.refl wr).drew hx5);have HSL5:=hid hsl5;clear hsl5 hx5;refine rgK hK (HEL.o _ HX5.o) (fun hSg1q1=>?_);clear hK K;refine rgT 13 ?_;refine wpAnyH_done (by kernel_rfl) ?_ _;change wpList _ _ _ _ _ _;have HB5:=hid (HB.o.ext HX5.o);obtain⟨c0,c1,c2,cf⟩:=HB5.o;have f2:=cf 2;have HX7:=hid ((HX.o.trans HX5.o).setCell (p:=⟨W0.heap.size,2,none⟩) (Nat.le_refl _) (.slice B5 N f5));have HB7:=hid (HB5.o.put2 (.slice B5 N f5));have HSL7:=hid (fM HB.o.lt HSL5.o (by first|exact Nat.le_refl _|exact(Nat.le_refl _)));obtain⟨-,x0u,x1u,x2u,x3u,x4u,x5u,x6u,x7u,x8u,x9u⟩:=HEL.o _ HX5.o;go_upto_region 11 with fail
      clear c0 c1 c2 cf f2 x0u x1u x2u x3u x4u x5u x6u x7u x8u x9u;generalize hW7:World.setCell _ _ _=W7 at HX7 HB7 HSL7 ⊢;clear hW7;obtain⟨x0u,x1u,x2u,x3u,x4u,x5u,x6u,x7u,x8u,x9u⟩:=HELC.o _ HX7.o;rw[HZ0.o]at HWD
      go_wp2_with fail
      clear x0u x1u x2u x3u x4u x5u x6u x7u x8u x9u;refine(HWD.o _ HX7.o).mono ?_;rintro e8 w8 ⟨rfl,hx8⟩;have HX8:=hid hx8;clear hx8
      go_wp2
      first
       |go_roundw
       |refine⟨?rel, ?measure⟩
      case rel=>exact⟨k+1,B5,f5,_,by omega,by go_num,hid (HB7.o.ext HX8.o),hid (HSL7.o.ext HX8.o),HLS,hid (HX7.o.trans HX8.o)⟩
      case measure=>simp [intOf];omega
     ·have g0:(kdu == 0)=false:=by simp[k0]
      have K0:=hid k0;clear k0
      go_wp2_with fail
      clear c0 c1 c2 cf x0u x1u x2u x3u x4u x5u x6u x7u x8u x9u;refine(HWD.o _ HX.o).mono ?_;rintro e4 w4 ⟨rfl,hx4⟩;have HX4:=hid hx4;clear hx4
      cases z with
      | false=>
       go_wp2
       first
        |go_roundw
        |refine⟨?rel, ?measure⟩
       case rel=>exact⟨k+1,B,f,C,by omega,by go_num,hid (HB.o.ext HX4.o),hid (HSL.o.ext HX4.o),hid (HLB.o.no_step HCu.o K0.o HZ.o),hid (HX.o.trans HX4.o)⟩
       case measure=>simp [intOf];omega
      | true=>
       have hb0:0<=cbu:=HOKu.o.b0 (Zp HZ.o).1;have hbu:cbu<n:=HOKu.o.b1 (Zp HZ.o).1;obtain⟨nk,hnk⟩:=Qg (n+k);have i5:IntKind.i64.wrap ((n:Int)+(k:Int))=(nk:Int):=by rw[IntWalk.i64_in _ (by omega)];omega
       have HUN:=hid (fun(w':World) (hw:Ext wr w')=>wC w' _ B N f C (HSL.o.ext hw) nk cbu.toNat (by have:=HNM.o;omega) (by have:=HNM.o;omega) (by omega));rw[Qk hb0]at HUN;have HLS:=hid (HLB.o.wide_step HS.o.ok HCu.o HZ.o);simp only[Int.toNat_natCast]at HLS;rw[hnk]at HLS;clear hnk
       go_wp2_with fail
       refine rgS 12 rfl rfl HEL.o HX4.o.drew (fun hSg2q0=>?_);refine Qp 0 1 2 3 4 5 ?_;refine QB 6 7 8 9 ?_;refine rgC 10 (fun K hK=>?_);go_simp;go_at_call 57;refine(HUN.o _ HX4.o.drew).mono ?_;rintro e5 w5 ⟨B5,f5,rfl,hsl5,hx5⟩;have HX5:=hid (Ext.trans HX4.o.drew hx5);have HSL5:=hid hsl5;clear hsl5 hx5;refine rgK hK (HEL.o _ HX5.o) (fun hSg2q1=>?_);clear hK K;refine rgT 11 ?_;refine wpAnyH_done (by kernel_rfl) ?_ _;change wpList _ _ _ _ _ _;have HB5:=hid (HB.o.ext HX5.o);obtain⟨c0,c1,c2,cf⟩:=HB5.o;have f2:=cf 2;have HX7:=hid ((HX.o.trans HX5.o).setCell (p:=⟨W0.heap.size,2,none⟩) (Nat.le_refl _) (.slice B5 N f5));have HB7:=hid (HB5.o.put2 (.slice B5 N f5));have HSL7:=hid (fM HB.o.lt HSL5.o (by first|exact Nat.le_refl _|exact(HX4.o.size)))
       go_wp2
       first
        |go_roundw
        |refine⟨?rel, ?measure⟩
       case rel=>exact⟨k+1,B5,f5,_,by omega,by go_num,HB7,HSL7,HLS,HX7⟩
       case measure=>simp [intOf];omega
    ·obtain rfl : m=k:=by omega
     have j1:¬(m:Int)<(m:Int):=by omega
     have HW0:=hid (show vj l n N W0.heap.size (.slice A m me) W0 (.bool true) wr (true,B,f,C) from⟨rfl,HB.o,HSL.o,(by have:=HLB.o;rwa [HM.o]at this),fun h=>(by cases h),HX.o⟩);clear HB HSL HLB HX
     go_wp2
     go_loopw [8] (fun s8 wr=>∃x,vj l n N W0.heap.size (.slice A m me) W0 s8 wr x) (fun s8 wr=>Jy (vj l n N W0.heap.size (.slice A m me) W0 s8 wr) xG)
     case atStart=>exact⟨_,HW0.o⟩
     case round =>
      clear HW0;obtain⟨⟨ag,B,f,C⟩,hx,hmu⟩:=wq (μ:=xG) hrel;clear hrel;obtain⟨rfl,hb,hsl,hlab,hno,hext⟩:=hx;have HMU:=hid hmu;have HNO:=hid hno;have HJ:=hid (show KX l n N W0.heap.size (.slice A m me) W0 wr B f C from⟨hb,hsl,hlab,hext⟩);clear hb hsl hlab hno hext hmu
      cases ag with
      |false=>
       have HNQ:=hid (HNO.o rfl);clear HNO;have HRE:=hid (HR.o.ext HJ.o.ext);have HB9:=hid HJ.o.box;obtain⟨b0,b1,b2, -⟩:=HB9.o;obtain⟨r0,r1,r2,rf⟩:=HRE.o;have u0:=rf 0;have u1:=rf 1;have u2:=rf 2;obtain⟨W9,hW9,hB9,hH9,hS9,hX9⟩:=pK HRE.o (.slice A m me) (.int .i64 n) (.slice B N f);obtain⟨t0,t1,t2, -⟩:=hB9;have HW9:=hid hW9;have HX9:=hid (hX9 w (HE0.o.trans HJ.o.ext) (Nat.le_refl _));have HH9:=hid hH9;clear hW9 hH9 hS9 hX9 rf
       go_wp2
       rw[HW9.o];clear r0 r1 r2;refine bodyPost_ret (v:= .agg #[.slice A m me,.int .i64 n,.slice B N f]) (by simp[results,Tryz.results34,go_sem,t0,t1,t2]) rfl ?_;refine⟨B,N,f,C,rfl,⟨HS0.o.ext HX9.o,(HJ.o.sl.keep (w':=W9) (fun b hb _=>HH9.o b (by have hb':W0.heap.size+1<=b:=hb;have:=HSZ.o;omega))).mono fun _ _ _=>trivial,HS.o.ok,HJ.o.labk.class HS.o.ok HNQ.o,fun v hv=>?_,HJ.o.labk.len,by omega,by omega⟩,HX9.o⟩;have:=HJ.o.labk.lt v hv;have:=HJ.o.labk.len;omega
      | true =>
       obtain⟨C0,hC0⟩:∃C0,C0=C:=⟨_,rfl⟩;have HN0:=hid (show XK l n C0 C false 0 0 by rw[hC0];exact XK.start);have HMU0:=HMU;rw[<-hC0]at HMU0;have HJ0:=HJ;clear HNO HJ HMU hC0
       go_wp2
       go_loopw [8,9] (fun s8 s9 wr=>∃(k:Nat) (ag:Bool) (B:Option Addr) (f:Nat) (C:List Nat),k<=m/\s8= .bool ag/\s9= .int .i64 k/\Hid (KX l n N W0.heap.size (.slice A m me) W0 wr B f C)/\Hid (XK l n C0 C ag k 0)) (fun _ s9 _=>m - (intOf s9).toNat)
       case atStart=>exact⟨0,false,B,f,C,by omega,rfl,rfl,HJ0,HN0⟩
       case round =>
        clear HJ0 HN0;obtain⟨k,ag,B',f',C',hk,rfl,rfl,HJ,HN⟩:=hrel;by_cases h1:k<m
        ·have HJ0 :=HJ;have HN0:=HN;clear HJ HN
         go_wp2
         go_loopw [8,10] (fun s8 s10 wr=>∃(i:Nat) (ag:Bool) (B:Option Addr) (f:Nat) (C:List Nat),i<=k/\s8= .bool ag/\s10= .int .i64 i/\Hid (KX l n N W0.heap.size (.slice A m me) W0 wr B f C)/\Hid (XK l n C0 C ag k i)) (fun _ s10 _=>k - (intOf s10).toNat)
         case atStart=>exact⟨0,ag,B',f',C',by omega,rfl,rfl,HJ0,HN0⟩
         case round=>
          clear HJ0 HN0;obtain⟨i,ag,B,f,C,hi,rfl,rfl,HJ,HN⟩:=hrel;by_cases h2:i<k
          ·skip;have him:i<m:=by omega
           obtain⟨cu,du,bA,oA,P1u,n1u,c1u,P2u,n2u,c2u,hc,hok,hd,rfl,hcv,hbx⟩:=(HS.o.ext HJ.o.ext).con h1;obtain⟨x0u,x1u,x2u,x3u,x4u,x5u,x6u,x7u,x8u,x9u⟩:=hbx;have HCVu:=hid hcv;have HCu:=hid hc;have HOKu:=hid hok;have HDu:=hid hd;obtain⟨kdu,cau,cbu,ou,wdu,ctu⟩:=cu;obtain⟨au,rfl⟩:∃a:Nat,cau=(a:Int):=⟨cau.toNat,(Qk hok.a0).symm⟩;have hau:au<n:=by have:=hok.a1;simp only at this;omega
           simp only at x0u x1u x2u x3u x4u x5u x6u x7u x8u x9u;clear hc hok hd hcv;obtain⟨cv,dv,bA',oA',P1v,n1v,c1v,P2v,n2v,c2v,hc,hok,hd,hh,hcv,hbx⟩:=(HS.o.ext HJ.o.ext).con him;injection hh with hh
           injection hh with h2 h3
           subst h2 h3;obtain⟨x0v,x1v,x2v,x3v,x4v,x5v,x6v,x7v,x8v,x9v⟩:=hbx;have HCVv:=hid hcv;have HCv:=hid hc;have HOKv:=hid hok;have HDv:=hid hd;obtain⟨kdv,cav,cbv,ov,wdv,ctv⟩:=cv;obtain⟨av,rfl⟩:∃a:Nat,cav=(a:Int):=⟨cav.toNat,(Qk hok.a0).symm⟩;have hav:av<n:=by have:=hok.a1;simp only at this;omega
           simp only at x0v x1v x2v x3v x4v x5v x6v x7v x8v x9v;clear hc hok hd hcv;have HNX:Hid (n+m=N):=HNM;obtain⟨nk,hnk⟩:=Qg (n+k);obtain⟨ni,hni⟩:=Qg (n+i);have HNK:=hid hnk;have HNI:=hid hni;have hnkN:nk<N:=by have:=HNM.o;omega
           have hniN:ni<N:=by have:=HNM.o;omega
           have hauN:au<N:=by have:=HNM.o;omega
           have havN:av<N:=by have:=HNM.o;omega
           obtain⟨bB,oB,rfl,yu⟩:=HJ.o.lab hauN;obtain⟨bB',oB',hh,yv⟩:=(HJ.o).lab (x:=av) havN;injection hh with hh
           injection hh with h2 h3
           subst h2 h3;obtain⟨bB',oB',hh,yk⟩:=(HJ.o).lab (x:=nk) hnkN;injection hh with hh
           injection hh with h2 h3
           subst h2 h3;obtain⟨bB',oB',hh,yi⟩:=(HJ.o).lab (x:=ni) hniN;injection hh with hh
           injection hh with h2 h3
           subst h2 h3;have HA:=hid (fun(w':World) (hw:Ext wr w')=>Yp _ w' _ _ (HCVu.o.all.ext hw));have HAV:=hid (fun(w':World) (hw:Ext wr w')=>Yp _ w' _ _ (HCVv.o.all.ext hw));obtain⟨qu,hqu⟩:=Qg (QW C au);obtain⟨qv,hqv⟩:=Qg (QW C av);obtain⟨tk,htk⟩:=Qg (QW C nk);obtain⟨ti,hti⟩:=Qg (QW C ni);rw[hqu]at yu;rw[hqv]at yv;rw[htk]at yk;rw[hti]at yi;obtain⟨zu,hzu⟩:=Qg (QQ ⟨kdu,(au:Int),cbu,ou,wdu,ctu⟩);obtain⟨zv,hzv⟩:=Qg (QQ ⟨kdv,(av:Int),cbv,ov,wdv,ctv⟩);simp only at HA HAV;rw[hzu]at HA;rw[hzv]at HAV;have HZU:=hid hzu;have HZV:=hid hzv;have HQU:=hid hqu;have HQV:=hid hqv;have HTK:=hid htk;have HTI:=hid hti;have i1:(0:Int)<=(au:Int):=by omega
           have i2:(au:Int)<(N:Int):=by omega
           have i3:(0:Int)<=(av:Int):=by omega
           have i4:(av:Int)<(N:Int):=by omega
           have i5:(0:Int)<=(k:Int):=by omega
           have i6:(k:Int)<(m:Int):=by omega
           have i7:(0:Int)<=(i:Int):=by omega
           have i8:(i:Int)<(m:Int):=by omega
           have i9:(i:Int)<(k:Int):=by omega
           have i10:(0:Int)<=(nk:Int):=by omega
           have i11:(nk:Int)<(N:Int):=by omega
           have i12:(0:Int)<=(ni:Int):=by omega
           have i13:(ni:Int)<(N:Int):=by omega
           have i14:IntKind.i64.wrap ((n:Int)+(k:Int))=(nk:Int):=by rw[IntWalk.i64_in _ (by omega)];omega
           have i15:IntKind.i64.wrap ((n:Int)+(i:Int))=(ni:Int):=by rw[IntWalk.i64_in _ (by omega)];omega
           obtain⟨c0,c1,c2,cf⟩:=HJ.o.box;have HEL:=hid (Ext.two (Ext.hc1 c2) (Ext.two (Ext.hc10 x0u x1u x2u x3u x4u x5u x6u x7u x8u x9u) (Ext.two (Ext.hc10 x0v x1v x2v x3v x4v x5v x6v x7v x8v x9v) (Ext.hc4 yu yv yk yi))));clear hqu hqv htk hti hzu hzv hnk hni c0 c1 c2 cf x0u x1u x2u x3u x4u x5u x6u x7u x8u x9u x0v x1v x2v x3v x4v x5v x6v x7v x8v x9v yu yv yk yi
           go_wp2_with fail
           cases zu with
           | false=>as_aux_lemma=>
            refine rgH HEL.o (Ext.refl wr).drew (fun hSg3q0=>?_);refine QB 0 1 2 3 ?_;refine rgC 4 (fun K hK=>?_);go_simp;go_at_call 58;refine(HA.o _ (Ext.refl wr).drew).mono ?_;rintro e5 w5 ⟨rfl,hx5⟩;have HX5:=hid hx5.drew_left;clear hx5;refine rgK hK (HEL.o _ HX5.o) (fun hSg3q1=>?_);clear hK K;refine rgT 5 ?_;refine Qc 6 7 8 9 ?_;refine rgC 10 (fun K hK=>?_);refine cast (if_neg (fun h=>Bool.noConfusion (show false=true from h))).symm ?_;refine rgK hK (by assumption) (fun hSg3q2=>?_);clear hK K;refine QJ 11 12 ?_;refine Qc 13 14 15 16 ?_;refine Qc 17 18 19 20 ?_;refine ZM 21 22 ?_;refine rgU 23 ?_;refine QJ 24 25 ?_;refine Qc 26 27 28 29 ?_;refine Qc 30 31 32 33 ?_;refine Qc 34 35 36 37 ?_;refine Qc 38 39 40 41 ?_;refine ZM 42 43 ?_;refine rgU 44 ?_;refine QJ 45 46 ?_;refine Qc 47 48 49 50 ?_;refine Qc 51 52 53 54 ?_;refine Qc 55 56 57 58 ?_;refine ZM 59 60 ?_;refine rgU 61 ?_;refine rgT 62 ?_;refine wpAnyH_done (by kernel_rfl) ?_ _
            go_wp2
            first
             |go_roundw
             |refine⟨?rel, ?measure⟩
            case rel=>
             refine⟨i+1,ag,some ⟨bB,oB,none⟩,f,C,by omega,rfl,by go_num,hid (HJ.o.step HX5.o),hid (HN.o.pass fun⟨c,e,hc,he,q1,q2,q3,q4,q5⟩=>?_)⟩;rw[HCu.o]at hc;cases hc;rw[HCv.o]at he;cases he;simp only[Int.toNat_natCast]at q4
             (rw[HZU.o]at q1;cases q1)
            case measure=>simp [intOf];omega
           | true =>
            cases zv with
            | false=>as_aux_lemma=>
             refine rgH HEL.o (Ext.refl wr).drew (fun hSg4q0=>?_);refine QB 0 1 2 3 ?_;refine rgC 4 (fun K hK=>?_);go_simp;go_at_call 58;refine(HA.o _ (Ext.refl wr).drew).mono ?_;rintro e5 w5 ⟨rfl,hx5⟩;have HX5:=hid hx5.drew_left;clear hx5;refine rgK hK (HEL.o _ HX5.o) (fun hSg4q1=>?_);clear hK K;refine QB 5 6 7 8 ?_;refine rgT 9 ?_;refine rgC 10 (fun K hK=>?_);go_simp;go_at_call 58;refine(HAV.o _ HX5.o).mono ?_;rintro e6 w6 ⟨rfl,hx6⟩;have HX6:=hid (HX5.o.trans hx6);clear hx6;refine rgK hK (HEL.o _ HX6.o) (fun hSg4q2=>?_);clear hK K;refine QJ 11 12 ?_;refine Qc 13 14 15 16 ?_;refine Qc 17 18 19 20 ?_;refine ZM 21 22 ?_;refine rgU 23 ?_;refine QJ 24 25 ?_;refine Qc 26 27 28 29 ?_;refine Qc 30 31 32 33 ?_;refine Qc 34 35 36 37 ?_;refine Qc 38 39 40 41 ?_;refine ZM 42 43 ?_;refine rgU 44 ?_;refine QJ 45 46 ?_;refine Qc 47 48 49 50 ?_;refine Qc 51 52 53 54 ?_;refine Qc 55 56 57 58 ?_;refine ZM 59 60 ?_;refine rgU 61 ?_;refine rgT 62 ?_;refine wpAnyH_done (by kernel_rfl) ?_ _
             go_wp2
             first
              |go_roundw
              |refine⟨?rel, ?measure⟩
             case rel=>
              refine⟨i+1,ag,some ⟨bB,oB,none⟩,f,C,by omega,rfl,by go_num,hid (HJ.o.step HX6.o),hid (HN.o.pass fun⟨c,e,hc,he,q1,q2,q3,q4,q5⟩=>?_)⟩;rw[HCu.o]at hc;cases hc;rw[HCv.o]at he;cases he;simp only[Int.toNat_natCast]at q4
              (rw[HZV.o]at q2;cases q2)
             case measure=>simp [intOf];omega
            | true=>
             by_cases h9:ou=ov
             ·have g9:(ou == ov)=true:=by simp[h9]
              have H9:=hid h9;clear h9;by_cases h8:qu=qv
              ·have g8:((qu:Int) == (qv:Int))=true:=by simp[h8]
               have H8:=hid h8;clear h8;by_cases h7:tk=ti
               ·have g7:((tk:Int) != (ti:Int))=false:=by simp[h7]
                have H7:=hid h7;clear h7
                as_aux_lemma=>
                 refine rgH HEL.o (Ext.refl wr).drew (fun hSg5q0=>?_);refine QB 0 1 2 3 ?_;refine rgC 4 (fun K hK=>?_);go_simp;go_at_call 58;refine(HA.o _ (Ext.refl wr).drew).mono ?_;rintro e5 w5 ⟨rfl,hx5⟩;have HX5:=hid hx5.drew_left;clear hx5;refine rgK hK (HEL.o _ HX5.o) (fun hSg5q1=>?_);clear hK K;refine QB 5 6 7 8 ?_;refine rgT 9 ?_;refine rgC 10 (fun K hK=>?_);go_simp;go_at_call 58;refine(HAV.o _ HX5.o).mono ?_;rintro e6 w6 ⟨rfl,hx6⟩;have HX6:=hid (HX5.o.trans hx6);clear hx6;refine rgK hK (HEL.o _ HX6.o) (fun hSg5q2=>?_);clear hK K;refine Qp 11 12 13 14 15 16 ?_;refine Qp 17 18 19 20 21 22 ?_;refine Qp 23 24 25 26 27 28 ?_;refine Qp 29 30 31 32 33 34 ?_;refine Qp 35 36 37 38 39 40 ?_;refine Qp 41 42 43 44 45 46 ?_;refine Qp 47 48 49 50 51 52 ?_;refine Qp 53 54 55 56 57 58 ?_;refine QB 59 60 61 62 ?_;refine wpAnyH_done (by kernel_rfl) ?_ _
                 go_wp2
                 first
                  |go_roundw
                  |refine⟨?rel, ?measure⟩
                 case rel=>
                  refine⟨i+1,ag,some ⟨bB,oB,none⟩,f,C,by omega,rfl,by go_num,hid (HJ.o.step HX6.o),hid (HN.o.pass fun⟨c,e,hc,he,q1,q2,q3,q4,q5⟩=>?_)⟩;rw[HCu.o]at hc;cases hc;rw[HCv.o]at he;cases he;simp only[Int.toNat_natCast]at q4
                  (exact q5 (by rw[HNK.o,HNI.o,HTK.o,HTI.o];exact H7.o))
                 case measure=>simp [intOf];omega
               ·have g7:((tk:Int) != (ti:Int))=true:=by simp;omega
                have HAP:=hid (show KP l n C k i from⟨_,_,HCu.o,HCv.o,HZU.o,HZV.o,H9.o,by simp only[Int.toNat_natCast];rw[HQU.o,HQV.o];exact H8.o,by rw[HNK.o,HNI.o,HTK.o,HTI.o];exact h7⟩);have hcs:=HJ.o.labk.cell_step HS.o.ok HAP.o;rw[HNK.o,HNI.o]at hcs;have HCS:=hid hcs;have HUN:=hid (fun(w':World) (hw:Ext wr w')=>wC w' _ (some ⟨bB,oB,none⟩) N f C (HJ.o.sl.ext hw) nk ni hnkN hniN (by omega));clear h7 hcs
                as_aux_lemma=>
                 refine rgH HEL.o (Ext.refl wr).drew (fun hSg6q0=>?_);refine QB 0 1 2 3 ?_;refine rgC 4 (fun K hK=>?_);go_simp;go_at_call 58;refine(HA.o _ (Ext.refl wr).drew).mono ?_;rintro e5 w5 ⟨rfl,hx5⟩;have HX5:=hid hx5.drew_left;clear hx5;refine rgK hK (HEL.o _ HX5.o) (fun hSg6q1=>?_);clear hK K;refine QB 5 6 7 8 ?_;refine rgT 9 ?_;refine rgC 10 (fun K hK=>?_);go_simp;go_at_call 58;refine(HAV.o _ HX5.o).mono ?_;rintro e6 w6 ⟨rfl,hx6⟩;have HX6:=hid (HX5.o.trans hx6);clear hx6;refine rgK hK (HEL.o _ HX6.o) (fun hSg6q2=>?_);clear hK K;refine Qp 11 12 13 14 15 16 ?_;refine Qp 17 18 19 20 21 22 ?_;refine Qp 23 24 25 26 27 28 ?_;refine Qp 29 30 31 32 33 34 ?_;refine Qp 35 36 37 38 39 40 ?_;refine Qp 41 42 43 44 45 46 ?_;refine Qp 47 48 49 50 51 52 ?_;refine Qp 53 54 55 56 57 58 ?_;refine QB 59 60 61 62 ?_;refine wpAnyH_done (by kernel_rfl) ?_ _;obtain⟨d0,d1,d2,df⟩:=(HJ.o.box.ext HX6.o)
                 go_wp2_with fail
                 refine(HUN.o _ HX6.o).mono ?_;rintro e7 w7 ⟨B7,f7,rfl,hsl7,hx7⟩;have HJ7:=hid ((HJ.o.step HX6.o).put (Nat.le_refl _) hx7 hsl7 HCS.o.1);clear d0 d1 d2 df;obtain⟨d0,d1,d2,df⟩:=(HJ.o.box.ext (HX6.o.trans hx7));have df2:=df 2;clear hsl7 hx7
                 go_wp2
                 first
                  |go_roundw
                  |refine⟨?rel, ?measure⟩
                 case rel=>exact⟨i+1,true,B7,f7,_,by omega,rfl,by go_num,HJ7,hid (HN.o.put HCS.o.2)⟩
                 case measure=>simp [intOf];omega
              ·have g8:((qu:Int) == (qv:Int))=false:=by simp;omega
               have H8:=hid h8;clear h8
               as_aux_lemma=>
                refine rgH HEL.o (Ext.refl wr).drew (fun hSg7q0=>?_);refine QB 0 1 2 3 ?_;refine rgC 4 (fun K hK=>?_);go_simp;go_at_call 58;refine(HA.o _ (Ext.refl wr).drew).mono ?_;rintro e5 w5 ⟨rfl,hx5⟩;have HX5:=hid hx5.drew_left;clear hx5;refine rgK hK (HEL.o _ HX5.o) (fun hSg7q1=>?_);clear hK K;refine QB 5 6 7 8 ?_;refine rgT 9 ?_;refine rgC 10 (fun K hK=>?_);go_simp;go_at_call 58;refine(HAV.o _ HX5.o).mono ?_;rintro e6 w6 ⟨rfl,hx6⟩;have HX6:=hid (HX5.o.trans hx6);clear hx6;refine rgK hK (HEL.o _ HX6.o) (fun hSg7q2=>?_);clear hK K;refine Qp 11 12 13 14 15 16 ?_;refine Qp 17 18 19 20 21 22 ?_;refine Qp 23 24 25 26 27 28 ?_;refine Qp 29 30 31 32 33 34 ?_;refine Qp 35 36 37 38 39 40 ?_;refine Qp 41 42 43 44 45 46 ?_;refine Qc 47 48 49 50 ?_;refine Qc 51 52 53 54 ?_;refine Qc 55 56 57 58 ?_;refine ZM 59 60 ?_;refine rgU 61 ?_;refine rgT 62 ?_;refine wpAnyH_done (by kernel_rfl) ?_ _
                go_wp2
                first
                 |go_roundw
                 |refine⟨?rel, ?measure⟩
                case rel=>
                 refine⟨i+1,ag,some ⟨bB,oB,none⟩,f,C,by omega,rfl,by go_num,hid (HJ.o.step HX6.o),hid (HN.o.pass fun⟨c,e,hc,he,q1,q2,q3,q4,q5⟩=>?_)⟩;rw[HCu.o]at hc;cases hc;rw[HCv.o]at he;cases he;simp only[Int.toNat_natCast]at q4
                 (exact H8.o (by rw[HQU.o,HQV.o]at q4;exact q4))
                case measure=>simp [intOf];omega
             ·have g9:(ou == ov)=false:=by simp[h9]
              have H9:=hid h9;clear h9
              as_aux_lemma=>
               refine rgH HEL.o (Ext.refl wr).drew (fun hSg8q0=>?_);refine QB 0 1 2 3 ?_;refine rgC 4 (fun K hK=>?_);go_simp;go_at_call 58;refine(HA.o _ (Ext.refl wr).drew).mono ?_;rintro e5 w5 ⟨rfl,hx5⟩;have HX5:=hid hx5.drew_left;clear hx5;refine rgK hK (HEL.o _ HX5.o) (fun hSg8q1=>?_);clear hK K;refine QB 5 6 7 8 ?_;refine rgT 9 ?_;refine rgC 10 (fun K hK=>?_);go_simp;go_at_call 58;refine(HAV.o _ HX5.o).mono ?_;rintro e6 w6 ⟨rfl,hx6⟩;have HX6:=hid (HX5.o.trans hx6);clear hx6;refine rgK hK (HEL.o _ HX6.o) (fun hSg8q2=>?_);clear hK K;refine Qp 11 12 13 14 15 16 ?_;refine Qp 17 18 19 20 21 22 ?_;refine Zd 23 24 25 ?_;refine Qc 26 27 28 29 ?_;refine Qc 30 31 32 33 ?_;refine Qc 34 35 36 37 ?_;refine Qc 38 39 40 41 ?_;refine ZM 42 43 ?_;refine rgU 44 ?_;refine QJ 45 46 ?_;refine Qc 47 48 49 50 ?_;refine Qc 51 52 53 54 ?_;refine Qc 55 56 57 58 ?_;refine ZM 59 60 ?_;refine rgU 61 ?_;refine rgT 62 ?_;refine wpAnyH_done (by kernel_rfl) ?_ _
               go_wp2
               first
                |go_roundw
                |refine⟨?rel, ?measure⟩
               case rel=>
                refine⟨i+1,ag,some ⟨bB,oB,none⟩,f,C,by omega,rfl,by go_num,hid (HJ.o.step HX6.o),hid (HN.o.pass fun⟨c,e,hc,he,q1,q2,q3,q4,q5⟩=>?_)⟩;rw[HCu.o]at hc;cases hc;rw[HCv.o]at he;cases he;simp only[Int.toNat_natCast]at q4
                (exact H9.o q3)
               case measure=>simp [intOf];omega
          ·obtain rfl:i=k:=by omega
           have j5:¬(i:Int)<(i:Int):=by omega
           go_wp2
           first
            |go_roundw
            |refine⟨?rel, ?measure⟩
           case rel=>exact⟨i+1,ag,B,f,C,by omega,rfl,by go_num,HJ,hid HN.o.next⟩
           case measure=>simp [intOf];omega
        ·obtain rfl:k=m:=by omega
         have j5:¬(k:Int)<(k:Int):=by omega
         have HW9:=hid (show vj l n N W0.heap.size (.slice A k me) W0 (.bool ag) wr (ag,B',f',C') from⟨rfl,HJ.o.box,HJ.o.sl,HJ.o.labk,(fun ha=>by subst ha;have:=HN.o;rw[HM.o]at this;exact this.stop),HJ.o.ext⟩)
         go_wp2
         first
          |go_roundw
          |refine⟨?rel, ?measure⟩
         case rel=>exact⟨_,HW9.o⟩
         case measure=>
          exact Nat.lt_of_le_of_lt (pg HW9.o) (Nat.lt_of_lt_of_eq HN.o.mu HMU0.o)
end
end Go.Proofs.YtlmipgdnlfjpaaaGreat
