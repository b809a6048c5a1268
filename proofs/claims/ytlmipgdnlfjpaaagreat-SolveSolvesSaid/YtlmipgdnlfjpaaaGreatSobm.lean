/- Lemmas of mine, merged. -/
import Derived.Test.YtlmipgdnlfjpaaaGreatSoAm
import Derived.Test.YtlmipgdnlfjpaaaGreatPlam
import Derived.Test.YtlmipgdnlfjpaaaGreatCpyTm
import Derived.Test.YtlmipgdnlfjpaaaGreatFatm
set_option maxRecDepth 100000
set_option maxHeartbeats 4000000
set_option linter.unusedSimpArgs false
set_option linter.unusedVariables false
namespace Go.Proofs.YtlmipgdnlfjpaaaGreat
open Go.RowKit Go.Deco
abbrev QF:Rep Nat:=XG .i64 1048576
theorem qy:(Tryz.prog.info? 3).map (fun i=>(i.zero,i.size,i.bytes))=some (some (.int .i64 0),1,8):=by kernel_rfl
theorem ZF {d:Nat}{w:World}{S:Nat->Prop}:TyV d w S (.agg #[.int .i64 0,.int .i64 0,.int .i64 0,.slice none 0 0,.slice none 0 0]) Ty.unk:=⟨none,0,0,none,0,0,rfl,Sl.nil,Sl.nil,by show Qy 0;unfold Qy;omega,by show Qy 0;unfold Qy;omega,by show Qy 0;unfold Qy;omega⟩
theorem eV {ts:List Ty}{v:Int}{k:Nat}{x:Ty}(hk:v=k)(hx:ts[k]? =some x):typeAt ts v=x:=by
 unfold typeAt;rw[if_pos (by omega),hk,Int.toNat_natCast,hx];rfl
theorem ud {ts:List Ty}{v:Int}(h:v<0\/(ts.length:Int)<=v):typeAt ts v=Ty.unk:=by
 unfold typeAt
 split
 ·rw[List.getElem?_eq_none (by omega)];rfl
 ·rfl
def Q5 (w:World)(b:Nat)(v0 v1:Value):Prop:=w.cell? ⟨b,0,none⟩=some v0/\w.cell? ⟨b,1,none⟩=some v1/\∀i,w.frozen? ⟨b,i,none⟩=false
theorem Q5.lt {w:World}{b:Nat}{v0 v1:Value}(h:Q5 w b v0 v1):b<w.heap.size:=World.block_lt_of_cell? _ _ h.1
theorem Q5.ext {w w':World}{b:Nat}{v0 v1:Value}(h:Q5 w b v0 v1)(he:Ext w w'):Q5 w' b v0 v1:=⟨he.cell h.1,he.cell h.2.1,fun i=>(he.frozen (p:=⟨b,i,none⟩) h.lt).trans (h.2.2 i)⟩
theorem Q5.new (w:World)(v0 v1:Value)(t:TypeId):Q5 (w.alloc (.cells #[v0,v1] t)) w.heap.size v0 v1:=⟨by simp[go_sem],by simp[go_sem],fun i=>by simp[go_sem]⟩
theorem Q5.block {w w':World}{b:Nat}{v0 v1:Value}(h:Q5 w b v0 v1)(he:w'.heap[b]? =w.heap[b]?):Q5 w' b v0 v1:=
 ⟨(World.cell?_of_block he).trans h.1,(World.cell?_of_block he).trans h.2.1,fun i=>(World.frozen?_of_block (a:=⟨b,i,none⟩) he).trans (h.2.2 i)⟩
theorem Q5.put0 {w:World}{b:Nat}{v0 v1:Value}(h:Q5 w b v0 v1)(u:Value):Q5 (w.setCell ⟨b,0,none⟩ u) b u v1:=⟨by simp[World.cell?_setCell_same,h.1],by simp[World.cell?_setCell_other,h.2.1],fun i=>by rw[World.frozen?_setCell];exact h.2.2 i⟩
theorem Q5.put1 {w:World}{b:Nat}{v0 v1:Value}(h:Q5 w b v0 v1)(u:Value):Q5 (w.setCell ⟨b,1,none⟩ u) b v0 u:=⟨by simp[World.cell?_setCell_other,h.1],by simp[World.cell?_setCell_same,h.2.1],fun i=>by rw[World.frozen?_setCell];exact h.2.2 i⟩
theorem Q5.far {w:World}{b:Nat}{v0 v1:Value}(h:Q5 w b v0 v1){p:Addr}{u:Value}(hp:p.block≠b):Q5 (w.setCell p u) b v0 v1:=h.block (Below.heap_setCell _ _ _ b (fun e=>hp e.symm))
theorem Vq {w:World}{b:Nat}{o0 o1:Value}(h:Q5 w b o0 o1)(v0 v1:Value):
  ∃W3,(w.setCell ⟨b,0,none⟩ v0).setCell ⟨b,1,none⟩ v1=W3/\Q5 W3 b v0 v1/\(∀k,k≠b->W3.heap[k]? =w.heap[k]?)/\W3.heap.size=w.heap.size/\∀a,Ext a w->a.heap.size<=b->Ext a W3:=
 ⟨_,rfl,(h.put0 v0).put1 v1,fun k hk=>by rw[Below.heap_setCell _ _ _ _ (by exact hk),Below.heap_setCell _ _ _ _ (by exact hk)],by simp,fun a ha hb=>(ha.setCell (p:=⟨b,0,none⟩) hb v0).setCell (p:=⟨b,1,none⟩) hb v1⟩
theorem uc (d:Nat)(w:World)(A B:Option Addr)(n c m e:Nat)(ts:List Ty)(v:Int)(hs:Sl (tyR d) w All (.slice A n c) ts)(hb:∀t∈ts,bnT t=true):
  Calls Tryz.prog 18 #[.agg #[.slice A n c,.slice B m e],.int .i64 v] w (KM d w (typeAt ts v)):=by
 obtain⟨r,hr⟩:=Qg (typeAt ts v);rw[hr];have hlen:=hs.len;obtain⟨hc1,hc2⟩:=hs.cap;obtain⟨W0,hW0⟩:=Qg ((w.alloc (.cells #[.slice A n c,.slice B m e] 28)).alloc (.cells #[.int .i64 0,.int .i64 0,.int .i64 0,.slice none 0 0,.slice none 0 0] 42));have hE0:Ext w W0:=by rw[<-hW0];exact((Ext.refl w).alloc _).alloc _
 have hP:Q5 W0 w.heap.size (.slice A n c) (.slice B m e):=by rw[<-hW0];exact(Q5.new w _ _ _).ext ((Ext.refl _).alloc _)
 have hZ:Qm W0 (w.heap.size+1) (.int .i64 0) (.int .i64 0) (.int .i64 0) (.slice none 0 0) (.slice none 0 0):=by
  rw[<-hW0];have:=Qm.new (w.alloc (.cells #[.slice A n c,.slice B m e] 28)) (.int .i64 0) (.int .i64 0) (.int .i64 0) (.slice none 0 0) (.slice none 0 0) 42
  rwa [show(w.alloc (.cells #[.slice A n c,.slice B m e] 28)).heap.size=w.heap.size+1 by simp]at this
 have HE0:=hid hE0;have HZ:=hid hZ;have HS:=hid hs;have HB:=hid hb;have HR:=hid hr;have HL:=hid hlen;obtain⟨p0,p1, -⟩:=hP;clear hE0 hZ hs hb hr hlen;by_cases h1:v<0
 ·have g1:decide (v<0)=true:=Qv h1;obtain rfl:Ty.unk=r:=by rw[<-HR.o,ud (.inl h1)]
  go_enter Tryz.func18,Tryz.ntmps18;go_upto_region 2 with fail
  clear hW0;obtain⟨r0,r1,r2,r3,r4,rf⟩:=HZ.o;have u0:=rf 0;have u1:=rf 1;have u2:=rf 2;have u3:=rf 3;have u4:=rf 4;obtain⟨W3,hW3,hB3,hH3,hS3,hX3⟩:=QK (HZ.o) (.int .i64 0) (.int .i64 0) (.int .i64 0) (.slice none 0 0) (.slice none 0 0);obtain⟨t0,t1,t2,t3,t4, -⟩:=hB3;have HW3:=hid hW3;have HX3:=hid (hX3 w HE0.o (by omega));have HH3:=hid hH3;clear hW3 hH3 hX3 hS3 rf
  go_wp2
  rw[HW3.o];clear r0 r1 r2 r3 r4;refine bodyPost_ret (v:= .agg #[(.int .i64 0),(.int .i64 0),(.int .i64 0),(.slice none 0 0),(.slice none 0 0)]) (by simp[results,Tryz.results18,go_sem,t0,t1,t2,t3,t4]) rfl ?_;refine⟨_,rfl,ZF,HX3.o⟩
 have g1:decide (v<0)=false:=Qw h1;by_cases h2:(n:Int)<=v
 ·have g2:decide (v>=(n:Int))=true:=Qv h2;have g3:v>=(n:Int):=h2;obtain rfl:Ty.unk=r:=by rw[<-HR.o,ud (.inr (by rw[<-HL.o];exact h2))]
  go_enter Tryz.func18,Tryz.ntmps18;go_upto_region 2 with fail
  clear hW0;obtain⟨r0,r1,r2,r3,r4,rf⟩:=HZ.o;have u0:=rf 0;have u1:=rf 1;have u2:=rf 2;have u3:=rf 3;have u4:=rf 4;obtain⟨W3,hW3,hB3,hH3,hS3,hX3⟩:=QK (HZ.o) (.int .i64 0) (.int .i64 0) (.int .i64 0) (.slice none 0 0) (.slice none 0 0);obtain⟨t0,t1,t2,t3,t4, -⟩:=hB3;have HW3:=hid hW3;have HX3:=hid (hX3 w HE0.o (by omega));have HH3:=hid hH3;clear hW3 hH3 hX3 hS3 rf
  go_wp2
  rw[HW3.o];clear r0 r1 r2 r3 r4;refine bodyPost_ret (v:= .agg #[(.int .i64 0),(.int .i64 0),(.int .i64 0),(.slice none 0 0),(.slice none 0 0)]) (by simp[results,Tryz.results18,go_sem,t0,t1,t2,t3,t4]) rfl ?_;refine⟨_,rfl,ZF,HX3.o⟩
 have g2:decide (v>=(n:Int))=false:=Qw h2;have g3:¬v>=(n:Int):=h2;obtain⟨k,rfl⟩:∃k:Nat,v=k:=⟨v.toNat,by omega⟩;have hkn:k<n:=by omega
 obtain⟨x,hx⟩:∃x,ts[k]? =some x:=⟨_,Qq (by have:=HL.o;omega)⟩;obtain rfl:x=r:=by rw[<-HR.o,eV rfl hx]
 obtain⟨d1,bx,ox,P1,np1,cp1,P2,np2,cp2,hd,rfl,hv1,x0,x1,x2,x3,x4⟩:=(HS.o.ext HE0.o).ty_at hx;have HD:=hid hd;have HC:=hid (pF d1 W0 x _ hv1 (HB.o x (Qx hx)));have i1:(0:Int)<=(k:Int):=by omega
 have i2:(k:Int)<(n:Int):=by omega
 clear hd hv1 hx h1 h2;go_enter Tryz.func18,Tryz.ntmps18
 go_wp2_with fail
 refine HC.o.mono ?_;rintro e w1 ⟨_,rfl,⟨A5,n5,c5,B5,m5,e5,rfl,hv4⟩,hx4⟩;have HV4:=hid hv4;have HX4:=hid hx4;clear hx4 hv4 x0 x1 x2 x3 x4 p0 p1 hW0;obtain⟨r0,r1,r2,r3,r4,rf⟩:=HZ.o.ext HX4.o;have u0:=rf 0;have u1:=rf 1;have u2:=rf 2;have u3:=rf 3;have u4:=rf 4;obtain⟨W3,hW3,hB3,hH3,hS3,hX3⟩:=QK (HZ.o.ext HX4.o) (.int .i64 x.kind) (.int .i64 x.size) (.int .i64 x.count) (.slice A5 n5 c5) (.slice B5 m5 e5);obtain⟨t0,t1,t2,t3,t4, -⟩:=hB3;have HW3:=hid hW3;have HX3:=hid (hX3 w (HE0.o.trans HX4.o) (by omega));have HH3:=hid hH3;clear hW3 hH3 hX3 hS3 rf
 go_wp2
 rw[HW3.o];clear r0 r1 r2 r3 r4;refine bodyPost_ret (v:= .agg #[(.int .i64 x.kind),(.int .i64 x.size),(.int .i64 x.count),(.slice A5 n5 c5),(.slice B5 m5 e5)]) (by simp[results,Tryz.results18,go_sem,t0,t1,t2,t3,t4]) rfl ?_;refine⟨_,rfl,(by rw[HD.o];exact(ry HH3.o ⟨A5,n5,c5,B5,m5,e5,rfl,HV4.o⟩ (by have:=HZ.o.lt;have:=HE0.o.size;omega)).up (Nat.le_succ _)),HX3.o⟩
theorem uF {ts:List Ty}{k:Nat}{x:Ty}(hk:ts[k]? =some x):ZZ (ts.take (k+1))=ZZ (ts.take k) ++ (if x.kind=6 then [k] else []):=by
 have hlt:=(Qz hk).1;unfold ZZ;rw[VC hk,List.zipIdx_append,List.filter_append,List.map_append]
 congr 1
 simp only[List.length_take,Nat.min_eq_left (Nat.le_of_lt hlt),Nat.zero_add];by_cases h:x.kind=6 <;> simp[h]
def nM (w:World)(v:Value)(ts:List Ty)(e:Ending)(w':World):Prop:=∃B c,e= .returned (.agg #[v,.slice B (ZZ ts).length c])/\Sl QF w' (fun b=>w.heap.size<=b) (.slice B (ZZ ts).length c) (ZZ ts)/\Ext w w'
theorem kj {W w5:World}{o:Obj}{b lo:Nat}{v v0 v1:Value}(h:Q5 W b v0 v1)(hg:(W.alloc o).grownBy w5 v.ownBlock)(hv:∀g,v.ownBlock=some g->lo<=g)(hb:b<lo):Q5 w5 b v0 v1:=by
 refine(h.ext ((Ext.refl W).alloc o)).block (hg.block b ?_ fun e=>?_)
 ·have:=h.lt;simp;omega
 ·have:=hv b e.symm;omega
theorem ff {w:World}{base:Nat}{e:TypeId}{v:Value}{l:List Nat}{p:Addr}{u:Value}(h:Qf QF w base e All v l)(hp:v.ownBlock≠some p.block):Qf QF (w.setCell p u) base e All v l:=by
 obtain⟨xs,h1,h2⟩:=h;obtain⟨xs',h1',h2'⟩:=Qf.set_far (T:=fun _=>False) (u:=u) (⟨xs,h1,XV.2 (XV.1 h2)⟩:Qf QF w base e (fun _=>False) v l) hp (fun _ h=>h.elim);exact⟨xs',h1',XV.2 (XV.1 h2')⟩
theorem Gw (d:Nat)(w:World)(A:Option Addr)(n c:Nat)(ts:List Ty)(hs:Sl (tyR d) w All (.slice A n c) ts)(hn:n<=1048576):
  Calls Tryz.prog 32 #[.slice A n c] w (nM w (.slice A n c) ts):=by
 have hlen:=hs.len;obtain⟨hc1,hc2⟩:=hs.cap;obtain⟨j0,hj,hj0,hj1,hj2⟩:=info_parts qy;obtain⟨W0,hW0⟩:=Qg ((w.alloc (.cells #[.slice none 0 0,.slice none 0 0] 28)).alloc (.cells #[.slice none 0 0,.slice none 0 0] 28));have hE0:Ext w W0:=by rw[<-hW0];exact((Ext.refl w).alloc _).alloc _
 have hR:Q5 W0 w.heap.size (.slice none 0 0) (.slice none 0 0):=by rw[<-hW0];exact(Q5.new w _ _ _).ext ((Ext.refl _).alloc _)
 have hP:Q5 W0 (w.heap.size+1) (.slice none 0 0) (.slice none 0 0):=by
  rw[<-hW0];have:=Q5.new (w.alloc (.cells #[.slice none 0 0,.slice none 0 0] 28)) (.slice none 0 0) (.slice none 0 0) 28
  rwa [show(w.alloc (.cells #[.slice none 0 0,.slice none 0 0] 28)).heap.size=w.heap.size+1 by simp]at this
 obtain⟨W1,hW1,hP1,hH1,hS1,hX1⟩:=Vq hP (.slice A n c) (.slice none 0 0);have HX1:=hid (hX1 w hE0 (by omega));have HW1:=hid hW1;have HP1:=hid hP1;have HR1:=hid (hR.block (hH1 w.heap.size (by omega)));have HS:=hid hs;have HL:=hid hlen;have HJ:=hid hj;have HJ0:=hid hj0;have HJ1:=hid hj1;have HJ2:=hid hj2;obtain⟨z0,z1,zf⟩:=hP;have y0:=zf 0;have y1:=zf 1;clear hE0 hR hW1 hP1 hH1 hS1 hX1 hs hlen hj hj0 hj1 hj2 zf;go_enter Tryz.func32,Tryz.ntmps32;go_upto_region 2 with fail
 rw[HW1.o];clear z0 z1 y0 y1 hW0
 go_wp2
 go_loopw [10] (fun i wr=>∃(k q:Nat) (B:Option Addr) (cb:Nat),k<=n/\i= .int .i64 k/\q<=k/\Hid ((ZZ (ts.take k)).length=q)/\Hid (Qf QF wr (w.heap.size+2) 3 All (.slice B q cb) (ZZ (ts.take k)))/\Hid (Ext w wr)/\Hid (Q5 wr w.heap.size (.slice none 0 0) (.slice none 0 0))/\Hid (Q5 wr (w.heap.size+1) (.slice A n c) (.slice B q cb))) (fun i _=>n - (intOf i).toNat)
 case atStart=>exact⟨0,0,none,0,by omega,rfl,by omega,hid rfl,hid Qf.nil,HX1,HR1,HP1⟩
 case round=>
  obtain⟨k,q,B,cb,hk,rfl,hq,HQ,HO,HX,HR,HP⟩:=hrel;have HG:Hid (∀g,(Value.slice B q cb).ownBlock=some g->w.heap.size+2<=g):=hid (fun g hg=>(HO.o.block g hg).1);by_cases h1:k<n
  ·obtain⟨x,hx⟩:∃x,ts[k]? =some x:=⟨_,Qq (by have:=HL.o;omega)⟩;obtain⟨d1,bx,ox,P1,np1,cp1,P2,np2,cp2,hd,rfl,hv1,x0,x1,x2,x3,x4⟩:=(HS.o.ext HX.o).ty_at hx;have HBT:=hid (uF hx);obtain⟨W2,hW2⟩:=Qg (wr.alloc (.cells #[.int .i64 0,.int .i64 0,.int .i64 0,.slice none 0 0,.slice none 0 0] 42));have hB2:Qm W2 wr.heap.size (.int .i64 0) (.int .i64 0) (.int .i64 0) (.slice none 0 0) (.slice none 0 0):=by rw[<-hW2];exact Qm.new wr _ _ _ _ _ _
   have hE2:Ext wr W2:=by rw[<-hW2];exact(Ext.refl _).alloc _
   obtain⟨W3,hW3,hB3,hH3,hS3,hX3⟩:=QK hB2 (.int .i64 x.kind) (.int .i64 x.size) (.int .i64 x.count) (.slice P1 np1 cp1) (.slice P2 np2 cp2);have hE3:Ext wr W3:=hX3 wr hE2 (Nat.le_refl _);have HX3:=hid (HX.o.trans hE3);have HW3:=hid hW3;have HO3:=hid (HO.o.ext hE3);have HR3:=hid (HR.o.ext hE3);have HP3:=hid (HP.o.ext hE3);obtain⟨s0,s1,s2,s3,s4, -⟩:=hB3;obtain⟨z0,z1,z2,z3,z4,zf⟩:=hB2;have y0:=zf 0;have y1:=zf 1;have y2:=zf 2;have y3:=zf 3;have y4:=zf 4;clear hW3 hH3 hS3 hX3 hE3 hE2 hd hv1 hx zf;go_upto_region 5 with fail
   rw[HW3.o];clear z0 z1 z2 z3 z4 y0 y1 y2 y3 y4 x0 x1 x2 x3 x4 hW2;by_cases h2:x.kind=6
   ·have g2:(x.kind == 6)=true:=by simp[h2]
    rw[if_pos h2]at HBT;clear h2;obtain⟨p0,p1,pf⟩:=HP3.o;have pf1:=pf 1
    go_wp2_with (first
     |(at_builtin;refine zq rfl (.tmp 19) (.tmp 21) 26 rfl (w.heap.size+2) 3 j0 _ 1 8 Tryz.underlying26 HJ.o HJ0.o HJ1.o HJ2.o rfl QF rfl (.slice B q cb) (ZZ (ts.take k)) rfl HO3.o W3.heap.size rfl k rfl ⟨rfl,by omega⟩ (by have:=HQ.o;omega) (by have:=HQ.o;omega) (by have:=HP3.o.lt;omega) ?_;intro A5 c5 w5 hown5 hg5 hl5;have HO5:=hid hown5;have HG5:=hid hg5;have HL5:=hid hl5;have HP5:=hid (kj HP3.o hg5 HG.o (by omega));have HR5:=hid (kj HR3.o hg5 HG.o (by omega));have p1:=HP5.o.2.1;have pf1:=HP5.o.2.2 1;clear hown5 hg5 hl5)
     |fail)
    have HX5:=hid ((HX3.o.alloc (.cells #[.int .i64 (k:Int)] 3)).grown HG5.o (fun g hg=>by have:=HG.o g hg;omega))
    first
     |go_roundw
     |refine⟨?rel, ?measure⟩
    case rel=>
     have hl:(ZZ (ts.take k)).length=q:=HQ.o;have ho:=HO5.o;have hL5:=HL5.o;rw[hl]at ho hL5 ⊢;refine⟨k+1,q+1,A5,c5,by omega,by go_num,by omega,hid (by rw[HBT.o];simp[hl]),hid ?_,hid (HX5.o.setCell (p:=⟨w.heap.size+1,1,none⟩) (Nat.le_succ _) _),hid (HR5.o.far (by simp)),hid (HP5.o.put1 _)⟩;rw[HBT.o]
     exact ff ho (fun e=>by
      rcases hL5 _ e with h|h
      ·have h1:w.heap.size+2<=w.heap.size+1:=HG.o _ h;omega
      ·have h1:W3.heap.size<w.heap.size+1:=h;have:=HP3.o.lt;omega)
    case measure=>simp [intOf];omega
   ·have g2:(x.kind == 6)=false:=by simp[h2]
    rw[if_neg h2,List.append_nil]at HBT;clear h2
    go_wp2
    first
     |go_roundw
     |refine⟨?rel, ?measure⟩
    case rel=>exact⟨k+1,q,B,cb,by omega,by go_num,by omega,hid (by rw[HBT.o];exact HQ.o),hid (by rw[HBT.o];exact HO3.o),HX3,HR3,HP3⟩
    case measure=>simp [intOf];omega
  ·obtain rfl:k=n:=by omega
   have hl:(ZZ (ts.take k)).length=q:=HQ.o;have ht:ts.take k=ts:=Qj (by have:=HL.o;omega);rw[ht]at hl HO;subst hl;have HSL:=hid (HO.o.num_sl (S:=fun b=>w.heap.size+2<=b) (fun _ h=>h));obtain⟨r0,r1,rf⟩:=HR.o;have u0:=rf 0;have u1:=rf 1;obtain⟨p0,p1, -⟩:=HP.o;obtain⟨W3,hW3,hB3,hH3,hS3,hX3⟩:=Vq HR.o (.slice A k c) (.slice B (ZZ ts).length cb);obtain⟨t0,t1, -⟩:=hB3;have HW3:=hid hW3;have HX3:=hid (hX3 w HX.o (Nat.le_refl _));have HH3:=hid hH3;clear hW3 hH3 hX3 hS3 rf
   go_wp2
   rw[HW3.o];clear r0 r1;refine bodyPost_ret (v:= .agg #[.slice A k c,.slice B (ZZ ts).length cb]) (by simp[results,Tryz.results32,go_sem,t0,t1]) rfl ?_;exact⟨_,_,rfl,(HSL.o.keep fun b hb _=>HH3.o b (by have hb':w.heap.size+2<=b:=hb;omega)).mono fun b hb _=>by have hb':w.heap.size+2<=b:=hb;show w.heap.size<=b;omega,HX3.o⟩
theorem K7 {a w:World}(h:Ext a w):∃wA sz,w.alloc (.cells #[.int .i64 0,.int .i64 0,.int .i64 0,.slice none 0 0,.slice none 0 0] 42)=wA/\w.heap.size=sz/\Ext w wA/\a.heap.size<=sz/\Qm wA sz (.int .i64 0) (.int .i64 0) (.int .i64 0) (.slice none 0 0) (.slice none 0 0)/\wA.heap.size=sz+1:=
 ⟨_,_,rfl,rfl,(Ext.refl w).alloc _,h.size,Qm.new w _ _ _ _ _ _,by simp⟩
theorem xJ {d:Nat}{w:World}{S:Nat->Prop}{v:Value}{t:Ty}(h:TyV d w S v t):TyV d w (fun b=>S b/\b<w.heap.size) v t:=h.mono fun b hb hi=>⟨hb,hi.lt⟩
def TyB (d:Nat)(w:World)(a:Nat)(t:Ty):Prop:=∃A n c B m e,Qm w a (.int .i64 t.kind) (.int .i64 t.size) (.int .i64 t.count) (.slice A n c) (.slice B m e)/\TyV d w All (.agg #[.int .i64 t.kind,.int .i64 t.size,.int .i64 t.count,.slice A n c,.slice B m e]) t
theorem TyB.ext {d:Nat}{w w':World}{a:Nat}{t:Ty}(h:TyB d w a t)(he:Ext w w'):TyB d w' a t:=by
 obtain⟨A,n,c,B,m,e,h1,h2⟩:=h;exact⟨A,n,c,B,m,e,h1.ext he,h2.ext he⟩
theorem fF {w w':World}{b:Nat}{v0 v1 v2 v3 v4:Value}(h:Qm w b v0 v1 v2 v3 v4)(he:w'.heap[b]? =w.heap[b]?):Qm w' b v0 v1 v2 v3 v4:=
 ⟨(World.cell?_of_block he).trans h.1,(World.cell?_of_block he).trans h.2.1,(World.cell?_of_block he).trans h.2.2.1,(World.cell?_of_block he).trans h.2.2.2.1,(World.cell?_of_block he).trans h.2.2.2.2.1,fun i=>(World.frozen?_of_block (a:=⟨b,i,none⟩) he).trans (h.2.2.2.2.2 i)⟩
theorem Gp {d:Nat}{w w':World}{a:Nat}{S:Nat->Prop}{t:Ty}{A B:Option Addr}{n c m e:Nat}(hb:Qm w a (.int .i64 t.kind) (.int .i64 t.size) (.int .i64 t.count) (.slice A n c) (.slice B m e))(hv:TyV d w S (.agg #[.int .i64 t.kind,.int .i64 t.size,.int .i64 t.count,.slice A n c,.slice B m e]) t)
  {g:Nat} (hk:∀k,k≠g->w'.heap[k]? =w.heap[k]?) (ha:a≠g) (hS:∀b,S b->b≠g):TyB d w' a t:=
 ⟨A,n,c,B,m,e,fF hb (hk a ha),(hv.keep fun b h _=>hk b (hS b h)).all⟩
end Go.Proofs.YtlmipgdnlfjpaaaGreat
