/- Merged by program from texts of my own. -/
import Derived.Test.YtlmipgdnlfjpaaaGreatSoAm
import Derived.Test.YtlmipgdnlfjpaaaGreatPlam
import Derived.Test.YtlmipgdnlfjpaaaGreatCpyTm
namespace Go.Proofs.YtlmipgdnlfjpaaaGreat
open Go.RowKit Go.Deco
set_option linter.unusedSimpArgs false
set_option linter.unusedVariables false
abbrev natR:Rep Nat:=numR .i64 1048576
theorem info_int:(Tryz.prog.info? 3).map (fun i=>(i.zero,i.size,i.bytes))=some (some (.int .i64 0),1,8):=by kernel_rfl
theorem tyv_unk {d:Nat}{w:World}{S:Nat→Prop}:TyV d w S (.agg #[.int .i64 0,.int .i64 0,.int .i64 0,.slice none 0 0,.slice none 0 0]) Ty.unk:=⟨none,0,0,none,0,0,rfl,Sl.nil,Sl.nil,by show i64b 0;unfold i64b;omega,by show i64b 0;unfold i64b;omega,by show i64b 0;unfold i64b;omega⟩
theorem typeAt_in {ts:List Ty}{v:Int}{k:Nat}{x:Ty}(hk:v=k)(hx:ts[k]? =some x):typeAt ts v=x:=by
 unfold typeAt;rw[if_pos (by omega),hk,Int.toNat_natCast,hx];rfl
theorem typeAt_out {ts:List Ty}{v:Int}(h:v<0∨(ts.length:Int)≤v):typeAt ts v=Ty.unk:=by
 unfold typeAt
 split
 ·rw[List.getElem?_eq_none (by omega)];rfl
 ·rfl
def Box2 (w:World)(b:Nat)(v0 v1:Value):Prop:=w.cell? ⟨b,0,none⟩=some v0∧w.cell? ⟨b,1,none⟩=some v1∧∀i,w.frozen? ⟨b,i,none⟩=false
theorem Box2.lt {w:World}{b:Nat}{v0 v1:Value}(h:Box2 w b v0 v1):b<w.heap.size:=World.block_lt_of_cell? _ _ h.1
theorem Box2.ext {w w':World}{b:Nat}{v0 v1:Value}(h:Box2 w b v0 v1)(he:Ext w w'):Box2 w' b v0 v1:=⟨he.cell h.1,he.cell h.2.1,fun i=>(he.frozen (p:=⟨b,i,none⟩) h.lt).trans (h.2.2 i)⟩
theorem Box2.new (w:World)(v0 v1:Value)(t:TypeId):Box2 (w.alloc (.cells #[v0,v1] t)) w.heap.size v0 v1:=⟨by simp[go_sem],by simp[go_sem],fun i=>by simp[go_sem]⟩
theorem Box2.block {w w':World}{b:Nat}{v0 v1:Value}(h:Box2 w b v0 v1)(he:w'.heap[b]? =w.heap[b]?):Box2 w' b v0 v1:=
 ⟨(World.cell?_of_block he).trans h.1,(World.cell?_of_block he).trans h.2.1,fun i=>(World.frozen?_of_block (a:=⟨b,i,none⟩) he).trans (h.2.2 i)⟩
theorem Box2.put0 {w:World}{b:Nat}{v0 v1:Value}(h:Box2 w b v0 v1)(u:Value):Box2 (w.setCell ⟨b,0,none⟩ u) b u v1:=⟨by simp[World.cell?_setCell_same,h.1],by simp[World.cell?_setCell_other,h.2.1],fun i=>by rw[World.frozen?_setCell];exact h.2.2 i⟩
theorem Box2.put1 {w:World}{b:Nat}{v0 v1:Value}(h:Box2 w b v0 v1)(u:Value):Box2 (w.setCell ⟨b,1,none⟩ u) b v0 u:=⟨by simp[World.cell?_setCell_other,h.1],by simp[World.cell?_setCell_same,h.2.1],fun i=>by rw[World.frozen?_setCell];exact h.2.2 i⟩
theorem Box2.far {w:World}{b:Nat}{v0 v1:Value}(h:Box2 w b v0 v1){p:Addr}{u:Value}(hp:p.block≠b):Box2 (w.setCell p u) b v0 v1:=h.block (Below.heap_setCell _ _ _ b (fun e=>hp e.symm))
theorem box2_set {w:World}{b:Nat}{o0 o1:Value}(h:Box2 w b o0 o1)(v0 v1:Value):
  ∃W3,(w.setCell ⟨b,0,none⟩ v0).setCell ⟨b,1,none⟩ v1=W3∧Box2 W3 b v0 v1∧(∀k,k≠b→W3.heap[k]? =w.heap[k]?)∧W3.heap.size=w.heap.size∧∀a,Ext a w→a.heap.size≤b→Ext a W3:=
 ⟨_,rfl,(h.put0 v0).put1 v1,fun k hk=>by rw[Below.heap_setCell _ _ _ _ (by exact hk),Below.heap_setCell _ _ _ _ (by exact hk)],by simp,fun a ha hb=>(ha.setCell (p:=⟨b,0,none⟩) hb v0).setCell (p:=⟨b,1,none⟩) hb v1⟩
set_option maxRecDepth 100000 in
set_option maxHeartbeats 4000000 in
theorem typeof_any (d:Nat)(w:World)(A B:Option Addr)(n c m e:Nat)(ts:List Ty)(v:Int)(hs:Sl (tyR d) w All (.slice A n c) ts)(hb:∀t∈ts,bnT t=true):
  Calls Tryz.prog 18 #[.agg #[.slice A n c,.slice B m e],.int .i64 v] w (TyOut d w (typeAt ts v)):=by
 obtain⟨r,hr⟩:∃r,typeAt ts v=r:=⟨_,rfl⟩;rw[hr];have hlen:=hs.len;obtain⟨hc1,hc2⟩:=hs.cap;obtain⟨W0,hW0⟩:∃W0,(w.alloc (.cells #[.slice A n c,.slice B m e] 28)).alloc (.cells #[.int .i64 0,.int .i64 0,.int .i64 0,.slice none 0 0,.slice none 0 0] 42)=W0:=⟨_,rfl⟩;have hE0:Ext w W0:=by rw[←hW0];exact((Ext.refl w).alloc _).alloc _
 have hP:Box2 W0 w.heap.size (.slice A n c) (.slice B m e):=by rw[←hW0];exact(Box2.new w _ _ _).ext ((Ext.refl _).alloc _)
 have hZ:Box5 W0 (w.heap.size+1) (.int .i64 0) (.int .i64 0) (.int .i64 0) (.slice none 0 0) (.slice none 0 0):=by
  rw[←hW0];have:=Box5.new (w.alloc (.cells #[.slice A n c,.slice B m e] 28)) (.int .i64 0) (.int .i64 0) (.int .i64 0) (.slice none 0 0) (.slice none 0 0) 42
  rwa [show(w.alloc (.cells #[.slice A n c,.slice B m e] 28)).heap.size=w.heap.size+1 by simp]at this
 have HE0:=hid hE0;have HZ:=hid hZ;have HS:=hid hs;have HB:=hid hb;have HR:=hid hr;have HL:=hid hlen;obtain⟨p0,p1, -⟩:=hP;clear hE0 hZ hs hb hr hlen;by_cases h1:v<0
 ·have g1:decide (v<0)=true:=decide_eq_true h1;obtain rfl:Ty.unk=r:=by rw[←HR.out,typeAt_out (.inl h1)]
  go_enter Tryz.func18,Tryz.ntmps18;go_upto_region 2 with fail
  clear hW0;obtain⟨r0,r1,r2,r3,r4,rf⟩:=HZ.out;have u0:=rf 0;have u1:=rf 1;have u2:=rf 2;have u3:=rf 3;have u4:=rf 4;obtain⟨W3,hW3,hB3,hH3,hS3,hX3⟩:=box5_set (HZ.out) (.int .i64 0) (.int .i64 0) (.int .i64 0) (.slice none 0 0) (.slice none 0 0);obtain⟨t0,t1,t2,t3,t4, -⟩:=hB3;have HW3:=hid hW3;have HX3:=hid (hX3 w HE0.out (by omega));have HH3:=hid hH3;clear hW3 hH3 hX3 hS3 rf
  go_wp2
  rw[HW3.out];clear r0 r1 r2 r3 r4;refine bodyPost_ret (v:= .agg #[(.int .i64 0),(.int .i64 0),(.int .i64 0),(.slice none 0 0),(.slice none 0 0)]) (by simp[results,Tryz.results18,go_sem,t0,t1,t2,t3,t4]) rfl ?_;refine⟨_,rfl,tyv_unk,HX3.out⟩
 have g1:decide (v<0)=false:=decide_eq_false h1;by_cases h2:(n:Int)≤v
 ·have g2:decide (v≥(n:Int))=true:=decide_eq_true h2;have g3:v≥(n:Int):=h2;obtain rfl:Ty.unk=r:=by rw[←HR.out,typeAt_out (.inr (by rw[←HL.out];exact h2))]
  go_enter Tryz.func18,Tryz.ntmps18;go_upto_region 2 with fail
  clear hW0;obtain⟨r0,r1,r2,r3,r4,rf⟩:=HZ.out;have u0:=rf 0;have u1:=rf 1;have u2:=rf 2;have u3:=rf 3;have u4:=rf 4;obtain⟨W3,hW3,hB3,hH3,hS3,hX3⟩:=box5_set (HZ.out) (.int .i64 0) (.int .i64 0) (.int .i64 0) (.slice none 0 0) (.slice none 0 0);obtain⟨t0,t1,t2,t3,t4, -⟩:=hB3;have HW3:=hid hW3;have HX3:=hid (hX3 w HE0.out (by omega));have HH3:=hid hH3;clear hW3 hH3 hX3 hS3 rf
  go_wp2
  rw[HW3.out];clear r0 r1 r2 r3 r4;refine bodyPost_ret (v:= .agg #[(.int .i64 0),(.int .i64 0),(.int .i64 0),(.slice none 0 0),(.slice none 0 0)]) (by simp[results,Tryz.results18,go_sem,t0,t1,t2,t3,t4]) rfl ?_;refine⟨_,rfl,tyv_unk,HX3.out⟩
 have g2:decide (v≥(n:Int))=false:=decide_eq_false h2;have g3:¬v≥(n:Int):=h2;obtain⟨k,rfl⟩:∃k:Nat,v=k:=⟨v.toNat,by omega⟩;have hkn:k<n:=by omega
 obtain⟨x,hx⟩:∃x,ts[k]? =some x:=⟨_,List.getElem?_eq_getElem (by have:=HL.out;omega)⟩;obtain rfl:x=r:=by rw[←HR.out,typeAt_in rfl hx]
 obtain⟨d1,bx,ox,P1,np1,cp1,P2,np2,cp2,hd,rfl,hv1,x0,x1,x2,x3,x4⟩:=(HS.out.ext HE0.out).ty_at hx;have HD:=hid hd;have HC:=hid (copy_any d1 W0 x _ hv1 (HB.out x (List.mem_of_getElem? hx)));have i1:(0:Int)≤(k:Int):=by omega
 have i2:(k:Int)<(n:Int):=by omega
 clear hd hv1 hx h1 h2;go_enter Tryz.func18,Tryz.ntmps18
 go_wp2_with fail
 refine HC.out.mono ?_;rintro e w1 ⟨_,rfl,⟨A5,n5,c5,B5,m5,e5,rfl,hv4⟩,hx4⟩;have HV4:=hid hv4;have HX4:=hid hx4;clear hx4 hv4 x0 x1 x2 x3 x4 p0 p1 hW0;obtain⟨r0,r1,r2,r3,r4,rf⟩:=HZ.out.ext HX4.out;have u0:=rf 0;have u1:=rf 1;have u2:=rf 2;have u3:=rf 3;have u4:=rf 4;obtain⟨W3,hW3,hB3,hH3,hS3,hX3⟩:=box5_set (HZ.out.ext HX4.out) (.int .i64 x.kind) (.int .i64 x.size) (.int .i64 x.count) (.slice A5 n5 c5) (.slice B5 m5 e5);obtain⟨t0,t1,t2,t3,t4, -⟩:=hB3;have HW3:=hid hW3;have HX3:=hid (hX3 w (HE0.out.trans HX4.out) (by omega));have HH3:=hid hH3;clear hW3 hH3 hX3 hS3 rf
 go_wp2
 rw[HW3.out];clear r0 r1 r2 r3 r4;refine bodyPost_ret (v:= .agg #[(.int .i64 x.kind),(.int .i64 x.size),(.int .i64 x.count),(.slice A5 n5 c5),(.slice B5 m5 e5)]) (by simp[results,Tryz.results18,go_sem,t0,t1,t2,t3,t4]) rfl ?_;refine⟨_,rfl,(by rw[HD.out];exact(own_ty HH3.out ⟨A5,n5,c5,B5,m5,e5,rfl,HV4.out⟩ (by have:=HZ.out.lt;have:=HE0.out.size;omega)).up (Nat.le_succ _)),HX3.out⟩
theorem badL_take {ts:List Ty}{k:Nat}{x:Ty}(hk:ts[k]? =some x):badL (ts.take (k+1))=badL (ts.take k) ++ (if x.kind=6 then [k] else []):=by
 have hlt:=(List.getElem?_eq_some_iff.1 hk).1;unfold badL;rw[take_snoc' hk,List.zipIdx_append,List.filter_append,List.map_append]
 congr 1
 simp only[List.length_take,Nat.min_eq_left (Nat.le_of_lt hlt),Nat.zero_add];by_cases h:x.kind=6 <;> simp[h]
def SolnIs (w:World)(v:Value)(ts:List Ty)(e:Ending)(w':World):Prop:=∃B c,e= .returned (.agg #[v,.slice B (badL ts).length c])∧Sl natR w' (fun b=>w.heap.size≤b) (.slice B (badL ts).length c) (badL ts)∧Ext w w'
theorem soln_box {W w5:World}{o:Obj}{b lo:Nat}{v v0 v1:Value}(h:Box2 W b v0 v1)(hg:(W.alloc o).grownBy w5 v.ownBlock)(hv:∀g,v.ownBlock=some g→lo≤g)(hb:b<lo):Box2 w5 b v0 v1:=by
 refine(h.ext ((Ext.refl W).alloc o)).block (hg.block b ?_ fun e=>?_)
 ·have:=h.lt;simp;omega
 ·have:=hv b e.symm;omega
theorem own_far_all {w:World}{base:Nat}{e:TypeId}{v:Value}{l:List Nat}{p:Addr}{u:Value}(h:OwnS natR w base e All v l)(hp:v.ownBlock≠some p.block):OwnS natR (w.setCell p u) base e All v l:=by
 obtain⟨xs,h1,h2⟩:=h;obtain⟨xs',h1',h2'⟩:=OwnS.set_far (T:=fun _=>False) (u:=u) (⟨xs,h1,chunks_num.2 (chunks_num.1 h2)⟩:OwnS natR w base e (fun _=>False) v l) hp (fun _ h=>h.elim);exact⟨xs',h1',chunks_num.2 (chunks_num.1 h2')⟩
set_option maxRecDepth 100000 in
set_option maxHeartbeats 4000000 in
theorem soln_any (d:Nat)(w:World)(A:Option Addr)(n c:Nat)(ts:List Ty)(hs:Sl (tyR d) w All (.slice A n c) ts)(hn:n≤1048576):
  Calls Tryz.prog 32 #[.slice A n c] w (SolnIs w (.slice A n c) ts):=by
 have hlen:=hs.len;obtain⟨hc1,hc2⟩:=hs.cap;obtain⟨j0,hj,hj0,hj1,hj2⟩:=info_parts info_int;obtain⟨W0,hW0⟩:∃W0,(w.alloc (.cells #[.slice none 0 0,.slice none 0 0] 28)).alloc (.cells #[.slice none 0 0,.slice none 0 0] 28)=W0:=⟨_,rfl⟩;have hE0:Ext w W0:=by rw[←hW0];exact((Ext.refl w).alloc _).alloc _
 have hR:Box2 W0 w.heap.size (.slice none 0 0) (.slice none 0 0):=by rw[←hW0];exact(Box2.new w _ _ _).ext ((Ext.refl _).alloc _)
 have hP:Box2 W0 (w.heap.size+1) (.slice none 0 0) (.slice none 0 0):=by
  rw[←hW0];have:=Box2.new (w.alloc (.cells #[.slice none 0 0,.slice none 0 0] 28)) (.slice none 0 0) (.slice none 0 0) 28
  rwa [show(w.alloc (.cells #[.slice none 0 0,.slice none 0 0] 28)).heap.size=w.heap.size+1 by simp]at this
 obtain⟨W1,hW1,hP1,hH1,hS1,hX1⟩:=box2_set hP (.slice A n c) (.slice none 0 0);have HX1:=hid (hX1 w hE0 (by omega));have HW1:=hid hW1;have HP1:=hid hP1;have HR1:=hid (hR.block (hH1 w.heap.size (by omega)));have HS:=hid hs;have HL:=hid hlen;have HJ:=hid hj;have HJ0:=hid hj0;have HJ1:=hid hj1;have HJ2:=hid hj2;obtain⟨z0,z1,zf⟩:=hP;have y0:=zf 0;have y1:=zf 1;clear hE0 hR hW1 hP1 hH1 hS1 hX1 hs hlen hj hj0 hj1 hj2 zf;go_enter Tryz.func32,Tryz.ntmps32;go_upto_region 2 with fail
 rw[HW1.out];clear z0 z1 y0 y1 hW0
 go_wp2
 go_loopw [10] (fun i wr=>∃(k q:Nat) (B:Option Addr) (cb:Nat),k≤n∧i= .int .i64 k∧q≤k∧Hid ((badL (ts.take k)).length=q)∧Hid (OwnS natR wr (w.heap.size+2) 3 All (.slice B q cb) (badL (ts.take k)))∧Hid (Ext w wr)∧Hid (Box2 wr w.heap.size (.slice none 0 0) (.slice none 0 0))∧Hid (Box2 wr (w.heap.size+1) (.slice A n c) (.slice B q cb))) (fun i _=>n - (intOf i).toNat)
 case atStart=>exact⟨0,0,none,0,by omega,rfl,by omega,hid rfl,hid OwnS.nil,HX1,HR1,HP1⟩
 case round=>
  obtain⟨k,q,B,cb,hk,rfl,hq,HQ,HO,HX,HR,HP⟩:=hrel;have HG:Hid (∀g,(Value.slice B q cb).ownBlock=some g→w.heap.size+2≤g):=hid (fun g hg=>(HO.out.block g hg).1);by_cases h1:k<n
  ·obtain⟨x,hx⟩:∃x,ts[k]? =some x:=⟨_,List.getElem?_eq_getElem (by have:=HL.out;omega)⟩;obtain⟨d1,bx,ox,P1,np1,cp1,P2,np2,cp2,hd,rfl,hv1,x0,x1,x2,x3,x4⟩:=(HS.out.ext HX.out).ty_at hx;have HBT:=hid (badL_take hx);obtain⟨W2,hW2⟩:∃W2,wr.alloc (.cells #[.int .i64 0,.int .i64 0,.int .i64 0,.slice none 0 0,.slice none 0 0] 42)=W2:=⟨_,rfl⟩;have hB2:Box5 W2 wr.heap.size (.int .i64 0) (.int .i64 0) (.int .i64 0) (.slice none 0 0) (.slice none 0 0):=by rw[←hW2];exact Box5.new wr _ _ _ _ _ _
   have hE2:Ext wr W2:=by rw[←hW2];exact(Ext.refl _).alloc _
   obtain⟨W3,hW3,hB3,hH3,hS3,hX3⟩:=box5_set hB2 (.int .i64 x.kind) (.int .i64 x.size) (.int .i64 x.count) (.slice P1 np1 cp1) (.slice P2 np2 cp2);have hE3:Ext wr W3:=hX3 wr hE2 (Nat.le_refl _);have HX3:=hid (HX.out.trans hE3);have HW3:=hid hW3;have HO3:=hid (HO.out.ext hE3);have HR3:=hid (HR.out.ext hE3);have HP3:=hid (HP.out.ext hE3);obtain⟨s0,s1,s2,s3,s4, -⟩:=hB3;obtain⟨z0,z1,z2,z3,z4,zf⟩:=hB2;have y0:=zf 0;have y1:=zf 1;have y2:=zf 2;have y3:=zf 3;have y4:=zf 4;clear hW3 hH3 hS3 hX3 hE3 hE2 hd hv1 hx zf;go_upto_region 5 with fail
   rw[HW3.out];clear z0 z1 z2 z3 z4 y0 y1 y2 y3 y4 x0 x1 x2 x3 x4 hW2;by_cases h2:x.kind=6
   ·have g2:(x.kind == 6)=true:=by simp[h2]
    rw[if_pos h2]at HBT;clear h2;obtain⟨p0,p1,pf⟩:=HP3.out;have pf1:=pf 1
    go_wp2_with (first
     |(at_builtin;refine wpList_app1l rfl (.tmp 19) (.tmp 21) 26 rfl (w.heap.size+2) 3 j0 _ 1 8 Tryz.underlying26 HJ.out HJ0.out HJ1.out HJ2.out rfl natR rfl (.slice B q cb) (badL (ts.take k)) rfl HO3.out W3.heap.size rfl k rfl ⟨rfl,by omega⟩ (by have:=HQ.out;omega) (by have:=HQ.out;omega) (by have:=HP3.out.lt;omega) ?_;intro A5 c5 w5 hown5 hg5 hl5;have HO5:=hid hown5;have HG5:=hid hg5;have HL5:=hid hl5;have HP5:=hid (soln_box HP3.out hg5 HG.out (by omega));have HR5:=hid (soln_box HR3.out hg5 HG.out (by omega));have p1:=HP5.out.2.1;have pf1:=HP5.out.2.2 1;clear hown5 hg5 hl5)
     |fail)
    have HX5:=hid ((HX3.out.alloc (.cells #[.int .i64 (k:Int)] 3)).grown HG5.out (fun g hg=>by have:=HG.out g hg;omega))
    first
     |go_roundw
     |refine⟨?rel, ?measure⟩
    case rel=>
     have hl:(badL (ts.take k)).length=q:=HQ.out;have ho:=HO5.out;have hL5:=HL5.out;rw[hl]at ho hL5 ⊢;refine⟨k+1,q+1,A5,c5,by omega,by go_num,by omega,hid (by rw[HBT.out];simp[hl]),hid ?_,hid (HX5.out.setCell (p:=⟨w.heap.size+1,1,none⟩) (Nat.le_succ _) _),hid (HR5.out.far (by simp)),hid (HP5.out.put1 _)⟩;rw[HBT.out]
     exact own_far_all ho (fun e=>by
      rcases hL5 _ e with h|h
      ·have h1:w.heap.size+2≤w.heap.size+1:=HG.out _ h;omega
      ·have h1:W3.heap.size<w.heap.size+1:=h;have:=HP3.out.lt;omega)
    case measure=>simp [intOf];omega
   ·have g2:(x.kind == 6)=false:=by simp[h2]
    rw[if_neg h2,List.append_nil]at HBT;clear h2
    go_wp2
    first
     |go_roundw
     |refine⟨?rel, ?measure⟩
    case rel=>exact⟨k+1,q,B,cb,by omega,by go_num,by omega,hid (by rw[HBT.out];exact HQ.out),hid (by rw[HBT.out];exact HO3.out),HX3,HR3,HP3⟩
    case measure=>simp [intOf];omega
  ·obtain rfl:k=n:=by omega
   have hl:(badL (ts.take k)).length=q:=HQ.out;have ht:ts.take k=ts:=List.take_of_length_le (by have:=HL.out;omega);rw[ht]at hl HO;subst hl;have HSL:=hid (HO.out.num_sl (S:=fun b=>w.heap.size+2≤b) (fun _ h=>h));obtain⟨r0,r1,rf⟩:=HR.out;have u0:=rf 0;have u1:=rf 1;obtain⟨p0,p1, -⟩:=HP.out;obtain⟨W3,hW3,hB3,hH3,hS3,hX3⟩:=box2_set HR.out (.slice A k c) (.slice B (badL ts).length cb);obtain⟨t0,t1, -⟩:=hB3;have HW3:=hid hW3;have HX3:=hid (hX3 w HX.out (Nat.le_refl _));have HH3:=hid hH3;clear hW3 hH3 hX3 hS3 rf
   go_wp2
   rw[HW3.out];clear r0 r1;refine bodyPost_ret (v:= .agg #[.slice A k c,.slice B (badL ts).length cb]) (by simp[results,Tryz.results32,go_sem,t0,t1]) rfl ?_;exact⟨_,_,rfl,(HSL.out.keep fun b hb _=>HH3.out b (by have hb':w.heap.size+2≤b:=hb;omega)).mono fun b hb _=>by have hb':w.heap.size+2≤b:=hb;show w.heap.size≤b;omega,HX3.out⟩
end Go.Proofs.YtlmipgdnlfjpaaaGreat
