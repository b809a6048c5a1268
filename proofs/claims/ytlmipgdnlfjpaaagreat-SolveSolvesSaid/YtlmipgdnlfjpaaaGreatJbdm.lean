/- Lemmas of mine, merged. -/
import Derived.Test.YtlmipgdnlfjpaaaGreatJoiAm
import Derived.Test.YtlmipgdnlfjpaaaGreatLstm
import Derived.Test.YtlmipgdnlfjpaaaGreatFslm
import Derived.Test.YtlmipgdnlfjpaaaGreatBasm
set_option maxRecDepth 100000
set_option maxHeartbeats 8000000
set_option linter.unusedSimpArgs false
set_option linter.unusedVariables false
namespace Go.Proofs.YtlmipgdnlfjpaaaGreat
open Go.RowKit Go.Deco
def J8 (N:Nat)(w:World)(A:Option Addr)(k c:Nat):Prop:=
 w.cell? ⟨N,0,none⟩=some (.func (.func 98) #[] #[])/\w.cell? ⟨N+1,0,none⟩=some (.slice A k c)/\w.frozen? ⟨N+1,0,none⟩=false
theorem J8.ext {N:Nat}{w w':World}{A:Option Addr}{k c:Nat}(h:J8 N w A k c)(he:Ext w w'):J8 N w' A k c:=
 ⟨he.cell h.1,he.cell h.2.1,(he.frozen (p:=⟨N+1,0,none⟩) (World.block_lt_of_cell? _ _ h.2.1)).trans h.2.2⟩
def yD (d:Nat)(wo:World)(T:Nat->Prop)(N:Nat)(L:List (Int×Ty))(e:Ending)(w':World):Prop:=
 e= .returned (.tuple #[])/\∃A c,Qf (fdR (tyR d)) w' (N+2) 59 (fun b=>T b\/N+2<=b) (.slice A L.length c) L/\J8 N w' A L.length c/\Ext wo w'
theorem jY (N:Nat)(w:World)(AA:Option Addr)(kk cc:Nat)(hb:J8 N w AA kk cc)(o k s c:Int)(A B:Option Addr)(n1 c1 m1 e1:Nat):
  Calls Tryz.prog 113 #[.agg #[.int .i64 o,.int .i64 k,.int .i64 s,.int .i64 c,.slice A n1 c1,.slice B m1 e1],.pointer none,.pointer (some ⟨N,0,none⟩),.pointer (some ⟨N+1,0,none⟩)] w
   (fun e w'=>e= .returned (.tuple #[])/\Ext w w'):=by
 obtain⟨b0, -, -⟩:=hb;obtain⟨W0,hW0⟩:=Qg ((w.alloc (.cells #[.int .i64 o,.int .i64 k,.int .i64 s,.int .i64 c,.slice A n1 c1,.slice B m1 e1] 59)));have HE0:Hid (Ext w W0):=hid (by rw[<-hW0];exact(Ext.refl w).alloc _);have hB:Z9 W0 w.heap.size (.int .i64 o) (.int .i64 k) (.int .i64 s) (.int .i64 c) (.slice A n1 c1) (.slice B m1 e1):=by rw[<-hW0];exact(Z9.new w _ _ _ _ _ _ _)
 obtain⟨q0,q1,q2,q3,q4,q5,qf⟩:=hB;have b0:=HE0.o.c b0;have hen:=fP;clear qf;go_enter Tryz.func113,Tryz.ntmps113
 go_wp2_with fail
 refine(aV _ o k s c A B n1 c1 m1 e1).mono ?_;rintro e w1 ⟨rfl,hx1⟩;have hc:=Z9.new w1 (.int .i64 0) (.int .i64 0) (.int .i64 0) (.int .i64 0) (.slice none 0 0) (.slice none 0 0) 59;obtain⟨W2,hW2⟩:=Qg (w1.alloc (.cells #[.int .i64 0,.int .i64 0,.int .i64 0,.int .i64 0,.slice none 0 0,.slice none 0 0] 59));have hE2:Ext w1 W2:=by rw[<-hW2];exact(Ext.refl w1).alloc _
 rw[hW2]at hc;obtain⟨r0,r1,r2,r3,r4,r5,rf⟩:=hc;have u0:=rf 0;have u1:=rf 1;have u2:=rf 2;have u3:=rf 3;have u4:=rf 4;have u5:=rf 5;have hx:=xv hE2 (b:=w1.heap.size) (by omega) (.int .i64 o) (.int .i64 k) (.int .i64 s) (.int .i64 c) (.slice A n1 c1) (.slice B m1 e1);obtain⟨W3,hW3⟩:=Qg ((((((W2.setCell ⟨w1.heap.size,0,none⟩ (.int .i64 o)).setCell ⟨w1.heap.size,1,none⟩ (.int .i64 k)).setCell ⟨w1.heap.size,2,none⟩ (.int .i64 s)).setCell ⟨w1.heap.size,3,none⟩ (.int .i64 c)).setCell ⟨w1.heap.size,4,none⟩ (.slice A n1 c1)).setCell ⟨w1.heap.size,5,none⟩ (.slice B m1 e1));rw[hW3]at hx;have HX3:=hid (HE0.o.trans (hx1.trans hx));have HW3:=hid hW3;clear hx hW3 rf hE2 hx1
 go_wp2
 rw[HW3.o];refine bodyPost_end (results_none rfl _ _ _) rfl ?_;exact⟨rfl,HX3.o⟩
theorem mQ {d N n c qb:Nat}{wo w7:World}{T:Nat->Prop}{L:List (Int×Ty)}{f z:Int×Ty}{cs:List Value}{v:Value}(hN:wo.heap.size=N)(hT:∀b,T b->b<N)
  (ho:Qf (fdR (tyR d)) w7 (N+2) 59 (fun b=>T b\/N+2<=b) (.slice (some ⟨qb,0,none⟩) n c) (L ++ [z]))
  (hr:(fdR (tyR d)).rel w7 (fun b=>(T b\/N+2<=b)/\b≠qb) cs f) (hx:Ext wo w7)
  (b0:w7.cell? ⟨N,0,none⟩=some (.func (.func 98) #[] #[])) (b1:w7.cell? ⟨N+1,0,none⟩=some v) (b2:w7.frozen? ⟨N+1,0,none⟩=false):
  yD d wo T N (L ++ [f]) (.returned (.tuple #[])) ((setRow w7 qb (L.length * 6) cs).setCell ⟨N+1,0,none⟩ (.slice (some ⟨qb,0,none⟩) n c))/\
  yD d wo T N (L ++ [f]) (.returned (.tuple #[])) (setRow (w7.setCell ⟨N+1,0,none⟩ (.slice (some ⟨qb,0,none⟩) n c)) qb (L.length * 6) cs):=by
 have hn:n=(L ++ [f]).length:=by rw[ho.len];simp
 have hq:=(ho.block qb rfl).1;have e1:(L ++ [z]).set L.length f=L ++ [f]:=by simp
 subst hn;constructor
 ·have hput:=ho.put (k:=L.length) (e:=z) (e':=f) (cs:=cs) (by simp) hr;rw[ZJ,e1]at hput;have hfar:∀(b:Nat),b≠qb->(setRow w7 qb (L.length * 6) cs).heap[b]? =w7.heap[b]? :=fun b hb=>Go.Deco.setRow_heap _ w7 qb _ b hb;refine⟨rfl,some ⟨qb,0,none⟩,c, ?_,⟨?_, ?_, ?_⟩, ?_⟩
  ·exact hput.set_far (p:=⟨N+1,0,none⟩) (fun e=>by injection e with e;have:qb=N+1:=e;omega) (fun b hb=>by show b≠N+1;rcases hb with hb|hb;exact(by have:=hT b hb;omega);exact(by omega))
  ·rw[World.cell?_of_block (w:=setRow w7 qb (L.length * 6) cs) (a:=⟨N,0,none⟩) (Below.heap_setCell _ _ _ _ (by show N≠N+1;omega)),World.cell?_of_block (w:=w7) (a:=⟨N,0,none⟩) (hfar N (by omega))];exact b0
  ·have h:(setRow w7 qb (L.length * 6) cs).cell? ⟨N+1,0,none⟩=some v:=(World.cell?_of_block (w:=w7) (a:=⟨N+1,0,none⟩) (hfar (N+1) (by omega))).trans b1;simp[World.cell?_setCell_same,h]
  ·rw[World.frozen?_setCell,World.frozen?_of_block (w:=w7) (a:=⟨N+1,0,none⟩) (hfar (N+1) (by omega))];exact b2
  ·exact(Yf cs qb _ hx (by omega)).setCell (p:=⟨N+1,0,none⟩) (by show wo.heap.size<=N+1;omega) _
 ·have ho8:=ho.set_far (p:=⟨N+1,0,none⟩) (u:= .slice (some ⟨qb,0,none⟩) (L ++ [f]).length c) (fun e=>by injection e with e;have:qb=N+1:=e;omega) (fun b hb=>by show b≠N+1;rcases hb with hb|hb;exact(by have:=hT b hb;omega);exact(by omega));have hr8:=(fdR (tyR d)).keep (w':=w7.setCell ⟨N+1,0,none⟩ (.slice (some ⟨qb,0,none⟩) (L ++ [f]).length c)) (fun b hb _=>Below.heap_setCell _ _ _ _ (by show b≠N+1;rcases hb.1 with hb|hb;exact(by have:=hT b hb;omega);exact(by omega))) hr;have hput:=ho8.put (k:=L.length) (e:=z) (e':=f) (cs:=cs) (by simp) hr8;rw[ZJ,e1]at hput;have hfar:∀(w:World) (b:Nat),b≠qb->(setRow w qb (L.length * 6) cs).heap[b]? =w.heap[b]? :=fun w b hb=>Go.Deco.setRow_heap _ w qb _ b hb;refine⟨rfl,some ⟨qb,0,none⟩,c,hput,⟨?_, ?_, ?_⟩, ?_⟩
  ·rw[World.cell?_of_block (a:=⟨N,0,none⟩) (hfar _ N (by omega)),World.cell?_of_block (w:=w7) (a:=⟨N,0,none⟩) (Below.heap_setCell _ _ _ _ (by show N≠N+1;omega))];exact b0
  ·rw[World.cell?_of_block (a:=⟨N+1,0,none⟩) (hfar _ (N+1) (by omega))];simp[World.cell?_setCell_same,b1]
  ·rw[World.frozen?_of_block (a:=⟨N+1,0,none⟩) (hfar _ (N+1) (by omega)),World.frozen?_setCell];exact b2
  ·exact Yf cs qb _ (hx.setCell (p:=⟨N+1,0,none⟩) (by show wo.heap.size<=N+1;omega) _) (by omega)
theorem eZ (d N:Nat)(wo w:World)(T:Nat->Prop)(hN:wo.heap.size=N)(hT:∀b,T b->b<N)(AA:Option Addr)(kk cc:Nat)(L:List (Int×Ty))(hkk:L.length=kk)(hb:J8 N w AA kk cc)
  (hown:Qf (fdR (tyR (d+1))) w (N+2) 59 (fun b=>T b\/N+2<=b) (.slice AA kk cc) L) (hx:Ext wo w) (hl:kk<=70000)
  (o k s c:Int) (A B:Option Addr) (n1 c1 m1 e1 g q:Nat) (f:Int×Ty)
  (hp:∀w',Ext w w'->Calls Tryz.prog 98 #[.agg #[.int .i64 o,.int .i64 k,.int .i64 s,.int .i64 c,.slice A n1 c1,.slice B m1 e1],.pointer (some ⟨g,q,none⟩)] w' (nB d w' T f)):
  Calls Tryz.prog 113 #[.agg #[.int .i64 o,.int .i64 k,.int .i64 s,.int .i64 c,.slice A n1 c1,.slice B m1 e1],.pointer (some ⟨g,q,none⟩),.pointer (some ⟨N,0,none⟩),.pointer (some ⟨N+1,0,none⟩)] w
   (yD (d+1) wo T N (L ++ [f])):=by
 have HB:=hid hb;have HKK:=hid hkk;have HN:=hid hN;have HT:=hid hT;have HOWN:=hid hown;have HXO:=hid hx;have HGB:Hid (N+2<=w.heap.size):=hid (by have h:N+1<w.heap.size:=World.block_lt_of_cell? _ _ hb.2.1;omega);obtain⟨j0,hj0,hjz0,hjz1,hjz2⟩:=info_parts qX;have HJ:=hid hj0;have HJ0:=hid hjz0;have HJ1:=hid hjz1;have HJ2:=hid hjz2;obtain⟨b0, -, -⟩:=hb;obtain⟨W0,hW0⟩:=Qg ((w.alloc (.cells #[.int .i64 o,.int .i64 k,.int .i64 s,.int .i64 c,.slice A n1 c1,.slice B m1 e1] 59)));have HE0:Hid (Ext w W0):=hid (by rw[<-hW0];exact(Ext.refl w).alloc _);have hB:Z9 W0 w.heap.size (.int .i64 o) (.int .i64 k) (.int .i64 s) (.int .i64 c) (.slice A n1 c1) (.slice B m1 e1):=by rw[<-hW0];exact(Z9.new w _ _ _ _ _ _ _)
 obtain⟨q0,q1,q2,q3,q4,q5,qf⟩:=hB;have b0:=HE0.o.c b0;have hen:=fP;have HP:=hid (hp W0 HE0.o);obtain⟨fo,ft⟩:=f;clear qf hj0 hjz0 hjz1 hjz2 hkk hN hT hown hx hp;go_enter Tryz.func113,Tryz.ntmps113
 go_wp2_with fail
 refine(HP.o).mono ?_;rintro e w1 ⟨_,rfl,⟨A5,n5,c5,B5,m5,e5,rfl,hi5,hv5⟩,hx1⟩;have hc:=Z9.new w1 (.int .i64 0) (.int .i64 0) (.int .i64 0) (.int .i64 0) (.slice none 0 0) (.slice none 0 0) 59;obtain⟨W2,hW2⟩:=Qg (w1.alloc (.cells #[.int .i64 0,.int .i64 0,.int .i64 0,.int .i64 0,.slice none 0 0,.slice none 0 0] 59));have hE2:Ext w1 W2:=by rw[<-hW2];exact(Ext.refl w1).alloc _
 rw[hW2]at hc;obtain⟨r0,r1,r2,r3,r4,r5,rf⟩:=hc;have u0:=rf 0;have u1:=rf 1;have u2:=rf 2;have u3:=rf 3;have u4:=rf 4;have u5:=rf 5;have hx:=xv hE2 (b:=w1.heap.size) (by omega) (.int .i64 fo) (.int .i64 ft.kind) (.int .i64 ft.size) (.int .i64 ft.count) (.slice A5 n5 c5) (.slice B5 m5 e5);have hcc:=jv r0 r1 r2 r3 r4 r5 (.int .i64 fo) (.int .i64 ft.kind) (.int .i64 ft.size) (.int .i64 ft.count) (.slice A5 n5 c5) (.slice B5 m5 e5);obtain⟨V,hV⟩:=Qg ((((((W2.setCell ⟨w1.heap.size,0,none⟩ (.int .i64 fo)).setCell ⟨w1.heap.size,1,none⟩ (.int .i64 ft.kind)).setCell ⟨w1.heap.size,2,none⟩ (.int .i64 ft.size)).setCell ⟨w1.heap.size,3,none⟩ (.int .i64 ft.count)).setCell ⟨w1.heap.size,4,none⟩ (.slice A5 n5 c5)).setCell ⟨w1.heap.size,5,none⟩ (.slice B5 m5 e5));rw[hV]at hx hcc;have HXV:=hid (HE0.o.trans (hx1.trans hx));have HX1V:=hid hx;have HV:=hid hV
 have hrel:(fdR (tyR (d+1))).rel V (fun b=>(T b\/N+2<=b)/\b<V.heap.size/\(Value.slice AA kk cc).ownBlock≠some b) [.int .i64 fo,.int .i64 ft.kind,.int .i64 ft.size,.int .i64 ft.count,.slice A5 n5 c5,.slice B5 m5 e5] (fo,ft):=by
  have h1:(fdR (tyR (d+1))).rel w1 (fun b=>T b\/W0.heap.size<=b) [.int .i64 fo,.int .i64 ft.kind,.int .i64 ft.size,.int .i64 ft.count,.slice A5 n5 c5,.slice B5 m5 e5] (fo,ft):=VG.2 ⟨A5,n5,c5,B5,m5,e5,rfl,hi5,hv5⟩;refine(fdR (tyR (d+1))).mono (fun b hb hi=>⟨?_,hi.lt,fun e=>?_⟩) ((fdR (tyR (d+1))).ext hx h1)
  ·rcases hb with hb|hb
   ·exact .inl hb
   ·have:=HE0.o.size;have:=HGB.o;exact .inr (by omega)
  ·have h2:=HOWN.o.block b e;rcases hb with hb|hb
   ·have:=HT.o b hb;omega
   ·have:=HE0.o.size;omega
 have HREL:=hid hrel;have HBV:=hid (HB.o.ext (HE0.o.trans (hx1.trans hx)));have HOV:=hid (HOWN.o.ext (HE0.o.trans (hx1.trans hx)));clear hx hV rf hE2 hx1 hrel hi5 hv5;go_upto_region 3 with fail
 rw[HV.o];obtain⟨t0,t1,t2,t3,t4,t5⟩:=hcc;clear r0 r1 r2 r3 r4 r5 u0 u1 u2 u3 u4 u5 q0 q1 q2 q3 q4 q5 b0 hW0 hW2;have oc:=HBV.o.2.1
 have HZF:Hid (∀(W:World) (S:Nat->Prop),(fdR (tyR (d+1))).rel W S [.int .i64 0,.int .i64 0,.int .i64 0,.int .i64 0,.slice none 0 0,.slice none 0 0] (0,Ty.mk 0 0 0 [] [])):=hid (fun W S=>by
  exact VG.2 ⟨none,0,0,none,0,0,rfl,by show Qy 0;unfold Qy;omega,J1 d W S 0 0 (by unfold Qy;omega) (by unfold Qy;omega)⟩)
 go_wp2_with fail
 have HXg1q_0:=hid ((Ext.refl V).drew);refine sy 4 (fun w'=>w'.cell? ⟨N+1,0,none⟩=some (.slice AA kk cc)/\w'.cell? ⟨w1.heap.size,0,none⟩=some (.int .i64 fo)/\w'.cell? ⟨w1.heap.size,1,none⟩=some (.int .i64 ft.kind)/\w'.cell? ⟨w1.heap.size,2,none⟩=some (.int .i64 ft.size)/\w'.cell? ⟨w1.heap.size,3,none⟩=some (.int .i64 ft.count)/\w'.cell? ⟨w1.heap.size,4,none⟩=some (.slice A5 n5 c5)/\w'.cell? ⟨w1.heap.size,5,none⟩=some (.slice B5 m5 e5)) (by kernel_rfl) ⟨oc,t0,t1,t2,t3,t4,t5⟩ (fun hSg1q0=>?_);refine vY (i:=0) (v:=?g1qv0x1) rfl (by kernel_rfl) (by kernel_rfl) (by kernel_rfl) (by kernel_rfl) (by kernel_rfl) (fun _ _ _ h=>h) (Or.inl ⟨by rfl, ?g1qy0x1⟩) hSg1q0 ?g1qr0x1
 case g1qy0x1=>first|(intro w hSw;(try dsimp only at hSw);go_simp;done)|(intro w hSw;(try dsimp only at hSw);go_simp;with_reducible rfl)
 case' g1qr0x1=>try simp only[Act.put,List.setIfInBounds_toArray,List.set_cons_zero,List.set_cons_succ]
 refine vY (i:=1) (v:=?g1qv1x2) rfl (by kernel_rfl) (by kernel_rfl) (by kernel_rfl) (by kernel_rfl) (by kernel_rfl) (fun _ _ _ h=>h) (Or.inl ⟨by rfl, ?g1qy1x2⟩) hSg1q0 ?g1qr1x2
 case g1qy1x2=>first|(intro w hSw;(try dsimp only at hSw);go_simp;done)|(intro w hSw;(try dsimp only at hSw);go_simp;with_reducible rfl)
 case' g1qr1x2=>try simp only[Act.put,List.setIfInBounds_toArray,List.set_cons_zero,List.set_cons_succ]
 refine vY (i:=2) (v:=?g1qv2x3) rfl (by kernel_rfl) (by kernel_rfl) (by kernel_rfl) (by kernel_rfl) (by kernel_rfl) (fun _ _ _ h=>h) (Or.inl ⟨by rfl, ?g1qy2x3⟩) hSg1q0 ?g1qr2x3
 case g1qy2x3=>first|(intro w hSw;(try dsimp only at hSw);go_simp;done)|(intro w hSw;(try dsimp only at hSw);go_simp;with_reducible rfl)
 case' g1qr2x3=>try simp only[Act.put,List.setIfInBounds_toArray,List.set_cons_zero,List.set_cons_succ]
 refine jp (k:=3) (by kernel_rfl) rfl (fun K hK=>?_);go_simp;refine hK.out _ _ (fun _=>⟨((Ext.refl V).drew.alloc _).cell oc,((Ext.refl V).drew.alloc _).cell t0,((Ext.refl V).drew.alloc _).cell t1,((Ext.refl V).drew.alloc _).cell t2,((Ext.refl V).drew.alloc _).cell t3,((Ext.refl V).drew.alloc _).cell t4,((Ext.refl V).drew.alloc _).cell t5⟩) ?_;clear hK K
 try simp only[Act.put,List.setIfInBounds_toArray,List.set_cons_zero,List.set_cons_succ]
 refine jp (k:=4) (by kernel_rfl) rfl (fun K hK=>?_);refine zp rfl (.tmp 16) (.tmp 19) 40 rfl (N+2) 59 j0 _ 6 80 Tryz.underlying40 HJ.o HJ0.o HJ1.o HJ2.o rfl (fdR (tyR (d+1))) (ZJ _) (.slice AA kk cc) L rfl HOV.o.dr (0,Ty.mk 0 0 0 [] []) rfl (HZF.o _ _) (by have:=HKK.o;omega) (by have:=HKK.o;omega) (by exact Nat.le_trans HGB.o HXV.o.size) ?_;intro A7 c7 w7 hown7 hg7 hloc7;rw[HKK.o]at hown7 hloc7;have HO7:=hid hown7;have HN7:=hid (fun(b:Nat) (h1:b<V.heap.size) (h2:(Value.slice AA kk cc).ownBlock≠some b)=>(hg7.block b (by simp;omega) (fun e=>h2 e.symm)).trans (((Ext.refl V).drew.alloc (.cells #[.int .i64 0,.int .i64 0,.int .i64 0,.int .i64 0,.slice none 0 0,.slice none 0 0] 59)).block h1));have HE7:=hid (HN7.o (N+1) (World.block_lt_of_cell? _ _ oc) (fun e=>by have:=(HOV.o.block _ e).1;omega));have HF7:=hid (HN7.o N (World.block_lt_of_cell? _ _ HBV.o.1) (fun e=>by have:=(HOV.o.block _ e).1;omega));have HX7:=hid ((((HXO.o.trans HXV.o).drew).alloc (.cells #[.int .i64 0,.int .i64 0,.int .i64 0,.int .i64 0,.slice none 0 0,.slice none 0 0] 59)).grown hg7 (fun k hk=>by have:=(HOV.o.block k hk).1;have:=HN.o;omega));obtain⟨qb,hqb,hqb1,hqb2⟩:=HO7.o.at0 (by omega);subst hqb;obtain⟨zs,hzr,hzc⟩:=HO7.o.cells (k:=kk) (e:=(0,Ty.mk 0 0 0 [] [])) (by rw[<-HKK.o];simp);rw[show(fdR (tyR (d+1))).size=6 from ZJ (d+1)]at hzc;obtain⟨zx,rfl⟩:=aD hzr;obtain⟨z0,y0⟩:=hzc 0 _ rfl;obtain⟨z1,y1⟩:=hzc 1 _ rfl;obtain⟨z2,y2⟩:=hzc 2 _ rfl;obtain⟨z3,y3⟩:=hzc 3 _ rfl;obtain⟨z4,y4⟩:=hzc 4 _ rfl;obtain⟨z5,y5⟩:=hzc 5 _ rfl;rw[Nat.add_zero]at z0 y0;have hqo:qb≠N+1:=(by omega);have hoq:N+1≠qb:=fun e=>hqo e.symm;have HREL7:Hid ((fdR (tyR (d+1))).rel w7 (fun b=>(T b\/N+2<=b)/\b≠qb) [.int .i64 fo,.int .i64 ft.kind,.int .i64 ft.size,.int .i64 ft.count,.slice A5 n5 c5,.slice B5 m5 e5] (fo,ft)):=hid ((fdR (tyR (d+1))).mono (fun b hb hi=>⟨hb.1,fun e=>by rcases hloc7 with h|h;exact hb.2.2 (by rw[e];exact h.symm);have h4:V.drew.heap.size=V.heap.size:=rfl;have:=hb.2.1;have:=h qb rfl;omega⟩) ((fdR (tyR (d+1))).keep (fun b hb _=>HN7.o b hb.2.1 hb.2.2) HREL.o));have k1:(0:Int)<=(kk:Int):=by omega
 have k2:(kk:Int)<((kk+1:Nat):Int):=by omega
 have k3:(kk:Int)<(kk:Int)+1:=by omega
 have bo:=(World.cell?_of_block HE7.o).trans oc;have bf:=(World.frozen?_of_block (a:=⟨N+1,0,none⟩) HE7.o).trans HBV.o.2.2;have HB0:=hid ((World.cell?_of_block HF7.o).trans HBV.o.1);have HB1:=hid bo;have HB2:=hid bf;clear hown7 hg7 hloc7 hzr hzc hqb1 hqb2;rw[HKK.o];refine hK.out _ _ (fun h=>absurd (show true=false from h) (by simp)) ?_;clear hK K
 try simp only[Act.put,List.setIfInBounds_toArray,List.set_cons_zero,List.set_cons_succ]
 refine sD (i:=5) (v:=?g1qv5x4) rfl (by kernel_rfl) (by kernel_rfl) (by kernel_rfl) (by decide) (fun _ _ _ h=>h) (Or.inl ⟨by rfl, ?g1qy5x4⟩) (fun h=>absurd (show true=false from h) (by simp)) ?g1qr5x4
 case g1qy5x4=>first|(intro w hSw;(try dsimp only at hSw);go_simp;done)|(intro w hSw;(try dsimp only at hSw);go_simp;with_reducible rfl)
 case' g1qr5x4=>try simp only[Act.put,List.setIfInBounds_toArray,List.set_cons_zero,List.set_cons_succ]
 refine l6 (k:=6) (m:=7) (by kernel_rfl) rfl rfl (fun K hK=>?g1qb6x5) (fun K hK=>?g1qb7x5)
 case' g1qb6x5=>
  go_simp;refine hK.out _ _ (fun h=>absurd (show true=false from h) (by simp)) ?_;clear hK K
  try simp only[Act.put,List.setIfInBounds_toArray,List.set_cons_zero,List.set_cons_succ]
  refine jp (k:=7) (by kernel_rfl) rfl (fun K hK=>?_);go_simp;refine hK.out _ _ (fun h=>absurd (show true=false from h) (by simp)) ?_;clear hK K
  try simp only[Act.put,List.setIfInBounds_toArray,List.set_cons_zero,List.set_cons_succ]
  refine fJ (by kernel_rfl) ?_ _;have hm:=(mQ HN.o HT.o HO7.o HREL7.o HX7.o HB0.o HB1.o HB2.o).1;obtain⟨W9,hW9⟩:=Qg ((setRow w7 qb (kk * 6) [.int .i64 fo,.int .i64 ft.kind,.int .i64 ft.size,.int .i64 ft.count,.slice A5 n5 c5,.slice B5 m5 e5]).setCell ⟨N+1,0,none⟩ (.slice (some ⟨qb,0,none⟩) (kk+1) c7));have hN:((((((w7.setCell ⟨qb,kk * 6,none⟩ (.int .i64 fo)).setCell ⟨qb,kk * 6+1,none⟩ (.int .i64 ft.kind)).setCell ⟨qb,kk * 6+2,none⟩ (.int .i64 ft.size)).setCell ⟨qb,kk * 6+3,none⟩ (.int .i64 ft.count)).setCell ⟨qb,kk * 6+4,none⟩ (.slice A5 n5 c5)).setCell ⟨qb,kk * 6+5,none⟩ (.slice B5 m5 e5)).setCell ⟨N+1,0,none⟩ (.slice (some ⟨qb,0,none⟩) (kk+1) c7)=W9:=hW9;rw[HKK.o,hW9]at hm;rw[hN];refine bodyPost_end (results_none rfl _ _ _) rfl ?_;exact hm
 case' g1qb7x5=>
  go_simp;refine hK.out _ _ (fun h=>absurd (show true=false from h) (by simp)) ?_;clear hK K
  try simp only[Act.put,List.setIfInBounds_toArray,List.set_cons_zero,List.set_cons_succ]
  refine jp (k:=6) (by kernel_rfl) rfl (fun K hK=>?_);go_simp;refine hK.out _ _ (fun h=>absurd (show true=false from h) (by simp)) ?_;clear hK K
  try simp only[Act.put,List.setIfInBounds_toArray,List.set_cons_zero,List.set_cons_succ]
  refine fJ (by kernel_rfl) ?_ _;have hm:=(mQ HN.o HT.o HO7.o HREL7.o HX7.o HB0.o HB1.o HB2.o).2;obtain⟨W9,hW9⟩:=Qg (setRow (w7.setCell ⟨N+1,0,none⟩ (.slice (some ⟨qb,0,none⟩) (kk+1) c7)) qb (kk * 6) [.int .i64 fo,.int .i64 ft.kind,.int .i64 ft.size,.int .i64 ft.count,.slice A5 n5 c5,.slice B5 m5 e5]);have hN:((((((w7.setCell ⟨N+1,0,none⟩ (.slice (some ⟨qb,0,none⟩) (kk+1) c7)).setCell ⟨qb,kk * 6,none⟩ (.int .i64 fo)).setCell ⟨qb,kk * 6+1,none⟩ (.int .i64 ft.kind)).setCell ⟨qb,kk * 6+2,none⟩ (.int .i64 ft.size)).setCell ⟨qb,kk * 6+3,none⟩ (.int .i64 ft.count)).setCell ⟨qb,kk * 6+4,none⟩ (.slice A5 n5 c5)).setCell ⟨qb,kk * 6+5,none⟩ (.slice B5 m5 e5)=W9:=hW9;rw[HKK.o,hW9]at hm;rw[hN];refine bodyPost_end (results_none rfl _ _ _) rfl ?_;exact hm
def FW (t:Ty):Prop:=Qd t=true/\wiT t=true
def yM (d:Nat):Prop:=∀(w:World) (S:Nat->Prop) (a b:Ty) (va vb:Value),TyV d w S va a->TyV d w S vb b->FW a->FW b->Calls Tryz.prog 71 #[va,vb] w (qY d w S (QX a b))
def D8 (d:Nat)(w:World)(S:Nat->Prop)(L:List (Int×Ty))(e:Ending)(w':World):Prop:=
 ∃A c,e= .returned (.slice A L.length c)/\Sl (fdR (tyR (d+1))) w' (fun b=>S b\/w.heap.size<=b) (.slice A L.length c) L/\Ext w w'
theorem G7 {d:Nat}{w:World}{T:Nat->Prop}{g q n c:Nat}{x:Int×Ty}{l:List (Int×Ty)}(h:Sl (fdR (tyR d)) w T (.slice (some ⟨g,q,none⟩) n c) (x :: l)):Sl (fdR (tyR d)) w T (.slice (some ⟨g,q+6,none⟩) (n - 1) (c - 1)) l:=by
 have hn:=h.len;have h2:=h.sub (i:=1) (j:=n) (by rw[hn];simp) (Nat.le_refl _);rw[ZJ,Nat.one_mul]at h2
 rwa [List.drop_one,List.tail_cons,Qj (by rw[hn];simp)]at h2
theorem qJ {d:Nat}{w:World}{T:Nat->Prop}{g q n c:Nat}{x:Int×Ty}{l:List (Int×Ty)}(h:Sl (fdR (tyR d)) w T (.slice (some ⟨g,q,none⟩) n c) (x :: l)):
  Sl (fdR (tyR d)) w T (.slice (if c=1 then some ⟨g,q,none⟩ else some ⟨g,q+6,none⟩) (n - 1) (c - 1)) l:=by
 have hn:=h.len;have hc:=h.cap
 split
 ·have hl:l=[]:=by
   cases l with
   |nil=>rfl
   |cons y l=>simp at hn;omega
  subst hl;simp at hn;subst hn;subst c;exact⟨_,0,rfl,by simp,by simp[maxLen],by simp,fun h=>absurd rfl h⟩
 ·exact G7 h
def Y5:Value->Nat
 | .slice _ n _=>n
 |_=>0
theorem mc (d:Nat) (w:World) (S:Nat->Prop) (A B:Option Addr) (n c m e:Nat) (l r:List (Int×Ty)) (hl:Sl (fdR (tyR (d+1))) w S (.slice A n c) l) (hr:Sl (fdR (tyR (d+1))) w S (.slice B m e) r)
  (hal:Zb l) (har:Zb r) (hfl:∀f∈l,FW f.2/\yM d) (hfr:∀f∈r,FW f.2) (hn:n<=65536):
  Calls Tryz.prog 96 #[.slice A n c,.slice B m e,.func (.func 97) #[] #[],.func (.func 98) #[] #[]] w (D8 d w S (QC l r)):=by
 obtain⟨J,hJJ⟩:=Qg (QC l r);rw[hJJ];obtain⟨T,hT⟩:∃T:Nat->Prop,(fun b=>S b/\b<w.heap.size)=T:=⟨_,rfl⟩;have hl2:Sl (fdR (tyR (d+1))) w T (.slice A n c) l:=by rw[<-hT];exact hl.mono fun b hb hi=>⟨hb,hi.lt⟩
 have hr2:Sl (fdR (tyR (d+1))) w T (.slice B m e) r:=by rw[<-hT];exact hr.mono fun b hb hi=>⟨hb,hi.lt⟩
 have HTS:Hid (∀b,T b->S b):=hid (fun b hb=>by rw[<-hT]at hb;exact hb.1);have HTL:Hid (∀b,T b->b<w.heap.size):=hid (fun b hb=>by rw[<-hT]at hb;exact hb.2);obtain⟨W0,hW0⟩:=Qg ((w.alloc (.cells #[.func (.func 98) #[] #[]] 124)).alloc (.cells #[.slice none 0 0] 40));have hE0:Ext w W0:=by rw[<-hW0];exact((Ext.refl w).alloc _).alloc _
 have hb0:J8 w.heap.size W0 none 0 0:=by
  rw[<-hW0];exact⟨by simp[go_sem],by simp[go_sem],by simp[go_sem]⟩
 have HLR:=hid (And.intro hl2 hr2);have HAS:=hid (And.intro hal har);have HFW:=hid (And.intro hfl hfr);have HJJ:=hid hJJ;have HE0:=hid hE0;have HMB:=hid hb0;obtain⟨i0,hi0,hz0,hz1,hz2⟩:=info_parts qX;have HI:=hid hi0;have HZ1:=hid hz1;clear hi0 hz0 hz1 hz2;have HNB:Hid (l.length<=65536):=hid (by have:=hl.len;omega);have c1:=hb0.2.1;have hen1:=tD;have hen2:=oQ;clear hl hr hl2 hr2 hal har hfl hfr hJJ hE0 hb0 hT hn;go_enter Tryz.func96,Tryz.ntmps96
 go_wp2_with fail
 clear c1 hW0
 go_loopw [0,1] (fun s0 s1 wr=>∃(A:Option Addr) (n c:Nat) (B:Option Addr) (m e:Nat) (l' r' L:List (Int×Ty)) (AA:Option Addr) (k cc:Nat),s0= .slice A n c/\s1= .slice B m e/\
  Hid (Sl (fdR (tyR (d+1))) w T (.slice A n c) l'/\Sl (fdR (tyR (d+1))) w T (.slice B m e) r')/\Hid (Zb l'/\Zb r')/\Hid ((∀f∈l',FW f.2/\yM d)/\∀f∈r',FW f.2)/\Hid (L ++ QC l' r'=J)/\Hid (L.length=k)/\Hid (k+l'.length<=65536)/\
  Hid (Qf (fdR (tyR (d+1))) wr (w.heap.size+2) 59 (fun b=>T b\/w.heap.size+2<=b) (.slice AA k cc) L)/\Hid (J8 w.heap.size wr AA k cc)/\Hid (Ext w wr)) (fun s0 s1 _=>Y5 s0+Y5 s1)
 case atStart=>exact⟨A,n,c,B,m,e,l,r,[],none,0,0,rfl,rfl,HLR,HAS,HFW,hid (by rw[HJJ.o];rfl),hid rfl,hid (by have:=HNB.o;omega),hid Qf.nil,HMB,HE0⟩
 case round=>
  obtain⟨A,n,c,B,m,e,l',r',L,AA,k,cc,rfl,rfl,HLR,HAS,HFW,HJJ,HKL,HKN,HO,HB,HX⟩:=hrel;obtain⟨hnc,hcm⟩:=HLR.o.1.cap;obtain⟨hme,hem⟩:=HLR.o.2.cap;have b1:=HB.o.2.1;have HCAP:=hid (And.intro (And.intro hnc hcm) (And.intro hme hem))
  cases l' with
  | nil=>
   obtain rfl:n=0:=HLR.o.1.len
   cases r' with
   |nil=>
    obtain rfl:m=0:=HLR.o.2.len;clear hnc hcm hme hem
    go_wp2
    go_ret;have hL:L=J:=by have:=HJJ.o;simpa [QC] using this
    have hk:k=J.length:=by rw[<-hL];exact HKL.o.symm
    have ho:=HO.o;rw[hL,hk]at ho;exact⟨AA,cc,by rw[hk];rfl,ho.slT (fun b hb=>by rcases hb with hb|hb;exact .inl (HTS.o b hb);exact .inr (by omega)) (fun b hb=> .inr (by have:=(ho.block b hb).1;omega)),HX.o⟩
   | cons y r'=>
    have hm:m=r'.length+1:=HLR.o.2.len;obtain⟨yo,yt⟩:=y;obtain⟨d2,g2,q2,A2,n2,c2,B2,m2,e2,hd2,rfl,hv2,hi2,y0,y1,y2,y3,y4,y5⟩:=HLR.o.2.fd_at (k:=0) rfl;obtain rfl:d=d2:=by omega
    rw[Nat.zero_mul,Nat.add_zero]at y0 y1 y2 y3 y4 y5;have HW2:=hid (⟨y0,y1,y2,y3,y4,y5⟩:_/\_/\_/\_/\_/\_);have y0:=HX.o.c y0;have y1:=HX.o.c y1;have y2:=HX.o.c y2;have y3:=HX.o.c y3;have y4:=HX.o.c y4;have y5:=HX.o.c y5;have HV2:=hid hv2;have HI2:=hid hi2;clear hd2 hv2 hi2;have i21:(0:Int)<(m:Int):=by omega
    have i22:((m:Int) == 0)=false:=by simp;omega
    have i23:(m:Int) > 0:=by omega
    have HM:=hid hm;clear hm
    go_wp2_with fail
    refine wp_region_held_drew (S:=(fun _=>True)) (by kernel_rfl) trivial (fun hSg1q0=>?_);refine Qp 0 1 2 3 4 5 ?_;refine QJ 6 7 ?_;refine Qc 8 9 10 11 ?_;refine ZM 12 13 ?_;refine rgU 14 ?_;refine rgC 15 (fun K hK=>?_);refine cast (if_neg (fun h=>Bool.noConfusion (show false=true from h))).symm ?_;refine rgK hK (by assumption) (fun hSg1q1=>?_);clear hK K;refine rgU 16 ?_;refine Zd 17 18 19 ?_;refine wpAnyH_done (by kernel_rfl) ?_ _
    go_wp2_with fail
    refine wp_region_held_drew (S:=(fun _=>True)) (by kernel_rfl) trivial (fun hSg2q0=>?_);refine QB 0 1 2 3 ?_;refine Qc 4 5 6 7 ?_;refine ZM 8 9 ?_;refine rgU 10 ?_;refine rgC 11 (fun K hK=>?_);refine cast (if_neg (fun h=>Bool.noConfusion (show false=true from h))).symm ?_;refine rgK hK (by assumption) (fun hSg2q1=>?_);clear hK K;refine rgU 12 ?_;refine QJ 13 14 ?_;refine wpAnyH_done (by kernel_rfl) ?_ _
    go_wp2_with fail
    refine(jY w.heap.size _ AA k cc (HB.o.ext (Ext.refl wr).drew.drew) yo yt.kind yt.size yt.count A2 B2 n2 c2 m2 e2).mono ?_;rintro e w5 ⟨rfl,hx5⟩;have HX5:=hid ((Ext.refl wr).drew.drew.trans hx5);clear hx5
    go_wp2
    first
     |go_roundw
     |refine⟨?rel, ?measure⟩
    case rel=>exact⟨A,0,c,_,m - 1,_,[],r',L,AA,k,cc,rfl,rfl,hid ⟨HLR.o.1,qJ HLR.o.2⟩,hid ⟨HAS.o.1,HAS.o.2.tail⟩,hid ⟨HFW.o.1,fun f hf=>HFW.o.2 f (List.mem_cons_of_mem _ hf)⟩,hid (by rw[<-HJJ.o];rfl),HKL,HKN,hid (HO.o.ext HX5.o),hid (HB.o.ext HX5.o),hid (HX.o.trans HX5.o)⟩
    case measure=>simp [Y5];have:=HM.o;omega
  | cons x l'=>
   have hn:n=l'.length+1:=HLR.o.1.len;obtain⟨xo,xt⟩:=x;obtain⟨d2,g1,q1,A1,n1,c1,B1,m1,e1,hd2,rfl,hv1,hi1,x0,x1,x2,x3,x4,x5⟩:=HLR.o.1.fd_at (k:=0) rfl;obtain rfl:d=d2:=by omega
   rw[Nat.zero_mul,Nat.add_zero]at x0 x1 x2 x3 x4 x5;have HW1:=hid (⟨x0,x1,x2,x3,x4,x5⟩:_/\_/\_/\_/\_/\_);have x0:=HX.o.c x0;have x1:=HX.o.c x1;have x2:=HX.o.c x2;have x3:=HX.o.c x3;have x4:=HX.o.c x4;have x5:=HX.o.c x5;have HV1:=hid hv1;have HI1:=hid hi1;clear hd2 hv1 hi1;have i11:(0:Int)<(n:Int):=by omega
   have i12:((n:Int) == 0)=false:=by simp;omega
   have i13:(n:Int) > 0:=by omega
   have i14:0<n:=by omega
   have i15:decide (0<n)=true:=Qv (by omega);have HN:=hid hn;clear hn
   cases r' with
   | nil=>
    obtain rfl:m=0:=HLR.o.2.len
    go_wp2_with fail
    refine wp_region_held_drew (S:=(fun _=>True)) (by kernel_rfl) trivial (fun hSg3q0=>?_);refine QB 0 1 2 3 ?_;refine Qc 4 5 6 7 ?_;refine Qc 8 9 10 11 ?_;refine ZM 12 13 ?_;refine rgU 14 ?_;refine rgC 15 (fun K hK=>?_);refine cast (if_neg (fun h=>Bool.noConfusion (show false=true from h))).symm ?_;refine rgK hK (by assumption) (fun hSg3q1=>?_);clear hK K;refine ZM 16 17 ?_;refine QJ 18 19 ?_;refine wpAnyH_done (by kernel_rfl) ?_ _
    go_wp2_with fail
    refine(jY w.heap.size _ AA k cc (HB.o.ext (Ext.refl wr).drew) xo xt.kind xt.size xt.count A1 B1 n1 c1 m1 e1).mono ?_;rintro e w5 ⟨rfl,hx5⟩;have HX5:=hid ((Ext.refl wr).drew.trans hx5);clear hx5
    go_wp2
    first
     |go_roundw
     |refine⟨?rel, ?measure⟩
    case rel=>exact⟨_,n - 1,_,B,0,e,l',[],L,AA,k,cc,rfl,rfl,hid ⟨qJ HLR.o.1,HLR.o.2⟩,hid ⟨HAS.o.1.tail,HAS.o.2⟩,hid ⟨fun f hf=>HFW.o.1 f (List.mem_cons_of_mem _ hf),HFW.o.2⟩,hid (by rw[<-HJJ.o,jX,jX]),HKL,hid (by have:=HKN.o;simp at this;omega),hid (HO.o.ext HX5.o),hid (HB.o.ext HX5.o),hid (HX.o.trans HX5.o)⟩
    case measure=>simp [Y5];have:=HN.o;omega
   | cons y r'=>
    have hm:m=r'.length+1:=HLR.o.2.len;obtain⟨yo,yt⟩:=y;obtain⟨d2,g2,q2,A2,n2,c2,B2,m2,e2,hd2,rfl,hv2,hi2,y0,y1,y2,y3,y4,y5⟩:=HLR.o.2.fd_at (k:=0) rfl;obtain rfl:d=d2:=by omega
    rw[Nat.zero_mul,Nat.add_zero]at y0 y1 y2 y3 y4 y5;have HW2:=hid (⟨y0,y1,y2,y3,y4,y5⟩:_/\_/\_/\_/\_/\_);have y0:=HX.o.c y0;have y1:=HX.o.c y1;have y2:=HX.o.c y2;have y3:=HX.o.c y3;have y4:=HX.o.c y4;have y5:=HX.o.c y5;have HV2:=hid hv2;have HI2:=hid hi2;clear hd2 hv2 hi2;have i21:(0:Int)<(m:Int):=by omega
    have i22:((m:Int) == 0)=false:=by simp;omega
    have i23:(m:Int) > 0:=by omega
    have i24:0<m:=by omega
    have HM:=hid hm;clear hm;obtain⟨z,hz⟩:=Qg (Y0 xo yo);have HC:=hid (fun w'=>od w' xo xt.kind xt.size xt.count yo yt.kind yt.size yt.count A1 B1 A2 B2 n1 c1 m1 e1 n2 c2 m2 e2);rw[hz]at HC;unfold Y0 at hz;unfold gj at HC;by_cases h1:xo<yo
    ·obtain rfl:z= -1:=by rw[<-hz,if_pos h1]
     clear hz
     go_wp2_with fail
     refine rgH (Ext.hc12 x0 x1 x2 x3 x4 x5 y0 y1 y2 y3 y4 y5) (Ext.refl _).drew (fun hSg4q0=>?_);refine Qp 0 1 2 3 4 5 ?_;refine Qp 6 7 8 9 10 11 ?_;refine Zd 12 13 14 ?_;refine rgC 15 (fun K hK=>?_);go_simp;refine(HC.o _).mono ?_;rintro e w5 ⟨rfl,hx5⟩;have HXE:=hid hx5.drew_left;clear hx5;refine rgK hK ⟨HXE.o.c x0,HXE.o.c x1,HXE.o.c x2,HXE.o.c x3,HXE.o.c x4,HXE.o.c x5,HXE.o.c y0,HXE.o.c y1,HXE.o.c y2,HXE.o.c y3,HXE.o.c y4,HXE.o.c y5⟩ (fun hSg4q1=>?_);clear hK K;refine QB 16 17 18 19 ?_;refine wpAnyH_done (by kernel_rfl) ?_ _
     go_wp2_with fail
     refine(jY w.heap.size _ AA k cc (HB.o.ext HXE.o) xo xt.kind xt.size xt.count A1 B1 n1 c1 m1 e1).mono ?_;rintro e w6 ⟨rfl,hx6⟩;have HX6:=hid (HXE.o.trans hx6);clear hx6
     go_wp2
     first
      |go_roundw
      |refine⟨?rel, ?measure⟩
     case rel=>exact⟨_,n - 1,_,_,m,_,l',(yo,yt) :: r',L,AA,k,cc,rfl,rfl,hid ⟨qJ HLR.o.1,HLR.o.2⟩,hid ⟨HAS.o.1.tail,HAS.o.2⟩,hid ⟨fun f hf=>HFW.o.1 f (List.mem_cons_of_mem _ hf),HFW.o.2⟩,hid (by rw[<-HJJ.o,cy h1 HAS.o.2]),HKL,hid (by have:=HKN.o;simp at this;omega),hid (HO.o.ext HX6.o),hid (HB.o.ext HX6.o),hid (HX.o.trans HX6.o)⟩
     case measure=>simp [Y5];have:=HN.o;omega
    ·by_cases h2:yo<xo
     ·obtain rfl:z=1:=by rw[<-hz,if_neg h1,if_pos h2]
      clear hz
      go_wp2_with fail
      refine rgH (Ext.hc12 x0 x1 x2 x3 x4 x5 y0 y1 y2 y3 y4 y5) (Ext.refl _).drew (fun hSg5q0=>?_);refine Qp 0 1 2 3 4 5 ?_;refine Qp 6 7 8 9 10 11 ?_;refine Zd 12 13 14 ?_;refine rgC 15 (fun K hK=>?_);go_simp;refine(HC.o _).mono ?_;rintro e w5 ⟨rfl,hx5⟩;have HXE:=hid (hx5.drew_left);clear hx5;refine rgK hK ⟨HXE.o.c x0,HXE.o.c x1,HXE.o.c x2,HXE.o.c x3,HXE.o.c x4,HXE.o.c x5,HXE.o.c y0,HXE.o.c y1,HXE.o.c y2,HXE.o.c y3,HXE.o.c y4,HXE.o.c y5⟩ (fun hSg5q1=>?_);clear hK K;refine QB 16 17 18 19 ?_;refine wpAnyH_done (by kernel_rfl) ?_ _
      go_wp2_with fail
      have x0:=HXE.o.c x0;have x1:=HXE.o.c x1;have x2:=HXE.o.c x2;have x3:=HXE.o.c x3;have x4:=HXE.o.c x4;have x5:=HXE.o.c x5;have y0:=HXE.o.c y0;have y1:=HXE.o.c y1;have y2:=HXE.o.c y2;have y3:=HXE.o.c y3;have y4:=HXE.o.c y4;have y5:=HXE.o.c y5;refine rgH (Ext.hc12 x0 x1 x2 x3 x4 x5 y0 y1 y2 y3 y4 y5) (Ext.refl _).drew (fun hSg6q0=>?_);refine Qp 0 1 2 3 4 5 ?_;refine QB 6 7 8 9 ?_;refine rgT 10 ?_;refine rgC 11 (fun K hK=>?_);go_simp;refine(HC.o _).mono ?_;rintro e w6 ⟨rfl,hx5⟩;have HXF:=hid (hx5.drew_left);clear hx5;refine rgK hK ⟨HXF.o.c x0,HXF.o.c x1,HXF.o.c x2,HXF.o.c x3,HXF.o.c x4,HXF.o.c x5,HXF.o.c y0,HXF.o.c y1,HXF.o.c y2,HXF.o.c y3,HXF.o.c y4,HXF.o.c y5⟩ (fun hSg6q1=>?_);clear hK K;refine Zd 12 13 14 ?_;refine wpAnyH_done (by kernel_rfl) ?_ _
      go_wp2_with fail
      refine(jY w.heap.size _ AA k cc (HB.o.ext (HXE.o.trans HXF.o)) yo yt.kind yt.size yt.count A2 B2 n2 c2 m2 e2).mono ?_;rintro e w7 ⟨rfl,hx7⟩;have HX7:=hid (HXE.o.trans (HXF.o.trans hx7));clear hx7
      go_wp2
      first
       |go_roundw
       |refine⟨?rel, ?measure⟩
      case rel=>exact⟨_,n,_,_,m - 1,_,(xo,xt) :: l',r',L,AA,k,cc,rfl,rfl,hid ⟨HLR.o.1,qJ HLR.o.2⟩,hid ⟨HAS.o.1,HAS.o.2.tail⟩,hid ⟨HFW.o.1,fun f hf=>HFW.o.2 f (List.mem_cons_of_mem _ hf)⟩,hid (by rw[<-HJJ.o,cj h2 HAS.o.1]),HKL,HKN,hid (HO.o.ext HX7.o),hid (HB.o.ext HX7.o),hid (HX.o.trans HX7.o)⟩
      case measure=>simp [Y5];have:=HM.o;omega
     ·obtain rfl:z=0:=by rw[<-hz,if_neg h1,if_neg h2]
      clear hz;have HXY:=hid (show yo=xo by omega)
      go_wp2_with fail
      refine rgH (Ext.hc12 x0 x1 x2 x3 x4 x5 y0 y1 y2 y3 y4 y5) (Ext.refl _).drew (fun hSg7q0=>?_);refine Qp 0 1 2 3 4 5 ?_;refine Qp 6 7 8 9 10 11 ?_;refine Zd 12 13 14 ?_;refine rgC 15 (fun K hK=>?_);go_simp;refine(HC.o _).mono ?_;rintro e w5 ⟨rfl,hx5⟩;have HXE:=hid (hx5.drew_left);clear hx5;refine rgK hK ⟨HXE.o.c x0,HXE.o.c x1,HXE.o.c x2,HXE.o.c x3,HXE.o.c x4,HXE.o.c x5,HXE.o.c y0,HXE.o.c y1,HXE.o.c y2,HXE.o.c y3,HXE.o.c y4,HXE.o.c y5⟩ (fun hSg7q1=>?_);clear hK K;refine QB 16 17 18 19 ?_;refine wpAnyH_done (by kernel_rfl) ?_ _
      go_wp2_with fail
      have x0:=HXE.o.c x0;have x1:=HXE.o.c x1;have x2:=HXE.o.c x2;have x3:=HXE.o.c x3;have x4:=HXE.o.c x4;have x5:=HXE.o.c x5;have y0:=HXE.o.c y0;have y1:=HXE.o.c y1;have y2:=HXE.o.c y2;have y3:=HXE.o.c y3;have y4:=HXE.o.c y4;have y5:=HXE.o.c y5;refine rgH (Ext.hc12 x0 x1 x2 x3 x4 x5 y0 y1 y2 y3 y4 y5) (Ext.refl _).drew (fun hSg8q0=>?_);refine Qp 0 1 2 3 4 5 ?_;refine QB 6 7 8 9 ?_;refine rgT 10 ?_;refine rgC 11 (fun K hK=>?_);go_simp;refine(HC.o _).mono ?_;rintro e w6 ⟨rfl,hx5⟩;have HXF:=hid (hx5.drew_left);clear hx5;refine rgK hK ⟨HXF.o.c x0,HXF.o.c x1,HXF.o.c x2,HXF.o.c x3,HXF.o.c x4,HXF.o.c x5,HXF.o.c y0,HXF.o.c y1,HXF.o.c y2,HXF.o.c y3,HXF.o.c y4,HXF.o.c y5⟩ (fun hSg8q1=>?_);clear hK K;refine Zd 12 13 14 ?_;refine wpAnyH_done (by kernel_rfl) ?_ _
      go_wp2_with fail
      have x0:=HXF.o.c x0;have x1:=HXF.o.c x1;have x2:=HXF.o.c x2;have x3:=HXF.o.c x3;have x4:=HXF.o.c x4;have x5:=HXF.o.c x5;have y0:=HXF.o.c y0;have y1:=HXF.o.c y1;have y2:=HXF.o.c y2;have y3:=HXF.o.c y3;have y4:=HXF.o.c y4;have y5:=HXF.o.c y5;have HXG:=hid (HXE.o.trans HXF.o)
      have HCT:=hid (fun w' (hw:Ext w6 w')=>eZ d w.heap.size w w' T rfl HTL.o AA k cc L HKL.o (HB.o.ext (HXG.o.trans hw)) (HO.o.ext (HXG.o.trans hw)) (HX.o.trans (HXG.o.trans hw)) (by have:=HKN.o;omega) xo xt.kind xt.size xt.count A1 B1 n1 c1 m1 e1 g2 q2 (xo,QX xt yt) (fun w'' hw2=>
       aJ d w'' T xo xt.kind xt.size xt.count xo yt.kind yt.size yt.count A1 B1 A2 B2 n1 c1 m1 e1 n2 c2 m2 e2 g2 q2 (QX xt yt) HI1.o (fun b hb=>Nat.lt_of_lt_of_le (HTL.o b hb) (HX.o.trans (HXG.o.trans (hw.trans hw2))).size)
        ((hw.trans hw2).cell y1) ((hw.trans hw2).cell y2) ((hw.trans hw2).cell y3) ((hw.trans hw2).cell y4) ((hw.trans hw2).cell y5)
        (fun w3 hw3=>(HFW.o.1 _ (List.mem_cons_self ..)).2 w3 T xt yt _ _ (HV1.o.ext (HX.o.trans (HXG.o.trans (hw.trans (hw2.trans hw3))))) (HV2.o.ext (HX.o.trans (HXG.o.trans (hw.trans (hw2.trans hw3))))) (HFW.o.1 _ (List.mem_cons_self ..)).1 (HFW.o.2 _ (List.mem_cons_self ..)))))
      refine rgH (Ext.hc12 x0 x1 x2 x3 x4 x5 y0 y1 y2 y3 y4 y5) (Ext.refl _).drew (fun hSg9q0=>?_);refine Qp 0 1 2 3 4 5 ?_;refine rgC 6 (fun K hK=>?_);go_simp;refine(HCT.o _ (Ext.refl w6).drew).mono ?_;rintro e w7 ⟨rfl,A7,cc7,ho7,hb7,hx7⟩;rw[List.length_append,List.length_singleton,HKL.o]at ho7 hb7;have HX7:=hid hx7;have HO7:=hid ho7;have HB7:=hid hb7;clear hx7 ho7 hb7;refine rgK hK ⟨HX7.o.c HW1.o.1,HX7.o.c HW1.o.2.1,HX7.o.c HW1.o.2.2.1,HX7.o.c HW1.o.2.2.2.1,HX7.o.c HW1.o.2.2.2.2.1,HX7.o.c HW1.o.2.2.2.2.2,HX7.o.c HW2.o.1,HX7.o.c HW2.o.2.1,HX7.o.c HW2.o.2.2.1,HX7.o.c HW2.o.2.2.2.1,HX7.o.c HW2.o.2.2.2.2.1,HX7.o.c HW2.o.2.2.2.2.2⟩ (fun hSg9q1=>?_);clear hK K;refine wpAnyH_done (by kernel_rfl) ?_ _
      go_wp2_with fail
      have j1:(1:Int)<=(n:Int):=by omega
      have j2:(1:Int)<=(m:Int):=by omega
      refine wp_region_held_drew (S:=(fun _=>True)) (by kernel_rfl) trivial (fun hSg10q0=>?_);refine Qp 0 1 2 3 4 5 ?_;refine wpAnyH_done (by kernel_rfl) ?_ _
      go_wp2
      first
       |go_roundw
       |refine⟨?rel, ?measure⟩
      case rel=>exact⟨_,n - 1,_,_,m - 1,_,l',r',L ++ [(xo,QX xt yt)],A7,k+1,cc7,rfl,rfl,hid ⟨qJ HLR.o.1,qJ HLR.o.2⟩,hid ⟨HAS.o.1.tail,HAS.o.2.tail⟩,hid ⟨fun f hf=>HFW.o.1 f (List.mem_cons_of_mem _ hf),fun f hf=>HFW.o.2 f (List.mem_cons_of_mem _ hf)⟩,hid (by rw[<-HJJ.o,HXY.o,cx HAS.o.1];simp),hid (by rw[List.length_append,List.length_singleton,HKL.o]),hid (by have:=HKN.o;simp at this;omega),hid (HO7.o.ext (Ext.refl w7).drew),hid (HB7.o.ext (Ext.refl w7).drew),hid HX7.o.drew⟩
      case measure=>simp [Y5];have:=HM.o;have:=HN.o;omega
theorem QK {w:World}{b:Nat}{o0 o1 o2 o3 o4:Value}(h:Qm w b o0 o1 o2 o3 o4)(v0 v1 v2 v3 v4:Value):
  ∃W3,((((w.setCell ⟨b,0,none⟩ v0).setCell ⟨b,1,none⟩ v1).setCell ⟨b,2,none⟩ v2).setCell ⟨b,3,none⟩ v3).setCell ⟨b,4,none⟩ v4=W3/\Qm W3 b v0 v1 v2 v3 v4/\(∀k,k≠b->W3.heap[k]? =w.heap[k]?)/\W3.heap.size=w.heap.size/\∀a,Ext a w->a.heap.size<=b->Ext a W3:=
 ⟨_,rfl,((((h.put0 v0).put1 v1).put2 v2).put3 v3).put4 v4,fun k hk=>Jv w b v0 v1 v2 v3 v4 hk,by simp,fun a ha hb=>ZD ha hb v0 v1 v2 v3 v4⟩
theorem yJ {E E':Type}{R:Rep E}{R':Rep E'}{w:World}{S:Nat->Prop}{v:Value}(h:Sl R w S v []):Sl R' w S v []:=by
 obtain⟨A,c,rfl,h1,h2,h3,h4⟩:=h;exact⟨A,c,rfl,h1,h2,h3,fun h=>absurd rfl h⟩
theorem Xp {k s c:Int}{e:List Ty}{f:List (Int×Ty)}(h:FW (.mk k s c e f)):(∀x∈e,FW x)/\(∀x∈f,FW x.2)/\Zb f/\f.length<=64/\((k=3\/k=4)->∃x,e=[x]):=by
 obtain⟨h1,h2⟩:=h
 have hw:(∀x∈e,wiT x=true)/\(∀x∈f,wiT x.2=true)/\f.length<=64:=by
  rw[xW]at h2;simp only[Bool.and_eq_true,decide_eq_true_eq,List.all_eq_true,Ty.fields,Ty.elem]at h2;exact⟨h2.2,h2.1.2,of_decide_eq_true h2.1.1.1⟩
 rcases Z1 h1 with(h|h)|⟨s,hs,(h|h)⟩|⟨x,h,hx⟩|⟨x,m,h,hm1,hm2,hx⟩|⟨l,h,hl⟩
 all_goals (simp only[Ty.unk,Ty.any,Ty.int,Ty.uint,Ty.ptr,Ty.arr,Ty.str,Ty.mk.injEq]at h;obtain⟨rfl,rfl,rfl,rfl,rfl⟩:=h)
 ·exact⟨by simp,by simp,List.Pairwise.nil,hw.2.2,by omega⟩
 ·exact⟨by simp,by simp,List.Pairwise.nil,hw.2.2,by omega⟩
 ·exact⟨by simp,by simp,List.Pairwise.nil,hw.2.2,by omega⟩
 ·exact⟨by simp,by simp,List.Pairwise.nil,hw.2.2,by omega⟩
 ·exact⟨fun y hy=>⟨by simp at hy;rw[hy];exact hx,hw.1 y hy⟩,by simp,List.Pairwise.nil,hw.2.2,fun _=>⟨x,rfl⟩⟩
 ·exact⟨fun y hy=>⟨by simp at hy;rw[hy];exact hx,hw.1 y hy⟩,by simp,List.Pairwise.nil,hw.2.2,fun _=>⟨x,rfl⟩⟩
 ·exact⟨by simp,fun y hy=>⟨(XF hl y hy).2.2,hw.2.1 y hy⟩,VV hl,hw.2.2,by omega⟩
theorem yZ {a b:Ty}(ha:FW a)(hb:FW b):FW (QX a b):=⟨mj ha.1 hb.1,xg _ (Nat.le_refl _) ha.1 hb.1 ha.2 hb.2⟩
theorem gy {a:Ty}(ha:FW a):bnT a=true:=kb a ha.1 ha.2
theorem Vk {d:Nat}{w:World}{S:Nat->Prop}:TyV d w S (.agg #[.int .i64 6,.int .i64 0,.int .i64 0,.slice none 0 0,.slice none 0 0]) Ty.any:=⟨none,0,0,none,0,0,rfl,Sl.nil,Sl.nil,by show Qy 6;unfold Qy;omega,by show Qy 0;unfold Qy;omega,by show Qy 0;unfold Qy;omega⟩
theorem cp {k s c k' s' c':Int}{e e':List Ty}{f f':List (Int×Ty)}:QX (.mk k s c e f) (.mk k' s' c' e' f')=if k=0 then .mk k' s' c' e' f' else if k'=0 then .mk k s c e f
  else if k≠k'\/k=6\/s≠s' then Ty.any
  else if k=3 then .mk 3 0 0 (KD e e') []
  else if k=4 then .mk 4 0 (min c c') (KD e e') []
  else if k=5 then .mk 5 0 0 [] (QC f f')
  else .mk k s c e f:=by rw[QX];rfl
theorem mw {d d1 g n0 n1:Nat}{w W:World}{S:Nat->Prop}{v:Value}{t:Ty}(hd:d=d1+1)(hh:∀k,k≠g->W.heap[k]? =w.heap[k]?)(h:TyV (d1+1) w (fun b=>n1<=b) v t)(hg:g<n1/\n0<=n1):TyV d W (fun b=>S b\/n0<=b) v t:=by
 rw[hd];exact(h.keep fun b hb _=>hh b (by have hb':n1<=b:=hb;omega)).mono fun b hb _=> .inr (by have hb':n1<=b:=hb;omega)
theorem jy {d:Nat}{w:World}{S:Nat->Prop}{v:Value}{k s c:Int}{e:List Ty}{f:List (Int×Ty)}(h:TyV d w S v (.mk k s c e f)):Qy c:=by
 obtain⟨A,n,c,B,m,e,_,_,_,_,_,h⟩:=h;exact h
theorem bD {a b:Int}(ha:Qy a)(hb:Qy b):Qy (min a b):=by unfold Qy at *;omega
theorem ed {d g n0 n1 c:Nat}{w W:World}{S:Nat->Prop}{A:Option Addr}(l:List (Int×Ty))(hh:∀k,k≠g->W.heap[k]? =w.heap[k]?)(h:Sl (fdR (tyR d)) w (fun b=>(S b/\b<n0)\/n1<=b) (.slice A l.length c) l)(hg:g<n1/\n0<=g):
  TyV d W (fun b=>S b\/n0<=b) (.agg #[.int .i64 5,.int .i64 0,.int .i64 0,.slice none 0 0,.slice A l.length c]) (.mk 5 0 0 [] l):=by
 refine⟨none,0,0,A,_,c,rfl,Sl.nil, ?_,by show Qy 5;unfold Qy;omega,by show Qy 0;unfold Qy;omega,by show Qy 0;unfold Qy;omega⟩;refine(h.keep fun b hb hi=>hh b ?_).mono fun b hb _=>?_
 ·rcases hb with hb|hb <;> omega
 ·rcases hb with hb|hb
  ·exact .inl hb.1
  ·exact .inr (by omega)
theorem iZ:∀d,yM d:=by
 intro d
 induction d using Nat.strongRecOn with
 | _ d ih=>
  intro w S a b va vb ha hb fa fb;have HA:=hid ha;have HB:=hid hb;obtain⟨A1,n1,c1,B1,m1,e1,rfl,hE1,hF1, -⟩:=ha;obtain⟨A2,n2,c2,B2,m2,e2,rfl,hE2,hF2, -⟩:=hb;obtain⟨r,hr⟩:=Qg (QX a b);rw[hr];have HR:=hid hr;have HFA:=hid fa;have HFB:=hid fb;obtain⟨k,s,c,e,f⟩:=a;obtain⟨k',s',c',e',f'⟩:=b;rw[cp]at hr;simp only[Ty.kind,Ty.size,Ty.count,Ty.elem,Ty.fields]at hE1 hF1 hE2 hF2 hr HA HB ⊢;have HRR:=hid hr;obtain⟨W0,hW0⟩:=Qg (((w.alloc (.cells #[.int .i64 k,.int .i64 s,.int .i64 c,.slice A1 n1 c1,.slice B1 m1 e1] 42)).alloc (.cells #[.int .i64 k',.int .i64 s',.int .i64 c',.slice A2 n2 c2,.slice B2 m2 e2] 42)).alloc (.cells #[.int .i64 0,.int .i64 0,.int .i64 0,.slice none 0 0,.slice none 0 0] 42));have hE0:Ext w W0:=by rw[<-hW0];exact(((Ext.refl w).alloc _).alloc _).alloc _
  have hP:Qm W0 w.heap.size (.int .i64 k) (.int .i64 s) (.int .i64 c) (.slice A1 n1 c1) (.slice B1 m1 e1):=by
   rw[<-hW0];exact((Qm.new w _ _ _ _ _ _).ext ((Ext.refl _).alloc _)).ext ((Ext.refl _).alloc _)
  have hQ:Qm W0 (w.heap.size+1) (.int .i64 k') (.int .i64 s') (.int .i64 c') (.slice A2 n2 c2) (.slice B2 m2 e2):=by
   rw[<-hW0];have:=Qm.new (w.alloc (.cells #[.int .i64 k,.int .i64 s,.int .i64 c,.slice A1 n1 c1,.slice B1 m1 e1] 42)) (.int .i64 k') (.int .i64 s') (.int .i64 c') (.slice A2 n2 c2) (.slice B2 m2 e2) 42;rw[show(w.alloc (.cells #[.int .i64 k,.int .i64 s,.int .i64 c,.slice A1 n1 c1,.slice B1 m1 e1] 42)).heap.size=w.heap.size+1 by simp]at this;exact this.ext ((Ext.refl _).alloc _)
  have hZ:Qm W0 (w.heap.size+2) (.int .i64 0) (.int .i64 0) (.int .i64 0) (.slice none 0 0) (.slice none 0 0):=by
   rw[<-hW0];have:=Qm.new ((w.alloc (.cells #[.int .i64 k,.int .i64 s,.int .i64 c,.slice A1 n1 c1,.slice B1 m1 e1] 42)).alloc (.cells #[.int .i64 k',.int .i64 s',.int .i64 c',.slice A2 n2 c2,.slice B2 m2 e2] 42)) (.int .i64 0) (.int .i64 0) (.int .i64 0) (.slice none 0 0) (.slice none 0 0) 42
   rwa [show((w.alloc (.cells #[.int .i64 k,.int .i64 s,.int .i64 c,.slice A1 n1 c1,.slice B1 m1 e1] 42)).alloc (.cells #[.int .i64 k',.int .i64 s',.int .i64 c',.slice A2 n2 c2,.slice B2 m2 e2] 42)).heap.size=w.heap.size+2 by simp]at this
  obtain⟨W1,hW1⟩:=Qg (W0.alloc (.cells #[.int .i64 0,.int .i64 0,.int .i64 0,.slice none 0 0,.slice none 0 0] 42));have hB1:Qm W1 W0.heap.size (.int .i64 0) (.int .i64 0) (.int .i64 0) (.slice none 0 0) (.slice none 0 0):=by rw[<-hW1];exact Qm.new W0 _ _ _ _ _ _
  have hE1':Ext W0 W1:=by rw[<-hW1];exact(Ext.refl _).alloc _
  obtain⟨W2,hW2,hB2,hH2,hS2,hX2⟩:=QK hB1 (.int .i64 6) (.int .i64 0) (.int .i64 0) (.slice none 0 0) (.slice none 0 0);have hE2':Ext W0 W2:=hX2 W0 hE1' (Nat.le_refl _);have HE2:=hid (hE0.trans hE2');have HW2:=hid hW2;have HPB:=hid (hP.ext hE2');have HQB:=hid (hQ.ext hE2');have HRB:=hid (hZ.ext hE2');have HAB:=hid hB2;have HS1:=hid hE1;have HS2:=hid hE2;have HT1:=hid hF1;have HT2:=hid hF2;have HIH:=hid ih;obtain⟨z0,z1,z2,z3,z4,zf⟩:=hB1;have y0:=zf 0;have y1:=zf 1;have y2:=zf 2;have y3:=zf 3;have y4:=zf 4;clear hr hE0 hP hQ hZ hE1' hW2 hB2 hH2 hS2 hX2 hE2' hE1 hE2 hF1 hF2 ih zf fa fb;go_enter Tryz.func71,Tryz.ntmps71;go_upto_region 2 with fail
  rw[HW2.o];clear z0 z1 z2 z3 z4 y0 y1 y2 y3 y4 hW1 hW0;obtain⟨p0,p1,p2,p3,p4, -⟩:=HPB.o;obtain⟨q0,q1,q2,q3,q4, -⟩:=HQB.o;obtain⟨o0,o1,o2,o3,o4, -⟩:=HAB.o;by_cases h1:k=0
  ·have g1:(k == 0)=true:=by simp[h1]
   obtain rfl: .mk k' s' c' e' f'=r:=by rw[<-HRR.o,if_pos h1]
   clear h1;obtain⟨r0,r1,r2,r3,r4,rf⟩:=HRB.o;have u0:=rf 0;have u1:=rf 1;have u2:=rf 2;have u3:=rf 3;have u4:=rf 4;obtain⟨W3,hW3,hB3,hH3,hS3,hX3⟩:=QK (HRB.o) (.int .i64 k') (.int .i64 s') (.int .i64 c') (.slice A2 n2 c2) (.slice B2 m2 e2);obtain⟨t0,t1,t2,t3,t4, -⟩:=hB3;have HW3:=hid hW3;have HX3:=hid (hX3 w HE2.o (by omega));have HH3:=hid hH3;clear hW3 hH3 hX3 hS3 rf
   go_wp2
   rw[HW3.o];clear r0 r1 r2 r3 r4;refine bodyPost_ret (v:= .agg #[(.int .i64 k'),(.int .i64 s'),(.int .i64 c'),(.slice A2 n2 c2),(.slice B2 m2 e2)]) (by simp[results,Tryz.results71,go_sem,t0,t1,t2,t3,t4]) rfl ?_;refine⟨_,rfl,(HB.o.ext HX3.o).mono fun b hb _=> .inl hb,HX3.o⟩
  have g1:(k == 0)=false:=by simp[h1]
  by_cases h2:k'=0
  ·have g2:(k' == 0)=true:=by simp[h2]
   obtain rfl: .mk k s c e f=r:=by rw[<-HRR.o,if_neg h1,if_pos h2]
   clear h1 h2;obtain⟨r0,r1,r2,r3,r4,rf⟩:=HRB.o;have u0:=rf 0;have u1:=rf 1;have u2:=rf 2;have u3:=rf 3;have u4:=rf 4;obtain⟨W3,hW3,hB3,hH3,hS3,hX3⟩:=QK (HRB.o) (.int .i64 k) (.int .i64 s) (.int .i64 c) (.slice A1 n1 c1) (.slice B1 m1 e1);obtain⟨t0,t1,t2,t3,t4, -⟩:=hB3;have HW3:=hid hW3;have HX3:=hid (hX3 w HE2.o (by omega));have HH3:=hid hH3;clear hW3 hH3 hX3 hS3 rf
   go_wp2
   rw[HW3.o];clear r0 r1 r2 r3 r4;refine bodyPost_ret (v:= .agg #[(.int .i64 k),(.int .i64 s),(.int .i64 c),(.slice A1 n1 c1),(.slice B1 m1 e1)]) (by simp[results,Tryz.results71,go_sem,t0,t1,t2,t3,t4]) rfl ?_;refine⟨_,rfl,(HA.o.ext HX3.o).mono fun b hb _=> .inl hb,HX3.o⟩
  have g2:(k' == 0)=false:=by simp[h2]
  by_cases h3:k=k'
  case neg=>
   have g3:(k != k')=true:=by simp[h3]
   obtain rfl:Ty.any=r:=by rw[<-HRR.o,if_neg h1,if_neg h2,if_pos (.inl h3)]
   clear h1 h2 h3;obtain⟨r0,r1,r2,r3,r4,rf⟩:=HRB.o;have u0:=rf 0;have u1:=rf 1;have u2:=rf 2;have u3:=rf 3;have u4:=rf 4;obtain⟨W3,hW3,hB3,hH3,hS3,hX3⟩:=QK (HRB.o) (.int .i64 6) (.int .i64 0) (.int .i64 0) (.slice none 0 0) (.slice none 0 0);obtain⟨t0,t1,t2,t3,t4, -⟩:=hB3;have HW3:=hid hW3;have HX3:=hid (hX3 w HE2.o (by omega));have HH3:=hid hH3;clear hW3 hH3 hX3 hS3 rf
   go_wp2
   rw[HW3.o];clear r0 r1 r2 r3 r4;refine bodyPost_ret (v:= .agg #[(.int .i64 6),(.int .i64 0),(.int .i64 0),(.slice none 0 0),(.slice none 0 0)]) (by simp[results,Tryz.results71,go_sem,t0,t1,t2,t3,t4]) rfl ?_;refine⟨_,rfl,Vk,HX3.o⟩
  subst h3;have g3:(k != k)=false:=by simp
  by_cases h4:k=6
  ·have g4:(k == 6)=true:=by simp[h4]
   obtain rfl:Ty.any=r:=by rw[<-HRR.o,if_neg h1,if_neg h2,if_pos (.inr (.inl h4))]
   clear h1 h2 h4;obtain⟨r0,r1,r2,r3,r4,rf⟩:=HRB.o;have u0:=rf 0;have u1:=rf 1;have u2:=rf 2;have u3:=rf 3;have u4:=rf 4;obtain⟨W3,hW3,hB3,hH3,hS3,hX3⟩:=QK (HRB.o) (.int .i64 6) (.int .i64 0) (.int .i64 0) (.slice none 0 0) (.slice none 0 0);obtain⟨t0,t1,t2,t3,t4, -⟩:=hB3;have HW3:=hid hW3;have HX3:=hid (hX3 w HE2.o (by omega));have HH3:=hid hH3;clear hW3 hH3 hX3 hS3 rf
   go_wp2
   rw[HW3.o];clear r0 r1 r2 r3 r4;refine bodyPost_ret (v:= .agg #[(.int .i64 6),(.int .i64 0),(.int .i64 0),(.slice none 0 0),(.slice none 0 0)]) (by simp[results,Tryz.results71,go_sem,t0,t1,t2,t3,t4]) rfl ?_;refine⟨_,rfl,Vk,HX3.o⟩
  have g4:(k == 6)=false:=by simp[h4]
  by_cases h5:s=s'
  case neg=>
   have g5:(s != s')=true:=by simp[h5]
   obtain rfl:Ty.any=r:=by rw[<-HRR.o,if_neg h1,if_neg h2,if_pos (.inr (.inr h5))]
   clear h1 h2 h4 h5;obtain⟨r0,r1,r2,r3,r4,rf⟩:=HRB.o;have u0:=rf 0;have u1:=rf 1;have u2:=rf 2;have u3:=rf 3;have u4:=rf 4;obtain⟨W3,hW3,hB3,hH3,hS3,hX3⟩:=QK (HRB.o) (.int .i64 6) (.int .i64 0) (.int .i64 0) (.slice none 0 0) (.slice none 0 0);obtain⟨t0,t1,t2,t3,t4, -⟩:=hB3;have HW3:=hid hW3;have HX3:=hid (hX3 w HE2.o (by omega));have HH3:=hid hH3;clear hW3 hH3 hX3 hS3 rf
   go_wp2
   rw[HW3.o];clear r0 r1 r2 r3 r4;refine bodyPost_ret (v:= .agg #[(.int .i64 6),(.int .i64 0),(.int .i64 0),(.slice none 0 0),(.slice none 0 0)]) (by simp[results,Tryz.results71,go_sem,t0,t1,t2,t3,t4]) rfl ?_;refine⟨_,rfl,Vk,HX3.o⟩
  subst h5;have g5:(s != s)=false:=by simp
  have HRR2:=hid HRR.o;rw[if_neg h1,if_neg h2,if_neg (show ¬(k≠k\/k=6\/s≠s) by simp[h4])]at HRR2;by_cases h6:k=3
  ·obtain⟨x,hx⟩:=(Xp HFA.o).2.2.2.2 (.inl h6);obtain⟨y,hy⟩:=(Xp HFB.o).2.2.2.2 (.inl h6);subst h6 hx hy;obtain⟨d1,b1,o1',P1,p1',c1',P2,p2',c2',hd,rfl,hv1,x0,x1,x2,x3,x4⟩:=HS1.o.ty_at (k:=0) rfl;obtain⟨d2,b2,o2',Q1,q1',f1',Q2,q2',f2',hd2,rfl,hv2,y0,y1,y2,y3,y4⟩:=HS2.o.ty_at (k:=0) rfl;obtain rfl:d1=d2:=by omega
   rw[Nat.zero_mul,Nat.add_zero]at x0 x1 x2 x3 x4 y0 y1 y2 y3 y4;have hn1:=HS1.o.len;have hn2:=HS2.o.len;simp only[List.length_singleton]at hn1 hn2;subst hn1 hn2;have fx:=(Xp HFA.o).1 x (List.mem_cons_self ..);have fy:=(Xp HFB.o).1 y (List.mem_cons_self ..);have HC1:=hid (fun w' (hw:Ext w w')=>HIH.o d1 (by omega) w' S x y _ _ (hv1.ext hw) (hv2.ext hw) fx fy);have HBN:=hid (gy (yZ fx fy));have HD:=hid hd;have x0:=HE2.o.c x0;have x1:=HE2.o.c x1;have x2:=HE2.o.c x2;have x3:=HE2.o.c x3;have x4:=HE2.o.c x4;have y0:=HE2.o.c y0;have y1:=HE2.o.c y1;have y2:=HE2.o.c y2;have y3:=HE2.o.c y3;have y4:=HE2.o.c y4;obtain rfl:Ty.ptr (QX x y)=r:=by rw[<-HRR2.o];simp[Ty.ptr,KD]
   clear hv1 hv2 fx fy hd hd2 h1 h2 h4;go_upto_region 10 with fail
   refine rgS 10 rfl rfl (Ext.hc12 p3 x0 x1 x2 x3 x4 q3 y0 y1 y2 y3 y4) (Ext.refl _).drew (fun hSg1q0=>?_);refine Qp 0 1 2 3 4 5 ?_;refine QJ 6 7 ?_;refine rgC 8 (fun K hK=>?_);go_simp;go_at_call 71;refine(HC1.o _ HE2.o.drew).mono ?_;rintro e w5 ⟨v5,rfl,hv5,hx5⟩;have HX5:=hid hx5.drew_left;have HV5:=hid hv5;clear hx5 hv5;refine rgK hK ⟨HX5.o.c p3,HX5.o.c x0,HX5.o.c x1,HX5.o.c x2,HX5.o.c x3,HX5.o.c x4,HX5.o.c q3,HX5.o.c y0,HX5.o.c y1,HX5.o.c y2,HX5.o.c y3,HX5.o.c y4⟩ (fun hSg1q1=>?_);clear hK K;refine rgC 9 (fun K hK=>?_);go_simp;go_at_call 81;refine(nQ d1 _ (QX x y) v5 HV5.o.all HBN.o).mono ?_;rintro e w6 ⟨_,rfl,⟨A5,n5,c5,B5,m5,e5,rfl,hv6⟩,hx6⟩;have HX6:=hid (HX5.o.trans hx6);have HV6:=hid hv6;have HLE:=hid hx6.size;clear hx6 hv6;refine rgK hK ⟨HX6.o.c p3,HX6.o.c x0,HX6.o.c x1,HX6.o.c x2,HX6.o.c x3,HX6.o.c x4,HX6.o.c q3,HX6.o.c y0,HX6.o.c y1,HX6.o.c y2,HX6.o.c y3,HX6.o.c y4⟩ (fun hSg1q2=>?_);clear hK K;refine wpAnyH_done (by kernel_rfl) ?_ _;change wpList _ _ _ _ _ _;clear p0 p1 p2 p3 p4 q0 q1 q2 q3 q4 o0 o1 o2 o3 o4 x0 x1 x2 x3 x4 y0 y1 y2 y3 y4;obtain⟨r0,r1,r2,r3,r4,rf⟩:=HRB.o.ext HX6.o;have u0:=rf 0;have u1:=rf 1;have u2:=rf 2;have u3:=rf 3;have u4:=rf 4;obtain⟨W3,hW3,hB3,hH3,hS3,hX3⟩:=QK (HRB.o.ext HX6.o) (.int .i64 (Ty.ptr (QX x y)).kind) (.int .i64 (Ty.ptr (QX x y)).size) (.int .i64 (Ty.ptr (QX x y)).count) (.slice A5 n5 c5) (.slice B5 m5 e5);obtain⟨t0,t1,t2,t3,t4, -⟩:=hB3;have HW3:=hid hW3;have HX3:=hid (hX3 w (HE2.o.trans HX6.o) (by omega));have HH3:=hid hH3;clear hW3 hH3 hX3 hS3 rf
   go_wp2
   rw[HW3.o];clear r0 r1 r2 r3 r4;refine bodyPost_ret (v:= .agg #[(.int .i64 (Ty.ptr (QX x y)).kind),(.int .i64 (Ty.ptr (QX x y)).size),(.int .i64 (Ty.ptr (QX x y)).count),(.slice A5 n5 c5),(.slice B5 m5 e5)]) (by simp[results,Tryz.results71,go_sem,t0,t1,t2,t3,t4]) rfl ?_;refine⟨_,rfl,mw HD.o HH3.o ⟨A5,n5,c5,B5,m5,e5,rfl,HV6.o⟩ (by have:=(HRB.o.ext HX5.o).lt;omega),HX3.o⟩
  have g6:(k == 3)=false:=by simp[h6]
  by_cases h7:k=4
  ·obtain⟨x,hx⟩:=(Xp HFA.o).2.2.2.2 (.inr h7);obtain⟨y,hy⟩:=(Xp HFB.o).2.2.2.2 (.inr h7);subst h7 hx hy;obtain⟨d1,b1,o1',P1,p1',c1',P2,p2',c2',hd,rfl,hv1,x0,x1,x2,x3,x4⟩:=HS1.o.ty_at (k:=0) rfl;obtain⟨d2,b2,o2',Q1,q1',f1',Q2,q2',f2',hd2,rfl,hv2,y0,y1,y2,y3,y4⟩:=HS2.o.ty_at (k:=0) rfl;obtain rfl:d1=d2:=by omega
   rw[Nat.zero_mul,Nat.add_zero]at x0 x1 x2 x3 x4 y0 y1 y2 y3 y4;have hn1:=HS1.o.len;have hn2:=HS2.o.len;simp only[List.length_singleton]at hn1 hn2;subst hn1 hn2;have fx:=(Xp HFA.o).1 x (List.mem_cons_self ..);have fy:=(Xp HFB.o).1 y (List.mem_cons_self ..);have HC1:=hid (fun w' (hw:Ext w w')=>HIH.o d1 (by omega) w' S x y _ _ (hv1.ext hw) (hv2.ext hw) fx fy);have HBN:=hid (gy (yZ fx fy));have HD:=hid hd;have x0:=HE2.o.c x0;have x1:=HE2.o.c x1;have x2:=HE2.o.c x2;have x3:=HE2.o.c x3;have x4:=HE2.o.c x4;have y0:=HE2.o.c y0;have y1:=HE2.o.c y1;have y2:=HE2.o.c y2;have y3:=HE2.o.c y3;have y4:=HE2.o.c y4;obtain rfl:Ty.arr (QX x y) (min c c')=r:=by rw[<-HRR2.o];simp[Ty.arr,KD]
   have HMN:Hid ((if c'<c then c' else c)=min c c'):=hid (by split <;> omega);have HMI:Hid (Qy (min c c')):=hid (bD (jy HA.o) (jy HB.o));clear hv1 hv2 fx fy hd hd2 h1 h2 h4 h6;go_upto_region 12 with fail
   refine VK 15 (by kernel_rfl) rfl rfl (by kernel_rfl) (fun w'=>w'.cell? ⟨w.heap.size,3,none⟩=some (.slice (some ⟨b1,o1',none⟩) 1 c1)/\w'.cell? ⟨b1,o1',none⟩=some (.int .i64 x.kind)/\w'.cell? ⟨b1,o1'+1,none⟩=some (.int .i64 x.size)/\w'.cell? ⟨b1,o1'+2,none⟩=some (.int .i64 x.count)/\w'.cell? ⟨b1,o1'+3,none⟩=some (.slice P1 p1' c1')/\w'.cell? ⟨b1,o1'+4,none⟩=some (.slice P2 p2' c2')/\w'.cell? ⟨w.heap.size+1,3,none⟩=some (.slice (some ⟨b2,o2',none⟩) 1 c2)/\w'.cell? ⟨b2,o2',none⟩=some (.int .i64 y.kind)/\w'.cell? ⟨b2,o2'+1,none⟩=some (.int .i64 y.size)/\w'.cell? ⟨b2,o2'+2,none⟩=some (.int .i64 y.count)/\w'.cell? ⟨b2,o2'+3,none⟩=some (.slice Q1 q1' f1')/\w'.cell? ⟨b2,o2'+4,none⟩=some (.slice Q2 q2' f2')/\w'.cell? ⟨w.heap.size,2,none⟩=some (.int .i64 c)/\w'.cell? ⟨w.heap.size+1,2,none⟩=some (.int .i64 c')) ⟨p3,x0,x1,x2,x3,x4,q3,y0,y1,y2,y3,y4,p2,q2⟩ (fun hSg2q0=>?_);refine Qp 0 1 2 3 4 5 ?_;refine Qp 6 7 9 10 11 12 ?_;refine rgT 13 ?_;refine rgC 8 (fun K hK=>?_);go_simp;go_at_call 71;refine(HC1.o _ HE2.o.drew).mono ?_;rintro e w5 ⟨v5,rfl,hv5,hx5⟩;have HX5:=hid hx5.drew_left;have HV5:=hid hv5;clear hx5 hv5;refine rgK hK ⟨HX5.o.c p3,HX5.o.c x0,HX5.o.c x1,HX5.o.c x2,HX5.o.c x3,HX5.o.c x4,HX5.o.c q3,HX5.o.c y0,HX5.o.c y1,HX5.o.c y2,HX5.o.c y3,HX5.o.c y4,HX5.o.c p2,HX5.o.c q2⟩ (fun hSg2q1=>?_);clear hK K;refine rgC 14 (fun K hK=>?_);go_simp;rw[HMN.o];go_at_call 95;refine(Gc d1 _ (QX x y) v5 HV5.o.all HBN.o (min c c') HMI.o).mono ?_;rintro e w6 ⟨_,rfl,⟨A5,n5,c5,B5,m5,e5,rfl,hv6⟩,hx6⟩;have HX6:=hid (HX5.o.trans hx6);have HV6:=hid hv6;have HLE:=hid hx6.size;clear hx6 hv6;refine rgK hK ⟨HX6.o.c p3,HX6.o.c x0,HX6.o.c x1,HX6.o.c x2,HX6.o.c x3,HX6.o.c x4,HX6.o.c q3,HX6.o.c y0,HX6.o.c y1,HX6.o.c y2,HX6.o.c y3,HX6.o.c y4,HX6.o.c p2,HX6.o.c q2⟩ (fun hSg2q2=>?_);clear hK K;refine wpAnyH_done (by kernel_rfl) ?_ _;change wpList _ _ _ _ _ _;clear p0 p1 p2 p3 p4 q0 q1 q2 q3 q4 o0 o1 o2 o3 o4 x0 x1 x2 x3 x4 y0 y1 y2 y3 y4;obtain⟨r0,r1,r2,r3,r4,rf⟩:=HRB.o.ext HX6.o;have u0:=rf 0;have u1:=rf 1;have u2:=rf 2;have u3:=rf 3;have u4:=rf 4;obtain⟨W3,hW3,hB3,hH3,hS3,hX3⟩:=QK (HRB.o.ext HX6.o) (.int .i64 (Ty.arr (QX x y) (min c c')).kind) (.int .i64 (Ty.arr (QX x y) (min c c')).size) (.int .i64 (Ty.arr (QX x y) (min c c')).count) (.slice A5 n5 c5) (.slice B5 m5 e5);obtain⟨t0,t1,t2,t3,t4, -⟩:=hB3;have HW3:=hid hW3;have HX3:=hid (hX3 w (HE2.o.trans HX6.o) (by omega));have HH3:=hid hH3;clear hW3 hH3 hX3 hS3 rf
   go_wp2
   rw[HW3.o];clear r0 r1 r2 r3 r4;refine bodyPost_ret (v:= .agg #[(.int .i64 (Ty.arr (QX x y) (min c c')).kind),(.int .i64 (Ty.arr (QX x y) (min c c')).size),(.int .i64 (Ty.arr (QX x y) (min c c')).count),(.slice A5 n5 c5),(.slice B5 m5 e5)]) (by simp[results,Tryz.results71,go_sem,t0,t1,t2,t3,t4]) rfl ?_;refine⟨_,rfl,mw HD.o HH3.o ⟨A5,n5,c5,B5,m5,e5,rfl,HV6.o⟩ (by have:=(HRB.o.ext HX5.o).lt;omega),HX3.o⟩
  have g7:(k == 4)=false:=by simp[h7]
  by_cases h8:k=5
  ·subst h8;have fa5:=Xp HFA.o;have fb5:=Xp HFB.o;obtain rfl:Ty.mk 5 0 0 [] (QC f f')=r:=by rw[<-HRR2.o];simp
   have hm:∀w',Ext w w'->Calls Tryz.prog 96 #[.slice B1 m1 e1,.slice B2 m2 e2,.func (.func 97) #[] #[],.func (.func 98) #[] #[]] w' (fun e w''=>∃A c,e= .returned (.slice A (QC f f').length c)/\Sl (fdR (tyR d)) w'' (fun b=>(S b/\b<w.heap.size)\/w'.heap.size<=b) (.slice A (QC f f').length c) (QC f f')/\Ext w' w''):=by
    intro w' hw;have hT1:=(HT1.o.mono (S':=fun b=>S b/\b<w.heap.size) fun b hb hi=>⟨hb,hi.lt⟩).ext hw;have hT2:=(HT2.o.mono (S':=fun b=>S b/\b<w.heap.size) fun b hb hi=>⟨hb,hi.lt⟩).ext hw;have hm1:m1<=65536:=by have:=HT1.o.len;have:=fa5.2.2.2.1;omega
    cases d with
    | zero=>
     have e1:f=[]:=by
      cases f with
      |nil=>rfl
      |cons z f=>obtain⟨_,_,_,_,_,_,_,_,_,h,_⟩:=HT1.o.fd_at (k:=0) rfl;omega
     have e2:f'=[]:=by
      cases f' with
      |nil=>rfl
      |cons z f=>obtain⟨_,_,_,_,_,_,_,_,_,h,_⟩:=HT2.o.fd_at (k:=0) rfl;omega
     subst e1 e2;refine(mc 0 w' _ B1 B2 m1 e1 m2 e2 [] [] (yJ hT1) (yJ hT2) List.Pairwise.nil List.Pairwise.nil (by simp) (by simp) hm1).mono ?_;rintro e w'' ⟨A,c,h1,h2,h3⟩;exact⟨A,c,h1,yJ h2,h3⟩
    |succ d1=>
     exact mc d1 w' _ B1 B2 m1 e1 m2 e2 f f' hT1 hT2 fa5.2.2.1 fb5.2.2.1 (fun x hx=>⟨fa5.2.1 x hx,HIH.o d1 (by omega)⟩) fb5.2.1 hm1
   have HM:=hid hm;clear hm fa5 fb5 h1 h2 h4 h6 h7
   go_wp2_with fail
   refine(HM.o _ HE2.o).mono ?_;rintro e w5 ⟨A5,c5,rfl,hs5,hx5⟩;have HX5:=hid hx5;have HS5:=hid hs5;clear hx5 hs5 p0 p1 p2 p3 p4 q0 q1 q2 q3 q4 o0 o1 o2 o3 o4;obtain⟨r0,r1,r2,r3,r4,rf⟩:=HRB.o.ext HX5.o;have u0:=rf 0;have u1:=rf 1;have u2:=rf 2;have u3:=rf 3;have u4:=rf 4;obtain⟨W3,hW3,hB3,hH3,hS3,hX3⟩:=QK (HRB.o.ext HX5.o) (.int .i64 5) (.int .i64 0) (.int .i64 0) (.slice none 0 0) (.slice A5 (QC f f').length c5);obtain⟨t0,t1,t2,t3,t4, -⟩:=hB3;have HW3:=hid hW3;have HX3:=hid (hX3 w (HE2.o.trans HX5.o) (by omega));have HH3:=hid hH3;clear hW3 hH3 hX3 hS3 rf
   go_wp2
   rw[HW3.o];clear r0 r1 r2 r3 r4;refine bodyPost_ret (v:= .agg #[(.int .i64 5),(.int .i64 0),(.int .i64 0),(.slice none 0 0),(.slice A5 (QC f f').length c5)]) (by simp[results,Tryz.results71,go_sem,t0,t1,t2,t3,t4]) rfl ?_;refine⟨_,rfl,ed (QC f f') HH3.o HS5.o (by have:=HRB.o.lt;have:=HE2.o.size;omega),HX3.o⟩
  have g8:(k == 5)=false:=by simp[h8]
  obtain rfl: .mk k s c e f=r:=by rw[<-HRR2.o,if_neg h6,if_neg h7,if_neg h8]
  clear h1 h2 h4 h6 h7 h8;obtain⟨r0,r1,r2,r3,r4,rf⟩:=HRB.o;have u0:=rf 0;have u1:=rf 1;have u2:=rf 2;have u3:=rf 3;have u4:=rf 4;obtain⟨W3,hW3,hB3,hH3,hS3,hX3⟩:=QK (HRB.o) (.int .i64 k) (.int .i64 s) (.int .i64 c) (.slice A1 n1 c1) (.slice B1 m1 e1);obtain⟨t0,t1,t2,t3,t4, -⟩:=hB3;have HW3:=hid hW3;have HX3:=hid (hX3 w HE2.o (by omega));have HH3:=hid hH3;clear hW3 hH3 hX3 hS3 rf
  go_wp2
  rw[HW3.o];clear r0 r1 r2 r3 r4;refine bodyPost_ret (v:= .agg #[(.int .i64 k),(.int .i64 s),(.int .i64 c),(.slice A1 n1 c1),(.slice B1 m1 e1)]) (by simp[results,Tryz.results71,go_sem,t0,t1,t2,t3,t4]) rfl ?_;refine⟨_,rfl,(HA.o.ext HX3.o).mono fun b hb _=> .inl hb,HX3.o⟩
theorem ry {d g n0 n1:Nat}{w W:World}{v:Value}{t:Ty}(hh:∀k,k≠g->W.heap[k]? =w.heap[k]?)(h:TyV d w (fun b=>n1<=b) v t)(hg:g<n1/\n0<=n1):TyV d W (fun b=>n0<=b) v t:=
 (h.keep fun b hb _=>hh b (by have hb':n1<=b:=hb;omega)).mono fun b hb _=>by have hb':n1<=b:=hb;show n0<=b;omega
theorem mg (d:Nat)(w:World)(a b:Ty)(va vb:Value)(ha:TyV d w All va a)(hb:TyV d w All vb b):Calls Tryz.prog 43 #[va,vb] w (KM d w (KZ a b)):=by
 have HA:=hid ha;have HB:=hid hb;obtain⟨A1,n1,c1,B1,m1,e1,rfl, -⟩:=ha;obtain⟨A2,n2,c2,B2,m2,e2,rfl, -⟩:=hb;obtain⟨r,hr⟩:=Qg (KZ a b);rw[hr];unfold KZ at hr;have HR:=hid hr;obtain⟨W0,hW0⟩:=Qg (((w.alloc (.cells #[.int .i64 a.kind,.int .i64 a.size,.int .i64 a.count,.slice A1 n1 c1,.slice B1 m1 e1] 42)).alloc (.cells #[.int .i64 b.kind,.int .i64 b.size,.int .i64 b.count,.slice A2 n2 c2,.slice B2 m2 e2] 42)).alloc (.cells #[.int .i64 0,.int .i64 0,.int .i64 0,.slice none 0 0,.slice none 0 0] 42));have hE0:Ext w W0:=by rw[<-hW0];exact(((Ext.refl w).alloc _).alloc _).alloc _
 have hP:Qm W0 w.heap.size (.int .i64 a.kind) (.int .i64 a.size) (.int .i64 a.count) (.slice A1 n1 c1) (.slice B1 m1 e1):=by
  rw[<-hW0];exact((Qm.new w _ _ _ _ _ _).ext ((Ext.refl _).alloc _)).ext ((Ext.refl _).alloc _)
 have hQ:Qm W0 (w.heap.size+1) (.int .i64 b.kind) (.int .i64 b.size) (.int .i64 b.count) (.slice A2 n2 c2) (.slice B2 m2 e2):=by
  rw[<-hW0];have:=Qm.new (w.alloc (.cells #[.int .i64 a.kind,.int .i64 a.size,.int .i64 a.count,.slice A1 n1 c1,.slice B1 m1 e1] 42)) (.int .i64 b.kind) (.int .i64 b.size) (.int .i64 b.count) (.slice A2 n2 c2) (.slice B2 m2 e2) 42;rw[show(w.alloc (.cells #[.int .i64 a.kind,.int .i64 a.size,.int .i64 a.count,.slice A1 n1 c1,.slice B1 m1 e1] 42)).heap.size=w.heap.size+1 by simp]at this;exact this.ext ((Ext.refl _).alloc _)
 have hZ:Qm W0 (w.heap.size+2) (.int .i64 0) (.int .i64 0) (.int .i64 0) (.slice none 0 0) (.slice none 0 0):=by
  rw[<-hW0];have:=Qm.new ((w.alloc (.cells #[.int .i64 a.kind,.int .i64 a.size,.int .i64 a.count,.slice A1 n1 c1,.slice B1 m1 e1] 42)).alloc (.cells #[.int .i64 b.kind,.int .i64 b.size,.int .i64 b.count,.slice A2 n2 c2,.slice B2 m2 e2] 42)) (.int .i64 0) (.int .i64 0) (.int .i64 0) (.slice none 0 0) (.slice none 0 0) 42
  rwa [show((w.alloc (.cells #[.int .i64 a.kind,.int .i64 a.size,.int .i64 a.count,.slice A1 n1 c1,.slice B1 m1 e1] 42)).alloc (.cells #[.int .i64 b.kind,.int .i64 b.size,.int .i64 b.count,.slice A2 n2 c2,.slice B2 m2 e2] 42)).heap.size=w.heap.size+2 by simp]at this
 have HE0:=hid hE0;have HPB:=hid hP;have HQB:=hid hQ;have HZ:=hid hZ;obtain⟨ga,hga⟩:=Qg (Zq a);obtain⟨gb,hgb⟩:=Qg (Zq b);have HGA:=hid hga;have HGB:=hid hgb;have HC1:=hid (zP d W0 a _ (HA.o.ext hE0));rw[hga]at HC1;clear hr hE0 hP hQ hZ hga hgb;obtain⟨p0,p1,p2,p3,p4, -⟩:=HPB.o;obtain⟨q0,q1,q2,q3,q4, -⟩:=HQB.o;go_enter Tryz.func43,Tryz.ntmps43
 go_wp2_with fail
 refine HC1.o.mono ?_;rintro e w1 ⟨rfl,hx1⟩;have HX1:=hid hx1;clear hx1 hW0
 cases ga with
 |false=>
  obtain rfl:Ty.any=r:=by rw[<-HR.o,if_neg (by rw[HGA.o];simp)]
  clear p0 p1 p2 p3 p4 q0 q1 q2 q3 q4;obtain⟨r0,r1,r2,r3,r4,rf⟩:=HZ.o.ext HX1.o;have u0:=rf 0;have u1:=rf 1;have u2:=rf 2;have u3:=rf 3;have u4:=rf 4;obtain⟨W3,hW3,hB3,hH3,hS3,hX3⟩:=QK (HZ.o.ext HX1.o) (.int .i64 6) (.int .i64 0) (.int .i64 0) (.slice none 0 0) (.slice none 0 0);obtain⟨t0,t1,t2,t3,t4, -⟩:=hB3;have HW3:=hid hW3;have HX3:=hid (hX3 w (HE0.o.trans HX1.o) (by omega));have HH3:=hid hH3;clear hW3 hH3 hX3 hS3 rf
  go_wp2
  rw[HW3.o];clear r0 r1 r2 r3 r4;refine bodyPost_ret (v:= .agg #[(.int .i64 6),(.int .i64 0),(.int .i64 0),(.slice none 0 0),(.slice none 0 0)]) (by simp[results,Tryz.results43,go_sem,t0,t1,t2,t3,t4]) rfl ?_;refine⟨_,rfl,Vk,HX3.o⟩
 | true=>
  have q0:=HX1.o.c q0;have q1:=HX1.o.c q1;have q2:=HX1.o.c q2;have q3:=HX1.o.c q3;have q4:=HX1.o.c q4;have HC2:=hid (zP d w1 b _ (HB.o.ext (HE0.o.trans HX1.o)));rw[HGB.o]at HC2
  go_wp2_with fail
  refine HC2.o.mono ?_;rintro e w2 ⟨rfl,hx2⟩;have HX2:=hid (HX1.o.trans hx2);clear hx2
  cases gb with
  |false=>
   obtain rfl:Ty.any=r:=by rw[<-HR.o,if_neg (by rw[HGB.o];simp)]
   clear p0 p1 p2 p3 p4 q0 q1 q2 q3 q4;obtain⟨r0,r1,r2,r3,r4,rf⟩:=HZ.o.ext HX2.o;have u0:=rf 0;have u1:=rf 1;have u2:=rf 2;have u3:=rf 3;have u4:=rf 4;obtain⟨W3,hW3,hB3,hH3,hS3,hX3⟩:=QK (HZ.o.ext HX2.o) (.int .i64 6) (.int .i64 0) (.int .i64 0) (.slice none 0 0) (.slice none 0 0);obtain⟨t0,t1,t2,t3,t4, -⟩:=hB3;have HW3:=hid hW3;have HX3:=hid (hX3 w (HE0.o.trans HX2.o) (by omega));have HH3:=hid hH3;clear hW3 hH3 hX3 hS3 rf
   go_wp2
   rw[HW3.o];clear r0 r1 r2 r3 r4;refine bodyPost_ret (v:= .agg #[(.int .i64 6),(.int .i64 0),(.int .i64 0),(.slice none 0 0),(.slice none 0 0)]) (by simp[results,Tryz.results43,go_sem,t0,t1,t2,t3,t4]) rfl ?_;refine⟨_,rfl,Vk,HX3.o⟩
  |true=>
   obtain rfl:QX a b=r:=by rw[<-HR.o,if_pos ⟨HGA.o,HGB.o⟩]
   have fa:FW a:=(VJ.1 HGA.o).2;have fb:FW b:=(VJ.1 HGB.o).2;have HBN:=hid (gy (yZ fa fb));have HJ:=hid (iZ d w2 All a b _ _ (HA.o.ext (HE0.o.trans HX2.o)) (HB.o.ext (HE0.o.trans HX2.o)) fa fb);have p0:=HX2.o.c HPB.o.1;have p1:=HX2.o.c HPB.o.2.1;have p2:=HX2.o.c HPB.o.2.2.1;have p3:=HX2.o.c HPB.o.2.2.2.1;have p4:=HX2.o.c HPB.o.2.2.2.2.1;have q0:=HX2.o.c HQB.o.1;have q1:=HX2.o.c HQB.o.2.1;have q2:=HX2.o.c HQB.o.2.2.1;have q3:=HX2.o.c HQB.o.2.2.2.1;have q4:=HX2.o.c HQB.o.2.2.2.2.1;clear fa fb
   go_wp2_with fail
   refine HJ.o.mono ?_;rintro e w3 ⟨v3,rfl,hv3,hx3⟩;have HV3:=hid hv3;have HXT:=hid (HX2.o.trans hx3);clear hx3 hv3 p0 p1 p2 p3 p4 q0 q1 q2 q3 q4
   go_wp2_with fail
   refine(qV d w3 (QX a b) v3 HV3.o.all HBN.o).mono ?_;rintro e w4 ⟨_,rfl,⟨A5,n5,c5,B5,m5,e5,rfl,hv4⟩,hx4⟩;have HV4:=hid hv4;have HX4:=hid (HXT.o.trans hx4);clear hx4 hv4;obtain⟨r0,r1,r2,r3,r4,rf⟩:=HZ.o.ext HX4.o;have u0:=rf 0;have u1:=rf 1;have u2:=rf 2;have u3:=rf 3;have u4:=rf 4;obtain⟨W3,hW3,hB3,hH3,hS3,hX3⟩:=QK (HZ.o.ext HX4.o) (.int .i64 (QX a b).kind) (.int .i64 (QX a b).size) (.int .i64 (QX a b).count) (.slice A5 n5 c5) (.slice B5 m5 e5);obtain⟨t0,t1,t2,t3,t4, -⟩:=hB3;have HW3:=hid hW3;have HX3:=hid (hX3 w (HE0.o.trans HX4.o) (by omega));have HH3:=hid hH3;clear hW3 hH3 hX3 hS3 rf
   go_wp2
   rw[HW3.o];clear r0 r1 r2 r3 r4;refine bodyPost_ret (v:= .agg #[(.int .i64 (QX a b).kind),(.int .i64 (QX a b).size),(.int .i64 (QX a b).count),(.slice A5 n5 c5),(.slice B5 m5 e5)]) (by simp[results,Tryz.results43,go_sem,t0,t1,t2,t3,t4]) rfl ?_;refine⟨_,rfl,ry HH3.o ⟨A5,n5,c5,B5,m5,e5,rfl,HV4.o⟩ (by have:=(HZ.o.ext HXT.o).lt;omega),HX3.o⟩
def F2 (d:Nat):Prop:=∀(w:World) (a b:Ty) (va vb:Value),TyV d w All va a->TyV d w All vb b->FW a->FW b->Calls Tryz.prog 66 #[va,vb] w (ZX w (QZ a b))
def Hf (o:Int)(u:Ty)(x:Int×Ty):Bool:=decide (x.1=o) && QZ x.2 u
def nY (w:World)(b:Bool)(e:Ending)(w':World):Prop:=∃r:Int,e= .returned (.int .i64 r)/\decide (r>=0)=b/\Ext w w'
theorem eD {w:World}{b:Nat}{o0 o1 o2 o3 o4 o5:Value}(h:Z9 w b o0 o1 o2 o3 o4 o5)(v0 v1 v2 v3 v4 v5:Value):
  ∃W3,(((((w.setCell ⟨b,0,none⟩ v0).setCell ⟨b,1,none⟩ v1).setCell ⟨b,2,none⟩ v2).setCell ⟨b,3,none⟩ v3).setCell ⟨b,4,none⟩ v4).setCell ⟨b,5,none⟩ v5=W3/\Z9 W3 b v0 v1 v2 v3 v4 v5/\(∀k,k≠b->W3.heap[k]? =w.heap[k]?)/\W3.heap.size=w.heap.size/\∀a,Ext a w->a.heap.size<=b->Ext a W3:=by
 obtain⟨h0,h1,h2,h3,h4,h5,hf⟩:=h;refine⟨_,rfl, ?_,fun k hk=>mF w b v0 v1 v2 v3 v4 v5 hk,by simp,fun a ha hb=>xv ha hb v0 v1 v2 v3 v4 v5⟩;obtain⟨t0,t1,t2,t3,t4,t5⟩:=jv h0 h1 h2 h3 h4 h5 v0 v1 v2 v3 v4 v5;exact⟨t0,t1,t2,t3,t4,t5,fun i=>by simp only[World.frozen?_setCell];exact hf i⟩
end Go.Proofs.YtlmipgdnlfjpaaaGreat
