/- Merged by program from texts of my own. -/
import Derived.Test.YtlmipgdnlfjpaaaGreatSabm
import Derived.Test.YtlmipgdnlfjpaaaGreatRfDm
namespace Go.Proofs.YtlmipgdnlfjpaaaGreat
open Go.RowKit Go.Deco
set_option linter.unusedSimpArgs false
set_option linter.unusedVariables false
def FindAt (l:List (Int×Ty))(o r:Int):Prop:=(∃(k:Nat) (x:Int×Ty),r=k∧l[k]? =some x∧x.1=o∧lkF l o=some x.2)∨(r= -1∧lkF l o=none)
def FindF (w:World)(l:List (Int×Ty))(o:Int)(e:Ending)(w':World):Prop:=∃r:Int,e= .returned (.int .i64 r)∧FindAt l o r∧Ext w w'
theorem lkF_skip:∀(l:List (Int×Ty)) (k:Nat) (o:Int),(∀x∈l.take k,x.1≠o)→lkF l o=lkF (l.drop k) o
 |[],k,o,_=>by simp
 |x :: l,0,o,_=>rfl
 |(p,t) :: l,k+1,o,h=>by
  have h0:=h (p,t) (by simp);simp only at h0;rw[lkF,if_neg h0,lkF_skip l k o fun x hx=>h x (by simp[hx])];rfl
theorem lkF_first {l:List (Int×Ty)}{k:Nat}{x:Int×Ty}(hx:l[k]? =some x)(h:∀y∈l.take k,y.1≠x.1):lkF l x.1=some x.2:=by
 rw[lkF_skip l k x.1 h];obtain⟨hk,he⟩:=List.getElem?_eq_some_iff.1 hx;rw[List.drop_eq_getElem_cons hk,he];obtain⟨p,t⟩:=x;rw[lkF,if_pos rfl]
set_option maxRecDepth 100000 in
set_option maxHeartbeats 2000000 in
theorem find31_any (d:Nat)(w:World)(A:Option Addr)(n c:Nat)(l:List (Int×Ty))(o:Int)(hl:Sl (fdR (tyR d)) w All (.slice A n c) l):
  Calls Tryz.prog 93 #[.slice A n c,.int .i64 o] w (FindF w l o):=by
 have hln:=hl.len;obtain⟨hnc,hcm⟩:=hl.cap;have HS:=hid hl;have HL:=hid hln;clear hl hln;go_enter Tryz.func93,Tryz.ntmps93
 go_wp2
 go_loopw [5] (fun i wr=>∃k:Nat,k≤n∧i= .int .i64 k∧Hid (Ext w wr)∧Hid (∀y∈l.take k,y.1≠o)) (fun i _=>n - (intOf i).toNat)
 case atStart=>exact⟨0,by omega,rfl,hid (Ext.refl w),hid (by simp)⟩
 case round=>
  obtain⟨k,hk,rfl,HX,HA⟩:=hrel;by_cases h1:k<n
  ·obtain⟨x,hx⟩:∃x,l[k]? =some x:=⟨_,List.getElem?_eq_getElem (by have:=HL.out;omega)⟩;obtain⟨d',b,off,A1,n1,c1,B1,m1,e1,hd,rfl,hv1,hi1,x0,x1,x2,x3,x4,x5⟩:=(HS.out.ext HX.out).fd_at hx;have HXX:=hid hx;have i1:(k:Int)<(n:Int):=by omega
   clear hd hv1 hi1 hx;by_cases h2:x.1=o
   ·have g2:(x.1 == o)=true:=by simp[h2]
    have HO:=hid h2;clear h2
    go_wp2
    go_ret;refine⟨_,rfl,.inl ⟨k,x,rfl,HXX.out,HO.out, ?_⟩,HX.out⟩;have h:=HO.out;have ha:=HA.out;subst h;exact lkF_first HXX.out ha
   ·have g2:(x.1 == o)=false:=by simp[h2]
    have HO:=hid h2;clear h2
    go_wp2
    first
     |go_roundw
     |refine⟨?rel, ?measure⟩
    case rel=>exact⟨k+1,by omega,by go_num,HX,hid (fun y hy=>by
     rw[take_snoc' HXX.out]at hy;rcases List.mem_append.1 hy with h|h
     ·exact HA.out y h
     ·rw[List.mem_singleton.1 h];exact HO.out)⟩
    case measure=>simp [intOf];omega
  ·obtain rfl:k=n:=by omega
   have i1:¬(k:Int)<(k:Int):=by omega
   go_wp2
   go_ret;refine⟨_,rfl,.inr ⟨rfl,lkF_none fun f hf=>HA.out f ?_⟩,HX.out⟩;rw[List.take_of_length_le (by have:=HL.out;omega)];exact hf
def SubR (d:Nat):Prop:=∀(w:World) (a b:Ty) (va vb:Value),TyV d w All va a→TyV d w All vb b→FW a→FW b→Calls Tryz.prog 69 #[va,vb] w (TBool w (subT a b))
theorem subF_none {l:List (Int×Ty)}{o:Int}{u:Ty}(h:lkF l o=none):subF l o u=false:=by
 rw[Bool.eq_false_iff];intro k;obtain⟨t,ht,_⟩:=(subF_lk l o u).1 k;rw[h]at ht;cases ht
theorem subF_some {l:List (Int×Ty)}{o:Int}{t u:Ty}(h:lkF l o=some t):subF l o u=subT t u:=by
 rw[Bool.eq_iff_iff,subF_lk];constructor
 ·rintro⟨t',ht,hs⟩;rw[h]at ht;cases ht;exact hs
 ·exact fun hs=>⟨t,h,hs⟩
set_option maxRecDepth 100000 in
set_option maxHeartbeats 8000000 in
theorem issub_all:∀d,SubR d:=by
 intro d
 induction d using Nat.strongRecOn with
 | _ d ih=>
  intro w a b va vb ha hb fa fb;obtain⟨A1,n1,c1,B1,m1,e1,rfl,hE1,hF1, -⟩:=ha;obtain⟨A2,n2,c2,B2,m2,e2,rfl,hE2,hF2, -⟩:=hb;obtain⟨z,hz⟩:∃z,subT a b=z:=⟨_,rfl⟩;rw[hz];have HFA:=hid fa;have HFB:=hid fb;obtain⟨k,s,c,e,f⟩:=a;obtain⟨k',s',c',e',f'⟩:=b;rw[subT_eq]at hz;simp only[Ty.kind,Ty.size,Ty.count,Ty.elem,Ty.fields]at hE1 hF1 hE2 hF2 hz ⊢;have HZ:=hid hz;obtain⟨W0,hW0⟩:∃W0,(w.alloc (.cells #[.int .i64 k,.int .i64 s,.int .i64 c,.slice A1 n1 c1,.slice B1 m1 e1] 42)).alloc (.cells #[.int .i64 k',.int .i64 s',.int .i64 c',.slice A2 n2 c2,.slice B2 m2 e2] 42)=W0:=⟨_,rfl⟩;have hE0:Ext w W0:=by rw[←hW0];exact((Ext.refl w).alloc _).alloc _
  have hP:Box5 W0 w.heap.size (.int .i64 k) (.int .i64 s) (.int .i64 c) (.slice A1 n1 c1) (.slice B1 m1 e1):=by
   rw[←hW0];exact(Box5.new w _ _ _ _ _ _).ext ((Ext.refl _).alloc _)
  have hQ:Box5 W0 (w.heap.size+1) (.int .i64 k') (.int .i64 s') (.int .i64 c') (.slice A2 n2 c2) (.slice B2 m2 e2):=by
   rw[←hW0];have:=Box5.new (w.alloc (.cells #[.int .i64 k,.int .i64 s,.int .i64 c,.slice A1 n1 c1,.slice B1 m1 e1] 42)) (.int .i64 k') (.int .i64 s') (.int .i64 c') (.slice A2 n2 c2) (.slice B2 m2 e2) 42
   rwa [show(w.alloc (.cells #[.int .i64 k,.int .i64 s,.int .i64 c,.slice A1 n1 c1,.slice B1 m1 e1] 42)).heap.size=w.heap.size+1 by simp]at this
  have HE0:=hid hE0;have HPB:=hid hP;have HQB:=hid hQ;have HS1:=hid hE1;have HS2:=hid hE2;have HT1:=hid hF1;have HT2:=hid hF2;have HIH:=hid ih;clear hz hE0 hE1 hE2 hF1 hF2 ih fa fb;obtain⟨p0,p1,p2,p3,p4, -⟩:=hP;obtain⟨q0,q1,q2,q3,q4, -⟩:=hQ;by_cases h1:k=0
  ·have g1:(k == 0)=true:=by simp[h1]
   obtain rfl:z=true:=by rw[←HZ.out,if_pos (.inl h1)]
   clear h1;go_enter Tryz.func69,Tryz.ntmps69
   go_wp2
   go_ret;exact⟨rfl,HE0.out⟩
  have g1:(k == 0)=false:=by simp[h1]
  by_cases h2:k'=6
  ·have g2:(k' == 6)=true:=by simp[h2]
   obtain rfl:z=true:=by rw[←HZ.out,if_pos (.inr h2)]
   clear h1 h2;go_enter Tryz.func69,Tryz.ntmps69
   go_wp2
   go_ret;exact⟨rfl,HE0.out⟩
  have g2:(k' == 6)=false:=by simp[h2]
  by_cases h3:k=k'
  case neg=>
   have g3:(k != k')=true:=by simp[h3]
   obtain rfl:z=false:=by rw[←HZ.out,if_neg (by simp[h1,h2]),if_pos h3]
   clear h1 h2 h3;go_enter Tryz.func69,Tryz.ntmps69
   go_wp2
   go_ret;exact⟨rfl,HE0.out⟩
  subst h3;have g3:(k != k)=false:=by simp
  have HZ2:=hid HZ.out;rw[if_neg (show ¬(k=0∨k=6) by simp[h1,h2]),if_neg (show ¬k≠k by simp)]at HZ2;by_cases h4:k=1
  ·have g4:(k == 1)=true:=by simp[h4]
   obtain rfl:decide (s=s')=z:=by rw[←HZ2.out,if_pos (.inl h4)]
   clear h1 h2 h4;have HD:Hid ((s == s')=decide (s=s')):=hid rfl;go_enter Tryz.func69,Tryz.ntmps69
   go_wp2
   go_ret;exact⟨ret_bool HD.out,HE0.out⟩
  have g4:(k == 1)=false:=by simp[h4]
  by_cases h5:k=2
  ·have g5:(k == 2)=true:=by simp[h5]
   obtain rfl:decide (s=s')=z:=by rw[←HZ2.out,if_pos (.inr h5)]
   clear h1 h2 h4 h5;have HD:Hid ((s == s')=decide (s=s')):=hid rfl;go_enter Tryz.func69,Tryz.ntmps69
   go_wp2
   go_ret;exact⟨ret_bool HD.out,HE0.out⟩
  have g5:(k == 2)=false:=by simp[h5]
  rw[if_neg (show ¬(k=1∨k=2) by simp[h4,h5])]at HZ2;by_cases h6:k=3
  ·obtain⟨x,hx⟩:=(fw_parts HFA.out).2.2.2.2 (.inl h6);obtain⟨y,hy⟩:=(fw_parts HFB.out).2.2.2.2 (.inl h6);subst h6 hx hy;obtain⟨d1,b1,o1',P1,p1',c1',P2,p2',c2',hd,rfl,hv1,x0,x1,x2,x3,x4⟩:=HS1.out.ty_at (k:=0) rfl;obtain⟨d2,b2,o2',Q1,q1',f1',Q2,q2',f2',hd2,rfl,hv2,y0,y1,y2,y3,y4⟩:=HS2.out.ty_at (k:=0) rfl;obtain rfl:d1=d2:=by omega
   rw[Nat.zero_mul,Nat.add_zero]at x0 x1 x2 x3 x4 y0 y1 y2 y3 y4;have hn1:=HS1.out.len;have hn2:=HS2.out.len;simp only[List.length_singleton]at hn1 hn2;subst hn1 hn2;have fx:=(fw_parts HFA.out).1 x (List.mem_cons_self ..);have fy:=(fw_parts HFB.out).1 y (List.mem_cons_self ..);have HC1:=hid (fun w' (hw:Ext w w')=>HIH.out d1 (by omega) w' x y _ _ (hv1.ext hw) (hv2.ext hw) fx fy);obtain⟨t,ht⟩:∃t,subT x y=t:=⟨_,rfl⟩;rw[ht]at HC1;have HT:=hid ht;have x0:=HE0.out.cell x0;have x1:=HE0.out.cell x1;have x2:=HE0.out.cell x2;have x3:=HE0.out.cell x3;have x4:=HE0.out.cell x4;have y0:=HE0.out.cell y0;have y1:=HE0.out.cell y1;have y2:=HE0.out.cell y2;have y3:=HE0.out.cell y3;have y4:=HE0.out.cell y4;clear hv1 hv2 fx fy hd hd2 ht;obtain rfl:t=z:=by rw[←HZ2.out,←HT.out];simp[subE]
   clear h1 h2 h4 h5;go_enter Tryz.func69,Tryz.ntmps69;go_upto_region 10 with fail
   refine wp_region_held_drew (S:=(fun w'=>w'.cell? ⟨w.heap.size,3,none⟩=some (.slice (some ⟨b1,o1',none⟩) 1 c1)∧w'.cell? ⟨b1,o1',none⟩=some (.int .i64 x.kind)∧w'.cell? ⟨b1,o1'+1,none⟩=some (.int .i64 x.size)∧w'.cell? ⟨b1,o1'+2,none⟩=some (.int .i64 x.count)∧w'.cell? ⟨b1,o1'+3,none⟩=some (.slice P1 p1' c1')∧w'.cell? ⟨b1,o1'+4,none⟩=some (.slice P2 p2' c2')∧w'.cell? ⟨w.heap.size+1,3,none⟩=some (.slice (some ⟨b2,o2',none⟩) 1 c2)∧w'.cell? ⟨b2,o2',none⟩=some (.int .i64 y.kind)∧w'.cell? ⟨b2,o2'+1,none⟩=some (.int .i64 y.size)∧w'.cell? ⟨b2,o2'+2,none⟩=some (.int .i64 y.count)∧w'.cell? ⟨b2,o2'+3,none⟩=some (.slice Q1 q1' f1')∧w'.cell? ⟨b2,o2'+4,none⟩=some (.slice Q2 q2' f2')∧w'.cell? ⟨w.heap.size,2,none⟩=some (.int .i64 c)∧w'.cell? ⟨w.heap.size+1,2,none⟩=some (.int .i64 c'))) (by kernel_rfl) ⟨p3,x0,x1,x2,x3,x4,q3,y0,y1,y2,y3,y4,p2,q2⟩ (fun hSg1q0=>?_);refine rgT6 0 1 2 3 4 5 ?_;refine rgT2 6 7 ?_;refine rgC 8 (fun K hK=>?_);go_simp;go_at_call 69;refine(HC1.out _ HE0.out.drew).mono ?_;rintro e w5 ⟨rfl,hx5⟩;have HX5:=hid hx5.drew_left;clear hx5;refine rgK hK ⟨HX5.out.cell p3,HX5.out.cell x0,HX5.out.cell x1,HX5.out.cell x2,HX5.out.cell x3,HX5.out.cell x4,HX5.out.cell q3,HX5.out.cell y0,HX5.out.cell y1,HX5.out.cell y2,HX5.out.cell y3,HX5.out.cell y4,HX5.out.cell p2,HX5.out.cell q2⟩ (fun hSg1q1=>?_);clear hK K;refine rgT 9 ?_;refine wpAnyH_done (by kernel_rfl) ?_ _;clear hW0
   go_wp2
   go_ret;exact⟨rfl,HE0.out.trans HX5.out⟩
  have g6:(k == 3)=false:=by simp[h6]
  by_cases h7:k=4
  ·obtain⟨x,hx⟩:=(fw_parts HFA.out).2.2.2.2 (.inr h7);obtain⟨y,hy⟩:=(fw_parts HFB.out).2.2.2.2 (.inr h7);subst h7 hx hy;obtain⟨d1,b1,o1',P1,p1',c1',P2,p2',c2',hd,rfl,hv1,x0,x1,x2,x3,x4⟩:=HS1.out.ty_at (k:=0) rfl;obtain⟨d2,b2,o2',Q1,q1',f1',Q2,q2',f2',hd2,rfl,hv2,y0,y1,y2,y3,y4⟩:=HS2.out.ty_at (k:=0) rfl;obtain rfl:d1=d2:=by omega
   rw[Nat.zero_mul,Nat.add_zero]at x0 x1 x2 x3 x4 y0 y1 y2 y3 y4;have hn1:=HS1.out.len;have hn2:=HS2.out.len;simp only[List.length_singleton]at hn1 hn2;subst hn1 hn2;have fx:=(fw_parts HFA.out).1 x (List.mem_cons_self ..);have fy:=(fw_parts HFB.out).1 y (List.mem_cons_self ..);have HC1:=hid (fun w' (hw:Ext w w')=>HIH.out d1 (by omega) w' x y _ _ (hv1.ext hw) (hv2.ext hw) fx fy);obtain⟨t,ht⟩:∃t,subT x y=t:=⟨_,rfl⟩;rw[ht]at HC1;have HT:=hid ht;have x0:=HE0.out.cell x0;have x1:=HE0.out.cell x1;have x2:=HE0.out.cell x2;have x3:=HE0.out.cell x3;have x4:=HE0.out.cell x4;have y0:=HE0.out.cell y0;have y1:=HE0.out.cell y1;have y2:=HE0.out.cell y2;have y3:=HE0.out.cell y3;have y4:=HE0.out.cell y4;clear hv1 hv2 fx fy hd hd2 ht;clear h1 h2 h4 h5 h6;have HZ3:Hid ((decide (c'≤c) && t)=z):=hid (by rw[←HZ2.out,←HT.out];simp[subE]);go_enter Tryz.func69,Tryz.ntmps69;go_upto_region 12 with fail
   cases t
   ·obtain rfl:z=false:=by rw[←HZ3.out,Bool.and_false]
    refine wp_region_held_drew (S:=(fun w'=>w'.cell? ⟨w.heap.size,3,none⟩=some (.slice (some ⟨b1,o1',none⟩) 1 c1)∧w'.cell? ⟨b1,o1',none⟩=some (.int .i64 x.kind)∧w'.cell? ⟨b1,o1'+1,none⟩=some (.int .i64 x.size)∧w'.cell? ⟨b1,o1'+2,none⟩=some (.int .i64 x.count)∧w'.cell? ⟨b1,o1'+3,none⟩=some (.slice P1 p1' c1')∧w'.cell? ⟨b1,o1'+4,none⟩=some (.slice P2 p2' c2')∧w'.cell? ⟨w.heap.size+1,3,none⟩=some (.slice (some ⟨b2,o2',none⟩) 1 c2)∧w'.cell? ⟨b2,o2',none⟩=some (.int .i64 y.kind)∧w'.cell? ⟨b2,o2'+1,none⟩=some (.int .i64 y.size)∧w'.cell? ⟨b2,o2'+2,none⟩=some (.int .i64 y.count)∧w'.cell? ⟨b2,o2'+3,none⟩=some (.slice Q1 q1' f1')∧w'.cell? ⟨b2,o2'+4,none⟩=some (.slice Q2 q2' f2')∧w'.cell? ⟨w.heap.size,2,none⟩=some (.int .i64 c)∧w'.cell? ⟨w.heap.size+1,2,none⟩=some (.int .i64 c'))) (by kernel_rfl) ⟨p3,x0,x1,x2,x3,x4,q3,y0,y1,y2,y3,y4,p2,q2⟩ (fun hSg2q0=>?_);refine rgT6 0 1 2 3 4 5 ?_;refine rgT2 6 7 ?_;refine rgC 8 (fun K hK=>?_);go_simp;go_at_call 69;refine(HC1.out _ HE0.out.drew).mono ?_;rintro e w5 ⟨rfl,hx5⟩;have HX5:=hid hx5.drew_left;clear hx5;refine rgK hK ⟨HX5.out.cell p3,HX5.out.cell x0,HX5.out.cell x1,HX5.out.cell x2,HX5.out.cell x3,HX5.out.cell x4,HX5.out.cell q3,HX5.out.cell y0,HX5.out.cell y1,HX5.out.cell y2,HX5.out.cell y3,HX5.out.cell y4,HX5.out.cell p2,HX5.out.cell q2⟩ (fun hSg2q1=>?_);clear hK K;refine rgT 9 ?_;refine rgU4 10 11 12 13 ?_;refine rgU 14 ?_;refine rgT2 15 16 ?_;refine wpAnyH_done (by kernel_rfl) ?_ _;clear hW0
    go_wp2
    go_ret;exact⟨rfl,HE0.out.trans HX5.out⟩
   ·by_cases h8:c'≤c
    ·have g8:c≥c':=h8;have g9:decide (c≥c')=true:=decide_eq_true h8;obtain rfl:z=true:=by rw[←HZ3.out,decide_eq_true h8];rfl
     clear h8;refine wp_region_held_drew (S:=(fun w'=>w'.cell? ⟨w.heap.size,3,none⟩=some (.slice (some ⟨b1,o1',none⟩) 1 c1)∧w'.cell? ⟨b1,o1',none⟩=some (.int .i64 x.kind)∧w'.cell? ⟨b1,o1'+1,none⟩=some (.int .i64 x.size)∧w'.cell? ⟨b1,o1'+2,none⟩=some (.int .i64 x.count)∧w'.cell? ⟨b1,o1'+3,none⟩=some (.slice P1 p1' c1')∧w'.cell? ⟨b1,o1'+4,none⟩=some (.slice P2 p2' c2')∧w'.cell? ⟨w.heap.size+1,3,none⟩=some (.slice (some ⟨b2,o2',none⟩) 1 c2)∧w'.cell? ⟨b2,o2',none⟩=some (.int .i64 y.kind)∧w'.cell? ⟨b2,o2'+1,none⟩=some (.int .i64 y.size)∧w'.cell? ⟨b2,o2'+2,none⟩=some (.int .i64 y.count)∧w'.cell? ⟨b2,o2'+3,none⟩=some (.slice Q1 q1' f1')∧w'.cell? ⟨b2,o2'+4,none⟩=some (.slice Q2 q2' f2')∧w'.cell? ⟨w.heap.size,2,none⟩=some (.int .i64 c)∧w'.cell? ⟨w.heap.size+1,2,none⟩=some (.int .i64 c'))) (by kernel_rfl) ⟨p3,x0,x1,x2,x3,x4,q3,y0,y1,y2,y3,y4,p2,q2⟩ (fun hSg3q0=>?_);refine rgT6 0 1 2 3 4 5 ?_;refine rgT2 6 7 ?_;refine rgC 8 (fun K hK=>?_);go_simp;go_at_call 69;refine(HC1.out _ HE0.out.drew).mono ?_;rintro e w5 ⟨rfl,hx5⟩;have HX5:=hid hx5.drew_left;clear hx5;refine rgK hK ⟨HX5.out.cell p3,HX5.out.cell x0,HX5.out.cell x1,HX5.out.cell x2,HX5.out.cell x3,HX5.out.cell x4,HX5.out.cell q3,HX5.out.cell y0,HX5.out.cell y1,HX5.out.cell y2,HX5.out.cell y3,HX5.out.cell y4,HX5.out.cell p2,HX5.out.cell q2⟩ (fun hSg3q1=>?_);clear hK K;refine rgT6 9 10 11 12 13 14 ?_;refine rgT2 15 16 ?_;refine wpAnyH_done (by kernel_rfl) ?_ _;clear hW0
     go_wp2
     go_ret;exact⟨rfl,HE0.out.trans HX5.out⟩
    ·have g8:¬c≥c':=h8;have g9:decide (c≥c')=false:=decide_eq_false h8;obtain rfl:z=false:=by rw[←HZ3.out,decide_eq_false h8];rfl
     clear h8;refine wp_region_held_drew (S:=(fun w'=>w'.cell? ⟨w.heap.size,3,none⟩=some (.slice (some ⟨b1,o1',none⟩) 1 c1)∧w'.cell? ⟨b1,o1',none⟩=some (.int .i64 x.kind)∧w'.cell? ⟨b1,o1'+1,none⟩=some (.int .i64 x.size)∧w'.cell? ⟨b1,o1'+2,none⟩=some (.int .i64 x.count)∧w'.cell? ⟨b1,o1'+3,none⟩=some (.slice P1 p1' c1')∧w'.cell? ⟨b1,o1'+4,none⟩=some (.slice P2 p2' c2')∧w'.cell? ⟨w.heap.size+1,3,none⟩=some (.slice (some ⟨b2,o2',none⟩) 1 c2)∧w'.cell? ⟨b2,o2',none⟩=some (.int .i64 y.kind)∧w'.cell? ⟨b2,o2'+1,none⟩=some (.int .i64 y.size)∧w'.cell? ⟨b2,o2'+2,none⟩=some (.int .i64 y.count)∧w'.cell? ⟨b2,o2'+3,none⟩=some (.slice Q1 q1' f1')∧w'.cell? ⟨b2,o2'+4,none⟩=some (.slice Q2 q2' f2')∧w'.cell? ⟨w.heap.size,2,none⟩=some (.int .i64 c)∧w'.cell? ⟨w.heap.size+1,2,none⟩=some (.int .i64 c'))) (by kernel_rfl) ⟨p3,x0,x1,x2,x3,x4,q3,y0,y1,y2,y3,y4,p2,q2⟩ (fun hSg4q0=>?_);refine rgT6 0 1 2 3 4 5 ?_;refine rgT2 6 7 ?_;refine rgC 8 (fun K hK=>?_);go_simp;go_at_call 69;refine(HC1.out _ HE0.out.drew).mono ?_;rintro e w5 ⟨rfl,hx5⟩;have HX5:=hid hx5.drew_left;clear hx5;refine rgK hK ⟨HX5.out.cell p3,HX5.out.cell x0,HX5.out.cell x1,HX5.out.cell x2,HX5.out.cell x3,HX5.out.cell x4,HX5.out.cell q3,HX5.out.cell y0,HX5.out.cell y1,HX5.out.cell y2,HX5.out.cell y3,HX5.out.cell y4,HX5.out.cell p2,HX5.out.cell q2⟩ (fun hSg4q1=>?_);clear hK K;refine rgT6 9 10 11 12 13 14 ?_;refine rgT2 15 16 ?_;refine wpAnyH_done (by kernel_rfl) ?_ _;clear hW0
     go_wp2
     go_ret;exact⟨rfl,HE0.out.trans HX5.out⟩
  have g7:(k == 4)=false:=by simp[h7]
  rw[if_neg h6,if_neg h7]at HZ2;have hfa:=fw_parts HFA.out;have hfb:=fw_parts HFB.out;have hlen:=HT2.out.len;obtain⟨hca,hcb⟩:=HT2.out.cap;have hlen1:=HT1.out.len;have HLN:=hid hlen;have HLN1:=hid hlen1;have HFD:=hid hfa;have HFE:=hid hfb;have HP3:=hid p4;have HQ3:=hid q4;clear h1 h2 h4 h5 h6 h7 hfa hfb hlen hlen1;go_enter Tryz.func69,Tryz.ntmps69
  go_wp2
  clear p0 p1 p2 p3 p4 q0 q1 q2 q3 q4 g1 g2 g3 g4 g5 g6 g7 hW0
  go_loopw [5,6] (fun i y6 wr=>∃j:Nat,j≤m2∧i= .int .i64 j∧Hid (Ext W0 wr)∧Hid ((f'.take j).all (fun g=>subF f g.1 g.2)=true)) (fun i _ _=>m2 - (intOf i).toNat)
  case atStart=>exact⟨0,by omega,rfl,hid (Ext.refl _),hid rfl⟩
  case round=>
   obtain⟨j,hj,rfl,HX,HA⟩:=hrel;obtain⟨V,hV⟩:∃V,V=wr:=⟨_,rfl⟩;obtain rfl:=hV;have p4:=HX.out.cell HP3.out;have q4:=HX.out.cell HQ3.out;by_cases h1:j<m2
   ·obtain⟨u,hu⟩:∃u,f'[j]? =some u:=⟨_,List.getElem?_eq_getElem (by have:=HLN.out;omega)⟩;obtain⟨d1,bx,ox,P1,np1,cp1,P2,np2,cp2,hd,rfl,hv1,hi1,x0,x1,x2,x3,x4,x5⟩:=(HT2.out.ext (HE0.out.trans HX.out)).fd_at hu;have HFC:=hid (fun w' (hw:Ext V w')=>find31_any d w' B1 m1 e1 f u.1 (HT1.out.ext (HE0.out.trans (HX.out.trans hw))));have hmem:=List.mem_of_getElem? hu;have HUU:=hid hu;have HVU:=hid hv1;have HFU:=hid (HFE.out.2.1 u hmem);have HD:=hid hd;have i1:(j:Int)<(m2:Int):=by omega
    clear hu hd hv1 hi1 hmem;go_upto_region 16 with fail
    refine wp_region_held_drew (S:=(fun w'=>w'.cell? ⟨w.heap.size,4,none⟩=some (.slice B1 m1 e1)∧w'.cell? ⟨w.heap.size+1,4,none⟩=some (.slice (some ⟨bx,ox,none⟩) m2 e2)∧w'.cell? ⟨bx,ox+j * 6,none⟩=some (.int .i64 u.1))) (by kernel_rfl) ⟨p4,q4,x0⟩ (fun hSg5q0=>?_);refine rgT6 0 1 2 3 4 5 ?_;refine rgT2 6 7 ?_;refine rgC 8 (fun K hK=>?_);go_simp;go_at_call 93;refine(HFC.out _ (Ext.refl V).drew).mono ?_;rintro e w5 ⟨r,rfl,hr,hx5⟩;have HX5:=hid hx5.drew_left;have HR:=hid hr;clear hx5 hr;refine rgK hK ⟨HX5.out.cell p4,HX5.out.cell q4,HX5.out.cell x0⟩ (fun hSg5q1=>?_);clear hK K;refine rgT 9 ?_;refine wpAnyH_done (by kernel_rfl) ?_ _;have p4:=HX5.out.cell p4;have q4:=HX5.out.cell q4;have x0:=HX5.out.cell x0;have x1:=HX5.out.cell x1;have x2:=HX5.out.cell x2;have x3:=HX5.out.cell x3;have x4:=HX5.out.cell x4;have x5:=HX5.out.cell x5;rcases HR.out with⟨kk,xx,hrk,hxx,hxo,hlk⟩|⟨hrk,hlk⟩
    ·have HXE:=hid (HE0.out.trans (HX.out.trans HX5.out));obtain⟨d2,by_,oy,Q1,nq1,cq1,Q2,nq2,cq2,hd2,rfl,hv2,hi2,y0,y1,y2,y3,y4,y5⟩:=(HT1.out.ext HXE.out).fd_at hxx;obtain rfl:d1=d2:=by have:=HD.out;omega
     have hkm:kk<m1:=by have:=(List.getElem?_eq_some_iff.1 hxx).1;have:=HLN1.out;omega
     obtain⟨hm1c,hm1d⟩:=HT1.out.cap;have HC:=hid (fun w' (hw:Ext w5 w')=>HIH.out d1 (by have:=HD.out;omega) w' xx.2 u.2 _ _ (hv2.ext hw) (HVU.out.ext (HX5.out.trans hw)) (HFD.out.2.1 xx (List.mem_of_getElem? hxx)) HFU.out);obtain⟨t,ht⟩:∃t,subT xx.2 u.2=t:=⟨_,rfl⟩;rw[ht]at HC;have HT:Hid (subF f u.1 u.2=t):=hid (by rw[subF_some hlk,ht]);subst hrk;have g5:decide ((kk:Int)<0)=false:=decide_eq_false (by omega);have g6:¬(kk:Int)<0:=by omega
     have g7:(kk:Int)<(m1:Int):=by omega
     clear hd2 hv2 hi2 hxx hxo hlk ht HR HFC;go_upto_region 17 with fail
     refine wp_region_held_drew (S:=(fun w'=>w'.cell? ⟨w.heap.size,4,none⟩=some (.slice (some ⟨by_,oy,none⟩) m1 e1)∧w'.cell? ⟨by_,oy+kk * 6+1,none⟩=some (.int .i64 xx.2.kind)∧w'.cell? ⟨by_,oy+kk * 6+2,none⟩=some (.int .i64 xx.2.size)∧w'.cell? ⟨by_,oy+kk * 6+3,none⟩=some (.int .i64 xx.2.count)∧w'.cell? ⟨by_,oy+kk * 6+4,none⟩=some (.slice Q1 nq1 cq1)∧w'.cell? ⟨by_,oy+kk * 6+5,none⟩=some (.slice Q2 nq2 cq2)∧w'.cell? ⟨w.heap.size+1,4,none⟩=some (.slice (some ⟨bx,ox,none⟩) m2 e2)∧w'.cell? ⟨bx,ox+j * 6+1,none⟩=some (.int .i64 u.2.kind)∧w'.cell? ⟨bx,ox+j * 6+2,none⟩=some (.int .i64 u.2.size)∧w'.cell? ⟨bx,ox+j * 6+3,none⟩=some (.int .i64 u.2.count)∧w'.cell? ⟨bx,ox+j * 6+4,none⟩=some (.slice P1 np1 cp1)∧w'.cell? ⟨bx,ox+j * 6+5,none⟩=some (.slice P2 np2 cp2))) (by kernel_rfl) ⟨p4,y1,y2,y3,y4,y5,q4,x1,x2,x3,x4,x5⟩ (fun hSg6q0=>?_);refine rgT6 0 1 2 3 4 5 ?_;refine rgT6 6 7 8 9 10 11 ?_;refine rgT3 12 13 14 ?_;refine rgC 15 (fun K hK=>?_);go_simp;go_at_call 69;refine(HC.out _ (Ext.refl w5).drew).mono ?_;rintro e w6 ⟨rfl,hx6⟩;have HX6:=hid hx6.drew_left;clear hx6;refine rgK hK ⟨HX6.out.cell p4,HX6.out.cell y1,HX6.out.cell y2,HX6.out.cell y3,HX6.out.cell y4,HX6.out.cell y5,HX6.out.cell q4,HX6.out.cell x1,HX6.out.cell x2,HX6.out.cell x3,HX6.out.cell x4,HX6.out.cell x5⟩ (fun hSg6q1=>?_);clear hK K;refine rgT2 16 17 ?_;refine wpAnyH_done (by kernel_rfl) ?_ _;have HXN:=hid (HX.out.trans (HX5.out.trans HX6.out));clear p4 q4 x0 x1 x2 x3 x4 x5 y0 y1 y2 y3 y4 y5 g5 g6 g7
     cases t with
     | true=>
      go_wp2
      first
       |go_roundw
       |refine⟨?rel, ?measure⟩
      case rel=>exact⟨j+1,by omega,by go_num,HXN,hid (allT_step HUU.out HT.out HA.out)⟩
      case measure=>simp [intOf];omega
     |false=>
      obtain rfl:z=false:=by rw[←HZ2.out];exact allT_hit HUU.out HT.out
      go_wp2
      go_ret;exact⟨rfl,HE0.out.trans HXN.out⟩
    ·subst hrk;have HT:Hid (subF f u.1 u.2=false):=hid (subF_none hlk);obtain rfl:z=false:=by rw[←HZ2.out];exact allT_hit HUU.out HT.out
     have HXN:=hid (HX.out.trans HX5.out);clear hlk HR HFC;go_upto_region 17 with fail
     refine wp_region_held_drew (S:=(fun w'=>True)) (by kernel_rfl) trivial (fun hSg7q0=>?_);refine rgT3 0 1 2 ?_;refine rgU4 3 4 5 6 ?_;refine rgU4 7 8 9 10 ?_;refine rgU4 11 12 13 14 ?_;refine rgC 15 (fun K hK=>?_);refine cast (if_neg (fun h=>Bool.noConfusion (show false=true from h))).symm ?_;refine rgK hK (by assumption) (fun hSg7q1=>?_);clear hK K;refine rgU 16 ?_;refine rgT 17 ?_;refine wpAnyH_done (by kernel_rfl) ?_ _;clear p4 q4 x0 x1 x2 x3 x4 x5
     go_wp2
     go_ret;exact⟨rfl,(HE0.out.trans HXN.out).drew⟩
   ·obtain rfl:j=m2:=by omega
    have i1:¬(j:Int)<(j:Int):=by omega
    have ha:=HA.out;rw[List.take_of_length_le (by have:=HLN.out;omega)]at ha;obtain rfl:z=true:=by rw[←HZ2.out,ha]
    clear ha
    go_wp2
    go_ret;exact⟨rfl,HE0.out.trans HX.out⟩
set_option maxRecDepth 100000 in
set_option maxHeartbeats 8000000 in
theorem sub31_any (d:Nat)(w:World)(a b:Ty)(va vb:Value)(ha:TyV d w All va a)(hb:TyV d w All vb b):Calls Tryz.prog 41 #[va,vb] w (TBool w (subG a b)):=by
 have HA:=hid ha;have HB:=hid hb;obtain⟨A1,n1,c1,B1,m1,e1,rfl, -⟩:=ha;obtain⟨A2,n2,c2,B2,m2,e2,rfl, -⟩:=hb;obtain⟨z,hz⟩:∃z,subG a b=z:=⟨_,rfl⟩;rw[hz];unfold subG at hz;have HZ:=hid hz;obtain⟨W0,hW0⟩:∃W0,(w.alloc (.cells #[.int .i64 a.kind,.int .i64 a.size,.int .i64 a.count,.slice A1 n1 c1,.slice B1 m1 e1] 42)).alloc (.cells #[.int .i64 b.kind,.int .i64 b.size,.int .i64 b.count,.slice A2 n2 c2,.slice B2 m2 e2] 42)=W0:=⟨_,rfl⟩;have hE0:Ext w W0:=by rw[←hW0];exact((Ext.refl w).alloc _).alloc _
 have hP:Box5 W0 w.heap.size (.int .i64 a.kind) (.int .i64 a.size) (.int .i64 a.count) (.slice A1 n1 c1) (.slice B1 m1 e1):=by
  rw[←hW0];exact(Box5.new w _ _ _ _ _ _).ext ((Ext.refl _).alloc _)
 have hQ:Box5 W0 (w.heap.size+1) (.int .i64 b.kind) (.int .i64 b.size) (.int .i64 b.count) (.slice A2 n2 c2) (.slice B2 m2 e2):=by
  rw[←hW0];have:=Box5.new (w.alloc (.cells #[.int .i64 a.kind,.int .i64 a.size,.int .i64 a.count,.slice A1 n1 c1,.slice B1 m1 e1] 42)) (.int .i64 b.kind) (.int .i64 b.size) (.int .i64 b.count) (.slice A2 n2 c2) (.slice B2 m2 e2) 42
  rwa [show(w.alloc (.cells #[.int .i64 a.kind,.int .i64 a.size,.int .i64 a.count,.slice A1 n1 c1,.slice B1 m1 e1] 42)).heap.size=w.heap.size+1 by simp]at this
 have HE0:=hid hE0;have HPB:=hid hP;have HQB:=hid hQ;obtain⟨ga,hga⟩:∃g,chkT a=g:=⟨_,rfl⟩;obtain⟨gb,hgb⟩:∃g,chkT b=g:=⟨_,rfl⟩;have HGA:=hid hga;have HGB:=hid hgb;have HC1:=hid (check31_any d W0 a _ (HA.out.ext hE0));rw[hga]at HC1;clear hz hE0 hP hQ hga hgb;obtain⟨p0,p1,p2,p3,p4, -⟩:=HPB.out;obtain⟨q0,q1,q2,q3,q4, -⟩:=HQB.out;go_enter Tryz.func41,Tryz.ntmps41
 go_wp2_with fail
 refine HC1.out.mono ?_;rintro e w1 ⟨rfl,hx1⟩;have HX1:=hid hx1;clear hx1 hW0;by_cases h1:ga=0
 case neg=>
  have g1:((ga:Int) == 0)=false:=by simp;omega
  obtain rfl:z=false:=by rw[←HZ.out,show goodT a=false from decide_eq_false (by rw[HGA.out];exact h1)];rfl
  clear p0 p1 p2 p3 p4 q0 q1 q2 q3 q4 h1
  go_wp2
  go_ret;exact⟨rfl,HE0.out.trans HX1.out⟩
 subst h1;have q0:=HX1.out.cell q0;have q1:=HX1.out.cell q1;have q2:=HX1.out.cell q2;have q3:=HX1.out.cell q3;have q4:=HX1.out.cell q4;have HC2:=hid (check31_any d w1 b _ (HB.out.ext (HE0.out.trans HX1.out)));rw[HGB.out]at HC2
 go_wp2_with fail
 refine HC2.out.mono ?_;rintro e w2 ⟨rfl,hx2⟩;have HX2:=hid (HX1.out.trans hx2);clear hx2;have hga:goodT a=true:=decide_eq_true HGA.out;by_cases h2:gb=0
 case neg=>
  have g2:((gb:Int) == 0)=false:=by simp;omega
  obtain rfl:z=false:=by rw[←HZ.out,hga,show goodT b=false from decide_eq_false (by rw[HGB.out];exact h2)];rfl
  clear p0 p1 p2 p3 p4 q0 q1 q2 q3 q4 h2 hga
  go_wp2
  go_ret;exact⟨rfl,HE0.out.trans HX2.out⟩
 subst h2;have hgb:goodT b=true:=decide_eq_true HGB.out;have fa:FW a:=(goodT_iff.1 hga).2;have fb:FW b:=(goodT_iff.1 hgb).2;have HJ:=hid (issub_all d w2 a b _ _ (HA.out.ext (HE0.out.trans HX2.out)) (HB.out.ext (HE0.out.trans HX2.out)) fa fb);obtain⟨y,hy⟩:∃y,subT a b=y:=⟨_,rfl⟩;rw[hy]at HJ;obtain rfl:z=y:=by rw[←HZ.out,hga,hgb,hy];rfl
 have p0:=HX2.out.cell HPB.out.1;have p1:=HX2.out.cell HPB.out.2.1;have p2:=HX2.out.cell HPB.out.2.2.1;have p3:=HX2.out.cell HPB.out.2.2.2.1;have p4:=HX2.out.cell HPB.out.2.2.2.2.1;have q0:=HX2.out.cell HQB.out.1;have q1:=HX2.out.cell HQB.out.2.1;have q2:=HX2.out.cell HQB.out.2.2.1;have q3:=HX2.out.cell HQB.out.2.2.2.1;have q4:=HX2.out.cell HQB.out.2.2.2.2.1;clear fa fb hy hga hgb
 go_wp2_with fail
 refine HJ.out.mono ?_;rintro e w3 ⟨rfl,hx3⟩;have HX3:=hid (HX2.out.trans hx3);clear hx3 p0 p1 p2 p3 p4 q0 q1 q2 q3 q4
 go_wp2
 go_ret;exact⟨rfl,HE0.out.trans HX3.out⟩
end Go.Proofs.YtlmipgdnlfjpaaaGreat
