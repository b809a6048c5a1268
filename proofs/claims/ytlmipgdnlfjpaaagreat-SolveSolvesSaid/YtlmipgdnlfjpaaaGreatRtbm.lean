/- Lemmas of mine, merged. -/
import Derived.Test.YtlmipgdnlfjpaaaGreatJbdm
import Derived.Test.YtlmipgdnlfjpaaaGreatRfDm
import Derived.Test.YtlmipgdnlfjpaaaGreatFslm
set_option maxRecDepth 100000
set_option maxHeartbeats 8000000
set_option linter.unusedSimpArgs false
set_option linter.unusedVariables false
namespace Go.Proofs.YtlmipgdnlfjpaaaGreat
open Go.RowKit Go.Deco
def Dv (l:List (Int×Ty))(o r:Int):Prop:=(∃(k:Nat) (x:Int×Ty),r=k/\l[k]? =some x/\x.1=o/\lkF l o=some x.2)\/(r= -1/\lkF l o=none)
def D4 (w:World)(l:List (Int×Ty))(o:Int)(e:Ending)(w':World):Prop:=∃r:Int,e= .returned (.int .i64 r)/\Dv l o r/\Ext w w'
theorem cZ:∀(l:List (Int×Ty)) (k:Nat) (o:Int),(∀x∈l.take k,x.1≠o)->lkF l o=lkF (l.drop k) o
 |[],k,o,_=>by simp
 |x :: l,0,o,_=>rfl
 |(p,t) :: l,k+1,o,h=>by
  have h0:=h (p,t) (by simp);simp only at h0;rw[lkF,if_neg h0,cZ l k o fun x hx=>h x (by simp[hx])];rfl
theorem aZ {l:List (Int×Ty)}{k:Nat}{x:Int×Ty}(hx:l[k]? =some x)(h:∀y∈l.take k,y.1≠x.1):lkF l x.1=some x.2:=by
 rw[cZ l k x.1 h];obtain⟨hk,he⟩:=Qz hx;rw[List.drop_eq_getElem_cons hk,he];obtain⟨p,t⟩:=x;rw[lkF,if_pos rfl]
theorem lw (d:Nat)(w:World)(A:Option Addr)(n c:Nat)(l:List (Int×Ty))(o:Int)(hl:Sl (fdR (tyR d)) w All (.slice A n c) l):
  Calls Tryz.prog 93 #[.slice A n c,.int .i64 o] w (D4 w l o):=by
 have hln:=hl.len;obtain⟨hnc,hcm⟩:=hl.cap;have HS:=hid hl;have HL:=hid hln;clear hl hln;go_enter Tryz.func93,Tryz.ntmps93
 go_wp2
 go_loopw [5] (fun i wr=>∃k:Nat,k<=n/\i= .int .i64 k/\Hid (Ext w wr)/\Hid (∀y∈l.take k,y.1≠o)) (fun i _=>n - (intOf i).toNat)
 case atStart=>exact⟨0,by omega,rfl,hid (Ext.refl w),hid (by simp)⟩
 case round=>
  obtain⟨k,hk,rfl,HX,HA⟩:=hrel;by_cases h1:k<n
  ·obtain⟨x,hx⟩:∃x,l[k]? =some x:=⟨_,Qq (by have:=HL.o;omega)⟩;obtain⟨d',b,off,A1,n1,c1,B1,m1,e1,hd,rfl,hv1,hi1,x0,x1,x2,x3,x4,x5⟩:=(HS.o.ext HX.o).fd_at hx;have HXX:=hid hx;have i1:(k:Int)<(n:Int):=by omega
   clear hd hv1 hi1 hx;by_cases h2:x.1=o
   ·have g2:(x.1 == o)=true:=by simp[h2]
    have HO:=hid h2;clear h2
    go_wp2
    go_ret;refine⟨_,rfl,.inl ⟨k,x,rfl,HXX.o,HO.o, ?_⟩,HX.o⟩;have h:=HO.o;have ha:=HA.o;subst h;exact aZ HXX.o ha
   ·have g2:(x.1 == o)=false:=by simp[h2]
    have HO:=hid h2;clear h2
    go_wp2
    first
     |go_roundw
     |refine⟨?rel, ?measure⟩
    case rel=>exact⟨k+1,by omega,by go_num,HX,hid (fun y hy=>by
     rw[VC HXX.o]at hy;rcases List.mem_append.1 hy with h|h
     ·exact HA.o y h
     ·rw[List.mem_singleton.1 h];exact HO.o)⟩
    case measure=>simp [intOf];omega
  ·obtain rfl:k=n:=by omega
   have i1:¬(k:Int)<(k:Int):=by omega
   go_wp2
   go_ret;refine⟨_,rfl,.inr ⟨rfl,qm fun f hf=>HA.o f ?_⟩,HX.o⟩;rw[Qj (by have:=HL.o;omega)];exact hf
def F8 (d:Nat):Prop:=∀(w:World) (a b:Ty) (va vb:Value),TyV d w All va a->TyV d w All vb b->FW a->FW b->Calls Tryz.prog 69 #[va,vb] w (ZX w (QZ a b))
theorem iB (d:Nat)(S0:Nat->Prop)(w:World)(t:Ty)(v:Value)(hv:TyV d w S0 v t)(m:Int)(hm:Qy m):Calls Tryz.prog 99 #[v,.int .i64 m] w (qY (d+1) w S0 (Ty.arr t m)):=by
 have hv2:=TyV.mono (S':=fun b=>S0 b/\b<w.heap.size) (fun b hb hi=>⟨hb,hi.lt⟩) hv;obtain⟨A,na,ca,B,nb,cb,rfl,hv3⟩:=hv2;have hv2:TyV d w (fun b=>S0 b/\b<w.heap.size) (.agg #[.int .i64 t.kind,.int .i64 t.size,.int .i64 t.count,.slice A na ca,.slice B nb cb]) t:=⟨A,na,ca,B,nb,cb,rfl,hv3⟩;have HV:=hid hv2;clear hv hv2 hv3;obtain⟨W0,hW0⟩:=Qg ((w.alloc (.cells #[.int .i64 t.kind,.int .i64 t.size,.int .i64 t.count,.slice A na ca,.slice B nb cb] 42)).alloc (.cells #[.int .i64 0,.int .i64 0,.int .i64 0,.slice none 0 0,.slice none 0 0] 42));have hE0:Ext w W0:=by rw[<-hW0];exact((Ext.refl w).alloc _).alloc _
 have o0:W0.cell? ⟨w.heap.size,0,none⟩=some (.int .i64 t.kind):=by rw[<-hW0];simp[go_sem]
 have o1:W0.cell? ⟨w.heap.size,1,none⟩=some (.int .i64 t.size):=by rw[<-hW0];simp[go_sem]
 have o2:W0.cell? ⟨w.heap.size,2,none⟩=some (.int .i64 t.count):=by rw[<-hW0];simp[go_sem]
 have o3:W0.cell? ⟨w.heap.size,3,none⟩=some (.slice A na ca):=by rw[<-hW0];simp[go_sem]
 have o4:W0.cell? ⟨w.heap.size,4,none⟩=some (.slice B nb cb):=by rw[<-hW0];simp[go_sem]
 have hR0:Qm W0 (w.heap.size+1) (.int .i64 0) (.int .i64 0) (.int .i64 0) (.slice none 0 0) (.slice none 0 0):=by
  rw[<-hW0];have:=Qm.new (w.alloc (.cells #[.int .i64 t.kind,.int .i64 t.size,.int .i64 t.count,.slice A na ca,.slice B nb cb] 42)) (.int .i64 0) (.int .i64 0) (.int .i64 0) (.slice none 0 0) (.slice none 0 0) 42
  rwa [show(w.alloc (.cells #[.int .i64 t.kind,.int .i64 t.size,.int .i64 t.count,.slice A na ca,.slice B nb cb] 42)).heap.size=w.heap.size+1 by simp]at this
 have HM:=hid hm;obtain⟨W2,hW2⟩:=Qg (W0.alloc (.cells #[.int .i64 t.kind,.int .i64 t.size,.int .i64 t.count,.slice A na ca,.slice B nb cb] 42));have hE2:Ext W0 W2:=by rw[<-hW2];exact(Ext.refl _).alloc _
 have hs0:W0.heap.size=w.heap.size+2:=by rw[<-hW0];simp
 have hlit:Sl (tyR (d+1)) W2 (fun b=>(S0 b/\b<w.heap.size)\/w.heap.size+2<=b) (.slice (some ⟨W0.heap.size,0,none⟩) 1 1) [t]:=by
  have hrel:(tyR (d+1)).rel W0 (fun b=>S0 b/\b<w.heap.size) [.int .i64 t.kind,.int .i64 t.size,.int .i64 t.count,.slice A na ca,.slice B nb cb] t:=Xb.2 ⟨_,HV.o.ext hE0,rfl⟩;rw[<-hW2]
  have ho:Qf (tyR (d+1)) (W0.alloc (.cells #[.int .i64 t.kind,.int .i64 t.size,.int .i64 t.count,.slice A na ca,.slice B nb cb] 42)) (w.heap.size+2) 42 (fun b=>S0 b/\b<w.heap.size) (.slice (some ⟨W0.heap.size,0,none⟩) 1 1) [t]:=by
   have hl:=World.ownsRow_lit (size:=(tyR (d+1)).size) (e:=42) W0 #[.int .i64 t.kind,.int .i64 t.size,.int .i64 t.count,.slice A na ca,.slice B nb cb] 1 (base:=w.heap.size+2) (by omega) (by simp[maxLen]) (by rw[ZY];rfl);exact⟨_,by simpa using hl,QD.single ((tyR (d+1)).mono (fun b hb hi=>⟨hb,Jf (by have:=hb.2;omega)⟩) ((tyR (d+1)).ext ((Ext.refl W0).alloc _) hrel))⟩
  exact ho.slT (fun b hb=> .inl hb) (fun b hb=> .inr (ho.block b hb).1)
 have HLIT:=hid hlit;have HX2:=hid (hE0.trans hE2);obtain⟨r0,r1,r2,r3,r4,rf⟩:=hR0.ext hE2;have u0:=rf 0;have u1:=rf 1;have u2:=rf 2;have u3:=rf 3;have u4:=rf 4;clear hE2 hlit rf hR0 hE0;have hc:=jj r0 r1 r2 r3 r4 (.int .i64 4) (.int .i64 0) (.int .i64 m) (.slice (some ⟨W0.heap.size,0,none⟩) 1 1) (.slice none 0 0);have hh:=fun {k:Nat} (hk:k≠w.heap.size+1)=>Jv W2 (w.heap.size+1) (.int .i64 4) (.int .i64 0) (.int .i64 m) (.slice (some ⟨W0.heap.size,0,none⟩) 1 1) (.slice none 0 0) hk;have hx:=ZD HX2.o (b:=w.heap.size+1) (by omega) (.int .i64 4) (.int .i64 0) (.int .i64 m) (.slice (some ⟨W0.heap.size,0,none⟩) 1 1) (.slice none 0 0);obtain⟨W3,hW3⟩:=Qg (((((W2.setCell ⟨w.heap.size+1,0,none⟩ (.int .i64 4)).setCell ⟨w.heap.size+1,1,none⟩ (.int .i64 0)).setCell ⟨w.heap.size+1,2,none⟩ (.int .i64 m)).setCell ⟨w.heap.size+1,3,none⟩ (.slice (some ⟨W0.heap.size,0,none⟩) 1 1)).setCell ⟨w.heap.size+1,4,none⟩ (.slice none 0 0));rw[hW3]at hc hx;have HH:Hid (∀k,k≠w.heap.size+1->W3.heap[k]? =W2.heap[k]?):=hid (fun k hk=>by rw[<-hW3];exact hh hk);obtain⟨t0,t1,t2,t3,t4⟩:=hc;have HX3:=hid hx;have HW3:=hid hW3;have HS0:=hid hs0;clear hx hW3 hh hs0;go_enter Tryz.func99,Tryz.ntmps99
 go_wp2
 rw[HW3.o];clear hW2 hW0 r0 r1 r2 r3 r4;refine bodyPost_ret (v:= .agg #[.int .i64 4,.int .i64 0,.int .i64 m,.slice (some ⟨W0.heap.size,0,none⟩) 1 1,.slice none 0 0]) (by simp[results,Tryz.results99,go_sem,t0,t1,t2,t3,t4]) rfl ?_;refine⟨_,rfl,⟨some ⟨W0.heap.size,0,none⟩,1,1,none,0,0,rfl, ?_,Sl.nil,by show Qy 4;unfold Qy;omega,by show Qy 0;unfold Qy;omega,HM.o⟩,HX3.o⟩
 exact(HLIT.o.keep (fun b hb _=>HH.o b (by rcases hb with hb|hb <;> omega))).mono fun b hb _=>by
  rcases hb with hb|hb
  ·exact .inl hb.1
  ·exact .inr (by omega)
theorem iM (d:Nat)(S0:Nat->Prop)(w:World)(t:Ty)(v:Value)(hv:TyV d w S0 v t)(z:Unit):Calls Tryz.prog 23 #[v] w (qY (d+1) w S0 (Ty.ptr t)):=by
 have hv2:=TyV.mono (S':=fun b=>S0 b/\b<w.heap.size) (fun b hb hi=>⟨hb,hi.lt⟩) hv;obtain⟨A,na,ca,B,nb,cb,rfl,hv3⟩:=hv2;have hv2:TyV d w (fun b=>S0 b/\b<w.heap.size) (.agg #[.int .i64 t.kind,.int .i64 t.size,.int .i64 t.count,.slice A na ca,.slice B nb cb]) t:=⟨A,na,ca,B,nb,cb,rfl,hv3⟩;have HV:=hid hv2;clear hv hv2 hv3;obtain⟨W0,hW0⟩:=Qg ((w.alloc (.cells #[.int .i64 t.kind,.int .i64 t.size,.int .i64 t.count,.slice A na ca,.slice B nb cb] 42)).alloc (.cells #[.int .i64 0,.int .i64 0,.int .i64 0,.slice none 0 0,.slice none 0 0] 42));have hE0:Ext w W0:=by rw[<-hW0];exact((Ext.refl w).alloc _).alloc _
 have o0:W0.cell? ⟨w.heap.size,0,none⟩=some (.int .i64 t.kind):=by rw[<-hW0];simp[go_sem]
 have o1:W0.cell? ⟨w.heap.size,1,none⟩=some (.int .i64 t.size):=by rw[<-hW0];simp[go_sem]
 have o2:W0.cell? ⟨w.heap.size,2,none⟩=some (.int .i64 t.count):=by rw[<-hW0];simp[go_sem]
 have o3:W0.cell? ⟨w.heap.size,3,none⟩=some (.slice A na ca):=by rw[<-hW0];simp[go_sem]
 have o4:W0.cell? ⟨w.heap.size,4,none⟩=some (.slice B nb cb):=by rw[<-hW0];simp[go_sem]
 have hR0:Qm W0 (w.heap.size+1) (.int .i64 0) (.int .i64 0) (.int .i64 0) (.slice none 0 0) (.slice none 0 0):=by
  rw[<-hW0];have:=Qm.new (w.alloc (.cells #[.int .i64 t.kind,.int .i64 t.size,.int .i64 t.count,.slice A na ca,.slice B nb cb] 42)) (.int .i64 0) (.int .i64 0) (.int .i64 0) (.slice none 0 0) (.slice none 0 0) 42
  rwa [show(w.alloc (.cells #[.int .i64 t.kind,.int .i64 t.size,.int .i64 t.count,.slice A na ca,.slice B nb cb] 42)).heap.size=w.heap.size+1 by simp]at this
 have HM:=hid (show Qy 0 by unfold Qy;omega);obtain⟨W2,hW2⟩:=Qg (W0.alloc (.cells #[.int .i64 t.kind,.int .i64 t.size,.int .i64 t.count,.slice A na ca,.slice B nb cb] 42));have hE2:Ext W0 W2:=by rw[<-hW2];exact(Ext.refl _).alloc _
 have hs0:W0.heap.size=w.heap.size+2:=by rw[<-hW0];simp
 have hlit:Sl (tyR (d+1)) W2 (fun b=>(S0 b/\b<w.heap.size)\/w.heap.size+2<=b) (.slice (some ⟨W0.heap.size,0,none⟩) 1 1) [t]:=by
  have hrel:(tyR (d+1)).rel W0 (fun b=>S0 b/\b<w.heap.size) [.int .i64 t.kind,.int .i64 t.size,.int .i64 t.count,.slice A na ca,.slice B nb cb] t:=Xb.2 ⟨_,HV.o.ext hE0,rfl⟩;rw[<-hW2]
  have ho:Qf (tyR (d+1)) (W0.alloc (.cells #[.int .i64 t.kind,.int .i64 t.size,.int .i64 t.count,.slice A na ca,.slice B nb cb] 42)) (w.heap.size+2) 42 (fun b=>S0 b/\b<w.heap.size) (.slice (some ⟨W0.heap.size,0,none⟩) 1 1) [t]:=by
   have hl:=World.ownsRow_lit (size:=(tyR (d+1)).size) (e:=42) W0 #[.int .i64 t.kind,.int .i64 t.size,.int .i64 t.count,.slice A na ca,.slice B nb cb] 1 (base:=w.heap.size+2) (by omega) (by simp[maxLen]) (by rw[ZY];rfl);exact⟨_,by simpa using hl,QD.single ((tyR (d+1)).mono (fun b hb hi=>⟨hb,Jf (by have:=hb.2;omega)⟩) ((tyR (d+1)).ext ((Ext.refl W0).alloc _) hrel))⟩
  exact ho.slT (fun b hb=> .inl hb) (fun b hb=> .inr (ho.block b hb).1)
 have HLIT:=hid hlit;have HX2:=hid (hE0.trans hE2);obtain⟨r0,r1,r2,r3,r4,rf⟩:=hR0.ext hE2;have u0:=rf 0;have u1:=rf 1;have u2:=rf 2;have u3:=rf 3;have u4:=rf 4;clear hE2 hlit rf hR0 hE0;have hc:=jj r0 r1 r2 r3 r4 (.int .i64 3) (.int .i64 0) (.int .i64 0) (.slice (some ⟨W0.heap.size,0,none⟩) 1 1) (.slice none 0 0);have hh:=fun {k:Nat} (hk:k≠w.heap.size+1)=>Jv W2 (w.heap.size+1) (.int .i64 3) (.int .i64 0) (.int .i64 0) (.slice (some ⟨W0.heap.size,0,none⟩) 1 1) (.slice none 0 0) hk;have hx:=ZD HX2.o (b:=w.heap.size+1) (by omega) (.int .i64 3) (.int .i64 0) (.int .i64 0) (.slice (some ⟨W0.heap.size,0,none⟩) 1 1) (.slice none 0 0);obtain⟨W3,hW3⟩:=Qg (((((W2.setCell ⟨w.heap.size+1,0,none⟩ (.int .i64 3)).setCell ⟨w.heap.size+1,1,none⟩ (.int .i64 0)).setCell ⟨w.heap.size+1,2,none⟩ (.int .i64 0)).setCell ⟨w.heap.size+1,3,none⟩ (.slice (some ⟨W0.heap.size,0,none⟩) 1 1)).setCell ⟨w.heap.size+1,4,none⟩ (.slice none 0 0));rw[hW3]at hc hx;have HH:Hid (∀k,k≠w.heap.size+1->W3.heap[k]? =W2.heap[k]?):=hid (fun k hk=>by rw[<-hW3];exact hh hk);obtain⟨t0,t1,t2,t3,t4⟩:=hc;have HX3:=hid hx;have HW3:=hid hW3;have HS0:=hid hs0;clear hx hW3 hh hs0;go_enter Tryz.func23,Tryz.ntmps23
 go_wp2
 rw[HW3.o];clear hW2 hW0 r0 r1 r2 r3 r4;refine bodyPost_ret (v:= .agg #[.int .i64 3,.int .i64 0,.int .i64 0,.slice (some ⟨W0.heap.size,0,none⟩) 1 1,.slice none 0 0]) (by simp[results,Tryz.results23,go_sem,t0,t1,t2,t3,t4]) rfl ?_;refine⟨_,rfl,⟨some ⟨W0.heap.size,0,none⟩,1,1,none,0,0,rfl, ?_,Sl.nil,by show Qy 3;unfold Qy;omega,by show Qy 0;unfold Qy;omega,HM.o⟩,HX3.o⟩
 exact(HLIT.o.keep (fun b hb _=>HH.o b (by rcases hb with hb|hb <;> omega))).mono fun b hb _=>by
  rcases hb with hb|hb
  ·exact .inl hb.1
  ·exact .inr (by omega)
def D7 (d:Nat):Prop:=∀(w:World) (S:Nat->Prop) (a b:Ty) (va vb:Value),TyV d w S va a->TyV d w S vb b->FW a->FW b->Calls Tryz.prog 72 #[va,vb] w (qY d w S (QX a b))
theorem uz:∀(l r:List (Int×Ty)) (x:Int×Ty),QC (l ++ [x]) r=QC l r ++ (match lkF r x.1 with
  |some u=>[(x.1,QX x.2 u)]
  |none=>[])
 |[],r,(o,t)=>by
  rw[List.nil_append,QC,QC];cases lkF r o <;> simp[QC]
 |(p,s) :: l,r,x=>by
  rw[List.cons_append,QC,uz l r x,QC];cases lkF r p <;> simp
theorem lQ {f r:List (Int×Ty)}{j:Nat}{x:Int×Ty}(hx:f[j]? =some x):QC (f.take (j+1)) r=QC (f.take j) r ++ (match lkF r x.1 with
  |some u=>[(x.1,QX x.2 u)]
  |none=>[]):=by rw[VC hx,uz]
theorem zZ:∀(l r:List (Int×Ty)),(QC l r).length<=l.length
 |[],r=>by simp[QC]
 |(o,t) :: l,r=>by
  have:=zZ l r;rw[QC];cases lkF r o <;> simp <;> omega
theorem rX {E:Type}{R:Rep E}{w:World}{S:Nat->Prop}{b o n c:Nat}{l:List E}(h:Sl R w S (.slice (some ⟨b,o,none⟩) n c) l)(hn:0<n):b<w.heap.size:=by
 obtain⟨x,hx⟩:∃x,l[0]? =some x:=⟨_,Qq (by have:=h.len;omega)⟩;obtain⟨b',off,cs,hA,hr,hc⟩:=h.get hx;cases hA;have hp:=R.pos;have hl:=R.len hr;have:=hc 0 cs[0] (Qq (by omega));exact World.block_lt_of_cell? _ _ this
theorem eM {w w':World}{b:Nat}{v0 v1 v2 v3 v4:Value}(h:Qm w b v0 v1 v2 v3 v4)(he:w'.heap[b]? =w.heap[b]?):Qm w' b v0 v1 v2 v3 v4:=
 ⟨(World.cell?_of_block he).trans h.1,(World.cell?_of_block he).trans h.2.1,(World.cell?_of_block he).trans h.2.2.1,(World.cell?_of_block he).trans h.2.2.2.1,(World.cell?_of_block he).trans h.2.2.2.2.1,fun i=>(World.frozen?_of_block (a:=⟨b,i,none⟩) he).trans (h.2.2.2.2.2 i)⟩
theorem wY {d g n0:Nat}{w W:World}{S Q:Nat->Prop}{v:Value}{t:Ty}(hh:∀k,k≠g->W.heap[k]? =w.heap[k]?)(h:TyV d w Q v t)(hq:∀b,Q b->b≠g/\(S b\/n0<=b)):TyV d W (fun b=>S b\/n0<=b) v t:=
 (h.keep fun b hb _=>hh b (hq b hb).1).mono fun b hb _=>(hq b hb).2
theorem G1:∀d,D7 d:=by
 intro d
 induction d using Nat.strongRecOn with
 | _ d ih=>
  intro w S a b va vb ha hb fa fb;have HA:=hid (ha.mono (S':=fun b=>S b/\b<w.heap.size) fun b hb hi=>⟨hb,hi.lt⟩);have HB:=hid (hb.mono (S':=fun b=>S b/\b<w.heap.size) fun b hb hi=>⟨hb,hi.lt⟩);clear ha hb;obtain⟨A1,n1,c1,B1,m1,e1,rfl,hE1,hF1, -⟩:=id HA.o;obtain⟨A2,n2,c2,B2,m2,e2,rfl,hE2,hF2, -⟩:=id HB.o;obtain⟨r,hr⟩:=Qg (QX a b);rw[hr];have HR:=hid hr;have HFA:=hid fa;have HFB:=hid fb;obtain⟨k,s,c,e,f⟩:=a;obtain⟨k',s',c',e',f'⟩:=b;rw[cp]at hr;simp only[Ty.kind,Ty.size,Ty.count,Ty.elem,Ty.fields]at hE1 hF1 hE2 hF2 hr HA HB ⊢;have HRR:=hid hr;obtain⟨W0,hW0⟩:=Qg (((w.alloc (.cells #[.int .i64 k,.int .i64 s,.int .i64 c,.slice A1 n1 c1,.slice B1 m1 e1] 42)).alloc (.cells #[.int .i64 k',.int .i64 s',.int .i64 c',.slice A2 n2 c2,.slice B2 m2 e2] 42)).alloc (.cells #[.int .i64 0,.int .i64 0,.int .i64 0,.slice none 0 0,.slice none 0 0] 42));have hE0:Ext w W0:=by rw[<-hW0];exact(((Ext.refl w).alloc _).alloc _).alloc _
  have hs0:W0.heap.size=w.heap.size+3:=by rw[<-hW0];simp
  have hP:Qm W0 w.heap.size (.int .i64 k) (.int .i64 s) (.int .i64 c) (.slice A1 n1 c1) (.slice B1 m1 e1):=by
   rw[<-hW0];exact((Qm.new w _ _ _ _ _ _).ext ((Ext.refl _).alloc _)).ext ((Ext.refl _).alloc _)
  have hQ:Qm W0 (w.heap.size+1) (.int .i64 k') (.int .i64 s') (.int .i64 c') (.slice A2 n2 c2) (.slice B2 m2 e2):=by
   rw[<-hW0];have:=Qm.new (w.alloc (.cells #[.int .i64 k,.int .i64 s,.int .i64 c,.slice A1 n1 c1,.slice B1 m1 e1] 42)) (.int .i64 k') (.int .i64 s') (.int .i64 c') (.slice A2 n2 c2) (.slice B2 m2 e2) 42;rw[show(w.alloc (.cells #[.int .i64 k,.int .i64 s,.int .i64 c,.slice A1 n1 c1,.slice B1 m1 e1] 42)).heap.size=w.heap.size+1 by simp]at this;exact this.ext ((Ext.refl _).alloc _)
  have hZ:Qm W0 (w.heap.size+2) (.int .i64 0) (.int .i64 0) (.int .i64 0) (.slice none 0 0) (.slice none 0 0):=by
   rw[<-hW0];have:=Qm.new ((w.alloc (.cells #[.int .i64 k,.int .i64 s,.int .i64 c,.slice A1 n1 c1,.slice B1 m1 e1] 42)).alloc (.cells #[.int .i64 k',.int .i64 s',.int .i64 c',.slice A2 n2 c2,.slice B2 m2 e2] 42)) (.int .i64 0) (.int .i64 0) (.int .i64 0) (.slice none 0 0) (.slice none 0 0) 42
   rwa [show((w.alloc (.cells #[.int .i64 k,.int .i64 s,.int .i64 c,.slice A1 n1 c1,.slice B1 m1 e1] 42)).alloc (.cells #[.int .i64 k',.int .i64 s',.int .i64 c',.slice A2 n2 c2,.slice B2 m2 e2] 42)).heap.size=w.heap.size+2 by simp]at this
  have HE0:=hid hE0;have HSZ:=hid hs0;have HPB:=hid hP;have HQB:=hid hQ;have HRB:=hid hZ;have HS1:=hid hE1;have HS2:=hid hE2;have HT1:=hid hF1;have HT2:=hid hF2;have HIH:=hid ih;clear hr hE0 hP hQ hZ hE1 hE2 hF1 hF2 ih fa fb hs0;go_enter Tryz.func72,Tryz.ntmps72;obtain⟨p0,p1,p2,p3,p4, -⟩:=HPB.o;obtain⟨q0,q1,q2,q3,q4, -⟩:=HQB.o;by_cases h1:k=0
  ·have g1:(k == 0)=true:=by simp[h1]
   obtain rfl: .mk k' s' c' e' f'=r:=by rw[<-HRR.o,if_pos h1]
   clear h1;obtain⟨r0,r1,r2,r3,r4,rf⟩:=HRB.o;have u0:=rf 0;have u1:=rf 1;have u2:=rf 2;have u3:=rf 3;have u4:=rf 4;obtain⟨W3,hW3,hB3,hH3,hS3,hX3⟩:=QK (HRB.o) (.int .i64 k') (.int .i64 s') (.int .i64 c') (.slice A2 n2 c2) (.slice B2 m2 e2);obtain⟨t0,t1,t2,t3,t4, -⟩:=hB3;have HW3:=hid hW3;have HX3:=hid (hX3 w HE0.o (by omega));have HH3:=hid hH3;clear hW3 hH3 hX3 hS3 rf
   go_wp2
   rw[HW3.o];clear r0 r1 r2 r3 r4;refine bodyPost_ret (v:= .agg #[(.int .i64 k'),(.int .i64 s'),(.int .i64 c'),(.slice A2 n2 c2),(.slice B2 m2 e2)]) (by simp[results,Tryz.results72,go_sem,t0,t1,t2,t3,t4]) rfl ?_;refine⟨_,rfl,(HB.o.ext HX3.o).mono fun b hb _=> .inl hb.1,HX3.o⟩
  have g1:(k == 0)=false:=by simp[h1]
  by_cases h2:k'=0
  ·have g2:(k' == 0)=true:=by simp[h2]
   obtain rfl: .mk k s c e f=r:=by rw[<-HRR.o,if_neg h1,if_pos h2]
   clear h1 h2;obtain⟨r0,r1,r2,r3,r4,rf⟩:=HRB.o;have u0:=rf 0;have u1:=rf 1;have u2:=rf 2;have u3:=rf 3;have u4:=rf 4;obtain⟨W3,hW3,hB3,hH3,hS3,hX3⟩:=QK (HRB.o) (.int .i64 k) (.int .i64 s) (.int .i64 c) (.slice A1 n1 c1) (.slice B1 m1 e1);obtain⟨t0,t1,t2,t3,t4, -⟩:=hB3;have HW3:=hid hW3;have HX3:=hid (hX3 w HE0.o (by omega));have HH3:=hid hH3;clear hW3 hH3 hX3 hS3 rf
   go_wp2
   rw[HW3.o];clear r0 r1 r2 r3 r4;refine bodyPost_ret (v:= .agg #[(.int .i64 k),(.int .i64 s),(.int .i64 c),(.slice A1 n1 c1),(.slice B1 m1 e1)]) (by simp[results,Tryz.results72,go_sem,t0,t1,t2,t3,t4]) rfl ?_;refine⟨_,rfl,(HA.o.ext HX3.o).mono fun b hb _=> .inl hb.1,HX3.o⟩
  have g2:(k' == 0)=false:=by simp[h2]
  by_cases h3:k=k'
  case neg=>
   have g3:(k != k')=true:=by simp[h3]
   obtain rfl:Ty.any=r:=by rw[<-HRR.o,if_neg h1,if_neg h2,if_pos (.inl h3)]
   clear h1 h2 h3;obtain⟨r0,r1,r2,r3,r4,rf⟩:=HRB.o;have u0:=rf 0;have u1:=rf 1;have u2:=rf 2;have u3:=rf 3;have u4:=rf 4;obtain⟨W3,hW3,hB3,hH3,hS3,hX3⟩:=QK (HRB.o) (.int .i64 6) (.int .i64 0) (.int .i64 0) (.slice none 0 0) (.slice none 0 0);obtain⟨t0,t1,t2,t3,t4, -⟩:=hB3;have HW3:=hid hW3;have HX3:=hid (hX3 w HE0.o (by omega));have HH3:=hid hH3;clear hW3 hH3 hX3 hS3 rf
   go_wp2
   rw[HW3.o];clear r0 r1 r2 r3 r4;refine bodyPost_ret (v:= .agg #[(.int .i64 6),(.int .i64 0),(.int .i64 0),(.slice none 0 0),(.slice none 0 0)]) (by simp[results,Tryz.results72,go_sem,t0,t1,t2,t3,t4]) rfl ?_;refine⟨_,rfl,Vk,HX3.o⟩
  subst h3;have g3:(k != k)=false:=by simp
  by_cases h4:k=6
  ·have g4:(k == 6)=true:=by simp[h4]
   obtain rfl:Ty.any=r:=by rw[<-HRR.o,if_neg h1,if_neg h2,if_pos (.inr (.inl h4))]
   clear h1 h2 h4;obtain⟨r0,r1,r2,r3,r4,rf⟩:=HRB.o;have u0:=rf 0;have u1:=rf 1;have u2:=rf 2;have u3:=rf 3;have u4:=rf 4;obtain⟨W3,hW3,hB3,hH3,hS3,hX3⟩:=QK (HRB.o) (.int .i64 6) (.int .i64 0) (.int .i64 0) (.slice none 0 0) (.slice none 0 0);obtain⟨t0,t1,t2,t3,t4, -⟩:=hB3;have HW3:=hid hW3;have HX3:=hid (hX3 w HE0.o (by omega));have HH3:=hid hH3;clear hW3 hH3 hX3 hS3 rf
   go_wp2
   rw[HW3.o];clear r0 r1 r2 r3 r4;refine bodyPost_ret (v:= .agg #[(.int .i64 6),(.int .i64 0),(.int .i64 0),(.slice none 0 0),(.slice none 0 0)]) (by simp[results,Tryz.results72,go_sem,t0,t1,t2,t3,t4]) rfl ?_;refine⟨_,rfl,Vk,HX3.o⟩
  have g4:(k == 6)=false:=by simp[h4]
  by_cases h5:s=s'
  case neg=>
   have g5:(s != s')=true:=by simp[h5]
   obtain rfl:Ty.any=r:=by rw[<-HRR.o,if_neg h1,if_neg h2,if_pos (.inr (.inr h5))]
   clear h1 h2 h4 h5;obtain⟨r0,r1,r2,r3,r4,rf⟩:=HRB.o;have u0:=rf 0;have u1:=rf 1;have u2:=rf 2;have u3:=rf 3;have u4:=rf 4;obtain⟨W3,hW3,hB3,hH3,hS3,hX3⟩:=QK (HRB.o) (.int .i64 6) (.int .i64 0) (.int .i64 0) (.slice none 0 0) (.slice none 0 0);obtain⟨t0,t1,t2,t3,t4, -⟩:=hB3;have HW3:=hid hW3;have HX3:=hid (hX3 w HE0.o (by omega));have HH3:=hid hH3;clear hW3 hH3 hX3 hS3 rf
   go_wp2
   rw[HW3.o];clear r0 r1 r2 r3 r4;refine bodyPost_ret (v:= .agg #[(.int .i64 6),(.int .i64 0),(.int .i64 0),(.slice none 0 0),(.slice none 0 0)]) (by simp[results,Tryz.results72,go_sem,t0,t1,t2,t3,t4]) rfl ?_;refine⟨_,rfl,Vk,HX3.o⟩
  subst h5;have g5:(s != s)=false:=by simp
  have HRR2:=hid HRR.o;rw[if_neg h1,if_neg h2,if_neg (show ¬(k≠k\/k=6\/s≠s) by simp[h4])]at HRR2;by_cases h6:k=3
  ·obtain⟨x,hx⟩:=(Xp HFA.o).2.2.2.2 (.inl h6);obtain⟨y,hy⟩:=(Xp HFB.o).2.2.2.2 (.inl h6);subst h6 hx hy;obtain⟨d1,b1,o1',P1,p1',c1',P2,p2',c2',hd,rfl,hv1,x0,x1,x2,x3,x4⟩:=HS1.o.ty_at (k:=0) rfl;obtain⟨d2,b2,o2',Q1,q1',f1',Q2,q2',f2',hd2,rfl,hv2,y0,y1,y2,y3,y4⟩:=HS2.o.ty_at (k:=0) rfl;obtain rfl:d1=d2:=by omega
   rw[Nat.zero_mul,Nat.add_zero]at x0 x1 x2 x3 x4 y0 y1 y2 y3 y4;have hn1:=HS1.o.len;have hn2:=HS2.o.len;simp only[List.length_singleton]at hn1 hn2;subst hn1 hn2;have fx:=(Xp HFA.o).1 x (List.mem_cons_self ..);have fy:=(Xp HFB.o).1 y (List.mem_cons_self ..);have HC1:=hid (fun w' (hw:Ext w w')=>HIH.o d1 (by omega) w' (fun b=>S b/\b<w.heap.size) x y _ _ (hv1.ext hw) (hv2.ext hw) fx fy);have HD:=hid hd;have x0:=HE0.o.c x0;have x1:=HE0.o.c x1;have x2:=HE0.o.c x2;have x3:=HE0.o.c x3;have x4:=HE0.o.c x4;have y0:=HE0.o.c y0;have y1:=HE0.o.c y1;have y2:=HE0.o.c y2;have y3:=HE0.o.c y3;have y4:=HE0.o.c y4;obtain rfl:Ty.ptr (QX x y)=r:=by rw[<-HRR2.o];simp[Ty.ptr,KD]
   clear hv1 hv2 fx fy hd hd2 h1 h2 h4;go_upto_region 9 with fail
   refine VK 10 (by kernel_rfl) rfl rfl (by kernel_rfl) (fun w'=>w'.cell? ⟨w.heap.size,3,none⟩=some (.slice (some ⟨b1,o1',none⟩) 1 c1)/\w'.cell? ⟨b1,o1',none⟩=some (.int .i64 x.kind)/\w'.cell? ⟨b1,o1'+1,none⟩=some (.int .i64 x.size)/\w'.cell? ⟨b1,o1'+2,none⟩=some (.int .i64 x.count)/\w'.cell? ⟨b1,o1'+3,none⟩=some (.slice P1 p1' c1')/\w'.cell? ⟨b1,o1'+4,none⟩=some (.slice P2 p2' c2')/\w'.cell? ⟨w.heap.size+1,3,none⟩=some (.slice (some ⟨b2,o2',none⟩) 1 c2)/\w'.cell? ⟨b2,o2',none⟩=some (.int .i64 y.kind)/\w'.cell? ⟨b2,o2'+1,none⟩=some (.int .i64 y.size)/\w'.cell? ⟨b2,o2'+2,none⟩=some (.int .i64 y.count)/\w'.cell? ⟨b2,o2'+3,none⟩=some (.slice Q1 q1' f1')/\w'.cell? ⟨b2,o2'+4,none⟩=some (.slice Q2 q2' f2')/\w'.cell? ⟨w.heap.size,2,none⟩=some (.int .i64 c)/\w'.cell? ⟨w.heap.size+1,2,none⟩=some (.int .i64 c')) ⟨p3,x0,x1,x2,x3,x4,q3,y0,y1,y2,y3,y4,p2,q2⟩ (fun hSg1q0=>?_);refine Qp 0 1 2 3 4 5 ?_;refine QJ 6 7 ?_;refine rgC 8 (fun K hK=>?_);go_simp;go_at_call 72;refine(HC1.o _ HE0.o.drew).mono ?_;rintro e w5 ⟨v5,rfl,hv5,hx5⟩;have HX5:=hid hx5.drew_left;have HV5:=hid hv5;clear hx5 hv5;refine rgK hK ⟨HX5.o.c p3,HX5.o.c x0,HX5.o.c x1,HX5.o.c x2,HX5.o.c x3,HX5.o.c x4,HX5.o.c q3,HX5.o.c y0,HX5.o.c y1,HX5.o.c y2,HX5.o.c y3,HX5.o.c y4,HX5.o.c p2,HX5.o.c q2⟩ (fun hSg1q1=>?_);clear hK K;refine rgC 9 (fun K hK=>?_);go_simp;go_at_call 23;refine(iM d1 _ _ (QX x y) v5 HV5.o ()).mono ?_;rintro e w6 ⟨_,rfl,hv6',hx6⟩;obtain⟨A5,n5,c5,B5,m5,e5,rfl,hv6⟩:=hv6';have HX6:=hid (HX5.o.trans hx6);have HV6:=hid hv6;have HLE:=hid hx6.size;clear hx6 hv6;refine rgK hK ⟨HX6.o.c p3,HX6.o.c x0,HX6.o.c x1,HX6.o.c x2,HX6.o.c x3,HX6.o.c x4,HX6.o.c q3,HX6.o.c y0,HX6.o.c y1,HX6.o.c y2,HX6.o.c y3,HX6.o.c y4,HX6.o.c p2,HX6.o.c q2⟩ (fun hSg1q2=>?_);clear hK K;refine wpAnyH_done (by kernel_rfl) ?_ _;change wpList _ _ _ _ _ _;clear p0 p1 p2 p3 p4 q0 q1 q2 q3 q4 x0 x1 x2 x3 x4 y0 y1 y2 y3 y4
   have HPL:Hid (∀b,((S b/\b<w.heap.size\/W0.drew.heap.size<=b)\/w5.heap.size<=b)->b≠w.heap.size+2/\(S b\/w.heap.size<=b)):=hid (fun b hb=>by
    have h1:W0.drew.heap.size=w.heap.size+3:=HSZ.o;have h2:W0.heap.size<=w5.heap.size:=HX5.o.size;have h3:=HSZ.o;rcases hb with(hb|hb)|hb
    ·exact⟨by omega,.inl hb.1⟩
    ·exact⟨by omega,.inr (by omega)⟩
    ·exact⟨by omega,.inr (by omega)⟩)
   obtain⟨r0,r1,r2,r3,r4,rf⟩:=HRB.o.ext HX6.o;have u0:=rf 0;have u1:=rf 1;have u2:=rf 2;have u3:=rf 3;have u4:=rf 4;obtain⟨W3,hW3,hB3,hH3,hS3,hX3⟩:=QK (HRB.o.ext HX6.o) (.int .i64 (Ty.ptr (QX x y)).kind) (.int .i64 (Ty.ptr (QX x y)).size) (.int .i64 (Ty.ptr (QX x y)).count) (.slice A5 n5 c5) (.slice B5 m5 e5);obtain⟨t0,t1,t2,t3,t4, -⟩:=hB3;have HW3:=hid hW3;have HX3:=hid (hX3 w (HE0.o.trans HX6.o) (by omega));have HH3:=hid hH3;clear hW3 hH3 hX3 hS3 rf
   go_wp2
   rw[HW3.o];clear r0 r1 r2 r3 r4;refine bodyPost_ret (v:= .agg #[(.int .i64 (Ty.ptr (QX x y)).kind),(.int .i64 (Ty.ptr (QX x y)).size),(.int .i64 (Ty.ptr (QX x y)).count),(.slice A5 n5 c5),(.slice B5 m5 e5)]) (by simp[results,Tryz.results72,go_sem,t0,t1,t2,t3,t4]) rfl ?_;refine⟨_,rfl,by rw[HD.o];exact wY HH3.o (show TyV (d1+1) w6 _ _ _ from⟨A5,n5,c5,B5,m5,e5,rfl,HV6.o⟩) HPL.o,HX3.o⟩
  have g6:(k == 3)=false:=by simp[h6]
  by_cases h7:k=4
  ·obtain⟨x,hx⟩:=(Xp HFA.o).2.2.2.2 (.inr h7);obtain⟨y,hy⟩:=(Xp HFB.o).2.2.2.2 (.inr h7);subst h7 hx hy;obtain⟨d1,b1,o1',P1,p1',c1',P2,p2',c2',hd,rfl,hv1,x0,x1,x2,x3,x4⟩:=HS1.o.ty_at (k:=0) rfl;obtain⟨d2,b2,o2',Q1,q1',f1',Q2,q2',f2',hd2,rfl,hv2,y0,y1,y2,y3,y4⟩:=HS2.o.ty_at (k:=0) rfl;obtain rfl:d1=d2:=by omega
   rw[Nat.zero_mul,Nat.add_zero]at x0 x1 x2 x3 x4 y0 y1 y2 y3 y4;have hn1:=HS1.o.len;have hn2:=HS2.o.len;simp only[List.length_singleton]at hn1 hn2;subst hn1 hn2;have fx:=(Xp HFA.o).1 x (List.mem_cons_self ..);have fy:=(Xp HFB.o).1 y (List.mem_cons_self ..);have HC1:=hid (fun w' (hw:Ext w w')=>HIH.o d1 (by omega) w' (fun b=>S b/\b<w.heap.size) x y _ _ (hv1.ext hw) (hv2.ext hw) fx fy);have HD:=hid hd;have x0:=HE0.o.c x0;have x1:=HE0.o.c x1;have x2:=HE0.o.c x2;have x3:=HE0.o.c x3;have x4:=HE0.o.c x4;have y0:=HE0.o.c y0;have y1:=HE0.o.c y1;have y2:=HE0.o.c y2;have y3:=HE0.o.c y3;have y4:=HE0.o.c y4;obtain rfl:Ty.arr (QX x y) (min c c')=r:=by rw[<-HRR2.o];simp[Ty.arr,KD]
   have HMN:Hid ((if c'<c then c' else c)=min c c'):=hid (by split <;> omega);have HMI:Hid (Qy (min c c')):=hid (bD (jy HA.o) (jy HB.o));clear hv1 hv2 fx fy hd hd2 h1 h2 h4 h6;go_upto_region 11 with fail
   refine VK 15 (by kernel_rfl) rfl rfl (by kernel_rfl) (fun w'=>w'.cell? ⟨w.heap.size,3,none⟩=some (.slice (some ⟨b1,o1',none⟩) 1 c1)/\w'.cell? ⟨b1,o1',none⟩=some (.int .i64 x.kind)/\w'.cell? ⟨b1,o1'+1,none⟩=some (.int .i64 x.size)/\w'.cell? ⟨b1,o1'+2,none⟩=some (.int .i64 x.count)/\w'.cell? ⟨b1,o1'+3,none⟩=some (.slice P1 p1' c1')/\w'.cell? ⟨b1,o1'+4,none⟩=some (.slice P2 p2' c2')/\w'.cell? ⟨w.heap.size+1,3,none⟩=some (.slice (some ⟨b2,o2',none⟩) 1 c2)/\w'.cell? ⟨b2,o2',none⟩=some (.int .i64 y.kind)/\w'.cell? ⟨b2,o2'+1,none⟩=some (.int .i64 y.size)/\w'.cell? ⟨b2,o2'+2,none⟩=some (.int .i64 y.count)/\w'.cell? ⟨b2,o2'+3,none⟩=some (.slice Q1 q1' f1')/\w'.cell? ⟨b2,o2'+4,none⟩=some (.slice Q2 q2' f2')/\w'.cell? ⟨w.heap.size,2,none⟩=some (.int .i64 c)/\w'.cell? ⟨w.heap.size+1,2,none⟩=some (.int .i64 c')) ⟨p3,x0,x1,x2,x3,x4,q3,y0,y1,y2,y3,y4,p2,q2⟩ (fun hSg2q0=>?_);refine Qp 0 1 2 3 4 5 ?_;refine Qp 6 7 9 10 11 12 ?_;refine rgT 13 ?_;refine rgC 8 (fun K hK=>?_);go_simp;go_at_call 72;refine(HC1.o _ HE0.o.drew).mono ?_;rintro e w5 ⟨v5,rfl,hv5,hx5⟩;have HX5:=hid hx5.drew_left;have HV5:=hid hv5;clear hx5 hv5;refine rgK hK ⟨HX5.o.c p3,HX5.o.c x0,HX5.o.c x1,HX5.o.c x2,HX5.o.c x3,HX5.o.c x4,HX5.o.c q3,HX5.o.c y0,HX5.o.c y1,HX5.o.c y2,HX5.o.c y3,HX5.o.c y4,HX5.o.c p2,HX5.o.c q2⟩ (fun hSg2q1=>?_);clear hK K;refine rgC 14 (fun K hK=>?_);go_simp;rw[HMN.o];go_at_call 99;refine(iB d1 _ _ (QX x y) v5 HV5.o (min c c') HMI.o).mono ?_;rintro e w6 ⟨_,rfl,hv6',hx6⟩;obtain⟨A5,n5,c5,B5,m5,e5,rfl,hv6⟩:=hv6';have HX6:=hid (HX5.o.trans hx6);have HV6:=hid hv6;have HLE:=hid hx6.size;clear hx6 hv6;refine rgK hK ⟨HX6.o.c p3,HX6.o.c x0,HX6.o.c x1,HX6.o.c x2,HX6.o.c x3,HX6.o.c x4,HX6.o.c q3,HX6.o.c y0,HX6.o.c y1,HX6.o.c y2,HX6.o.c y3,HX6.o.c y4,HX6.o.c p2,HX6.o.c q2⟩ (fun hSg2q2=>?_);clear hK K;refine wpAnyH_done (by kernel_rfl) ?_ _;change wpList _ _ _ _ _ _;clear p0 p1 p2 p3 p4 q0 q1 q2 q3 q4 x0 x1 x2 x3 x4 y0 y1 y2 y3 y4
   have HPL:Hid (∀b,((S b/\b<w.heap.size\/W0.drew.heap.size<=b)\/w5.heap.size<=b)->b≠w.heap.size+2/\(S b\/w.heap.size<=b)):=hid (fun b hb=>by
    have h1:W0.drew.heap.size=w.heap.size+3:=HSZ.o;have h2:W0.heap.size<=w5.heap.size:=HX5.o.size;have h3:=HSZ.o;rcases hb with(hb|hb)|hb
    ·exact⟨by omega,.inl hb.1⟩
    ·exact⟨by omega,.inr (by omega)⟩
    ·exact⟨by omega,.inr (by omega)⟩)
   obtain⟨r0,r1,r2,r3,r4,rf⟩:=HRB.o.ext HX6.o;have u0:=rf 0;have u1:=rf 1;have u2:=rf 2;have u3:=rf 3;have u4:=rf 4;obtain⟨W3,hW3,hB3,hH3,hS3,hX3⟩:=QK (HRB.o.ext HX6.o) (.int .i64 (Ty.arr (QX x y) (min c c')).kind) (.int .i64 (Ty.arr (QX x y) (min c c')).size) (.int .i64 (Ty.arr (QX x y) (min c c')).count) (.slice A5 n5 c5) (.slice B5 m5 e5);obtain⟨t0,t1,t2,t3,t4, -⟩:=hB3;have HW3:=hid hW3;have HX3:=hid (hX3 w (HE0.o.trans HX6.o) (by omega));have HH3:=hid hH3;clear hW3 hH3 hX3 hS3 rf
   go_wp2
   rw[HW3.o];clear r0 r1 r2 r3 r4;refine bodyPost_ret (v:= .agg #[(.int .i64 (Ty.arr (QX x y) (min c c')).kind),(.int .i64 (Ty.arr (QX x y) (min c c')).size),(.int .i64 (Ty.arr (QX x y) (min c c')).count),(.slice A5 n5 c5),(.slice B5 m5 e5)]) (by simp[results,Tryz.results72,go_sem,t0,t1,t2,t3,t4]) rfl ?_;refine⟨_,rfl,by rw[HD.o];exact wY HH3.o (show TyV (d1+1) w6 _ _ _ from⟨A5,n5,c5,B5,m5,e5,rfl,HV6.o⟩) HPL.o,HX3.o⟩
  have g7:(k == 4)=false:=by simp[h7]
  by_cases h8:k=5
  case neg=>
   have g8:(k == 5)=false:=by simp[h8]
   obtain rfl: .mk k s c e f=r:=by rw[<-HRR2.o,if_neg h6,if_neg h7,if_neg h8]
   clear h1 h2 h4 h6 h7 h8;obtain⟨r0,r1,r2,r3,r4,rf⟩:=HRB.o;have u0:=rf 0;have u1:=rf 1;have u2:=rf 2;have u3:=rf 3;have u4:=rf 4;obtain⟨W3,hW3,hB3,hH3,hS3,hX3⟩:=QK (HRB.o) (.int .i64 k) (.int .i64 s) (.int .i64 c) (.slice A1 n1 c1) (.slice B1 m1 e1);obtain⟨t0,t1,t2,t3,t4, -⟩:=hB3;have HW3:=hid hW3;have HX3:=hid (hX3 w HE0.o (by omega));have HH3:=hid hH3;clear hW3 hH3 hX3 hS3 rf
   go_wp2
   rw[HW3.o];clear r0 r1 r2 r3 r4;refine bodyPost_ret (v:= .agg #[(.int .i64 k),(.int .i64 s),(.int .i64 c),(.slice A1 n1 c1),(.slice B1 m1 e1)]) (by simp[results,Tryz.results72,go_sem,t0,t1,t2,t3,t4]) rfl ?_;refine⟨_,rfl,(HA.o.ext HX3.o).mono fun b hb _=> .inl hb.1,HX3.o⟩
  subst h8;have fa5:=Xp HFA.o;have fb5:=Xp HFB.o;obtain rfl:Ty.mk 5 0 0 [] (QC f f')=r:=by rw[<-HRR2.o];simp
  have hlf:=HT1.o.len;have hlf2:=HT2.o.len;obtain⟨hca,hcb⟩:=HT1.o.cap;have hf64:=fa5.2.2.2.1;have HFD:=hid fa5;have HFE:=hid fb5;have HLF:=hid hlf;have HLF2:=hid hlf2;have HF64:=hid hf64;obtain⟨W1,hW1⟩:=Qg (W0.alloc (.cells #[.int .i64 0,.int .i64 0,.int .i64 0,.slice none 0 0,.slice none 0 0] 42));have hB1:Qm W1 W0.heap.size (.int .i64 0) (.int .i64 0) (.int .i64 0) (.slice none 0 0) (.slice none 0 0):=by rw[<-hW1];exact Qm.new W0 _ _ _ _ _ _
  have hE1':Ext W0 W1:=by rw[<-hW1];exact(Ext.refl _).alloc _
  obtain⟨W2,hW2,hB2,hH2,hS2,hX2⟩:=QK hB1 (.int .i64 5) (.int .i64 0) (.int .i64 0) (.slice none 0 0) (.slice none 0 0);have HX2:=hid (hX2 W0 hE1' (Nat.le_refl _));have HW2:=hid hW2;have HB2:=hid hB2;obtain⟨z0,z1,z2,z3,z4,zf⟩:=hB1;have y0:=zf 0;have y1:=zf 1;have y2:=zf 2;have y3:=zf 3;have y4:=zf 4;obtain⟨i0,hi0,hi1,hi2,hi3⟩:=info_parts qX;have HI:=hid hi0;have HI0:=hid hi1;have HI1:=hid hi2;have HI2:=hid hi3;clear fa5 fb5 h1 h2 h4 h6 h7 hlf hlf2 hf64 hE1' hW2 hB2 hH2 hS2 hX2 zf hi0 hi1 hi2 hi3;go_upto_region 14 with fail
  rw[HW2.o];clear z0 z1 z2 z3 z4 y0 y1 y2 y3 y4 hW1 g1 g2 g3 g4 g5 g6 g7
  go_wp2
  clear p0 p1 p2 p3 p4 q0 q1 q2 q3 q4 hW0
  go_loopw [6,7] (fun i s7 wr=>∃(j:Nat) (G:Option Addr) (cg:Nat),j<=m1/\i= .int .i64 j/\Hid (Ext W0 wr)/\Hid (Qm wr W0.heap.size (.int .i64 5) (.int .i64 0) (.int .i64 0) (.slice none 0 0) (.slice G (QC (f.take j) f').length cg))/\Hid (Qf (fdR (tyR d)) wr (W0.heap.size+1) 59 (fun b=>(S b/\b<w.heap.size)\/W0.heap.size+1<=b) (.slice G (QC (f.take j) f').length cg) (QC (f.take j) f'))) (fun i _ _=>m1 - (intOf i).toNat)
  case atStart=>exact⟨0,none,0,by omega,rfl,HX2,hid (by simpa [QC] using HB2.o),hid (by simpa [QC] using Qf.nil)⟩
  case round=>
   obtain⟨j,G,cg,hj,rfl,HX,HTB,HO⟩:=hrel;obtain⟨V,hV⟩:∃V,V=wr:=⟨_,rfl⟩;obtain rfl:=hV;obtain⟨F,hF⟩:=Qg (QC (f.take j) f');rw[hF]at HTB HO;have HFF:=hid hF;obtain⟨nF,hnF⟩:=Qg (F.length);rw[hnF]at HTB HO;have HNF:=hid hnF;have hnj:nF<=64:=by rw[<-hnF,<-hF];have:=zZ (f.take j) f';rw[List.length_take]at this;have:=HF64.o;omega
   have HNJ:=hid hnj;obtain⟨p0,p1,p2,p3,p4, -⟩:=HPB.o.ext HX.o;obtain⟨q0,q1,q2,q3,q4, -⟩:=HQB.o.ext HX.o;obtain⟨b0,b1,b2,b3,b4,bf⟩:=HTB.o;clear hF hnF hnj;by_cases h1:j<m1
   ·obtain⟨u,hu⟩:∃u,f[j]? =some u:=⟨_,Qq (by have:=HLF.o;omega)⟩;obtain⟨d1,bx,ox,P1,np1,cp1,P2,np2,cp2,hd,rfl,hv1,hi1,x0,x1,x2,x3,x4,x5⟩:=(HT1.o.ext (HE0.o.trans HX.o)).fd_at hu;have HFC:=hid (fun w' (hw:Ext V w')=>lw d w' B2 m2 e2 f' u.1 ((HT2.o.ext (HE0.o.trans (HX.o.trans hw))).mono fun _ _ _=>trivial));have HUU:=hid hu;have HVU:=hid hv1;have HIU:=hid hi1;have HFU:=hid (HFD.o.2.1 u (Qx hu));have HD:=hid hd;have HTK:=hid (lQ (r:=f') hu);have i1:(j:Int)<(m1:Int):=by omega
    clear hu hd hv1 hi1 b0 b1 b2 b3 bf;go_upto_region 17 with fail
    refine rgH (Ext.hc3 q4 p4 x0) (Ext.refl _).drew (fun hSg3q0=>?_);refine Qp 0 1 2 3 4 5 ?_;refine QJ 6 7 ?_;refine rgC 8 (fun K hK=>?_);go_simp;go_at_call 93;refine(HFC.o _ (Ext.refl V).drew).mono ?_;rintro e w5 ⟨r,rfl,hr,hx5⟩;have HX5:=hid hx5.drew_left;have HR5:=hid hr;clear hx5 hr;refine rgK hK ⟨HX5.o.c q4,HX5.o.c p4,HX5.o.c x0⟩ (fun hSg3q1=>?_);clear hK K;refine rgT 9 ?_;refine wpAnyH_done (by kernel_rfl) ?_ _;have HX05:=hid (HX.o.trans HX5.o);have HTB5:=hid (HTB.o.ext HX5.o);have HO5:=hid (HO.o.ext HX5.o);rcases HR5.o with⟨kk,xx,hrk,hxx,hxo,hlk⟩|⟨hrk,hlk⟩
    case inr=>
     subst hrk;have g5:¬(-1:Int)>=0:=by omega
     rw[hlk]at HTK;simp only[List.append_nil]at HTK;clear p0 p1 p2 p3 p4 q0 q1 q2 q3 q4 b4 x0 x1 x2 x3 x4 x5 hlk HR5 HFC
     go_wp2
     first
      |go_roundw
      |refine⟨?rel, ?measure⟩
     case rel=>exact⟨j+1,G,cg,by omega,by go_num,HX05,hid (by rw[HTK.o,HFF.o,HNF.o];exact HTB5.o),hid (by rw[HTK.o,HFF.o,HNF.o];exact HO5.o)⟩
     case measure=>simp [intOf];omega
    case inl=>
     have HXE:=hid (HE0.o.trans HX05.o);obtain⟨d2,by_,oy,Q1,nq1,cq1,Q2,nq2,cq2,hd2,rfl,hv2,hi2,y0,y1,y2,y3,y4,y5⟩:=(HT2.o.ext HXE.o).fd_at hxx;obtain rfl:d1=d2:=by have:=HD.o;omega
     have hkm:kk<m2:=by have:=(Qz hxx).1;have:=HLF2.o;omega
     obtain⟨hm1c,hm1d⟩:=HT2.o.cap;have HC:=hid (fun w' (hw:Ext w5 w')=>HIH.o d1 (by have:=HD.o;omega) w' (fun b=>S b/\b<w.heap.size) u.2 xx.2 _ _ (HVU.o.ext (HX5.o.trans hw)) (hv2.ext hw) HFU.o (HFE.o.2.1 xx (Qx hxx)));rw[hlk]at HTK;simp only at HTK;subst hrk;have g5:(kk:Int)>=0:=by omega
     have g7:(kk:Int)<(m2:Int):=by omega
     obtain⟨T,hT⟩:=Qg (QX u.2 xx.2);rw[hT]at HC HTK
     have HCL:Hid (∀w',Ext w5 w'->w'.cell? ⟨W0.heap.size,4,none⟩=some (.slice G nF cg)/\w'.cell? ⟨w.heap.size,4,none⟩=some (.slice (some ⟨bx,ox,none⟩) m1 e1)/\w'.cell? ⟨bx,ox+j * 6,none⟩=some (.int .i64 u.1)/\w'.cell? ⟨bx,ox+j * 6+1,none⟩=some (.int .i64 u.2.kind)/\w'.cell? ⟨bx,ox+j * 6+2,none⟩=some (.int .i64 u.2.size)/\w'.cell? ⟨bx,ox+j * 6+3,none⟩=some (.int .i64 u.2.count)/\w'.cell? ⟨bx,ox+j * 6+4,none⟩=some (.slice P1 np1 cp1)/\w'.cell? ⟨bx,ox+j * 6+5,none⟩=some (.slice P2 np2 cp2)/\w'.cell? ⟨w.heap.size+1,4,none⟩=some (.slice (some ⟨by_,oy,none⟩) m2 e2)/\w'.cell? ⟨by_,oy+kk * 6+1,none⟩=some (.int .i64 xx.2.kind)/\w'.cell? ⟨by_,oy+kk * 6+2,none⟩=some (.int .i64 xx.2.size)/\w'.cell? ⟨by_,oy+kk * 6+3,none⟩=some (.int .i64 xx.2.count)/\w'.cell? ⟨by_,oy+kk * 6+4,none⟩=some (.slice Q1 nq1 cq1)/\w'.cell? ⟨by_,oy+kk * 6+5,none⟩=some (.slice Q2 nq2 cq2)):=hid (fun w' hx=>
      ⟨hx.cell (HX5.o.c b4),hx.cell (HX5.o.c p4),hx.cell (HX5.o.c x0),hx.cell (HX5.o.c x1),hx.cell (HX5.o.c x2),hx.cell (HX5.o.c x3),hx.cell (HX5.o.c x4),hx.cell (HX5.o.c x5),hx.cell (HX5.o.c q4),hx.cell y1,hx.cell y2,hx.cell y3,hx.cell y4,hx.cell y5⟩)
     clear hd2 hv2 hi2 hxx hxo hlk hT HR5 HFC p0 p1 p2 p3 p4 q0 q1 q2 q3 q4 b4 x0 x1 x2 x3 x4 x5 y0 y1 y2 y3 y4 y5;go_upto_region 19 with fail
     refine rgS 25 rfl rfl HCL.o (Ext.refl w5).drew (fun hSg4q0=>?_);refine Qp 0 1 2 3 4 5 ?_;refine Qp 6 7 8 9 10 11 ?_;refine Qp 12 13 14 15 16 17 ?_;refine QJ 18 19 ?_;refine rgC 20 (fun K hK=>?_);go_simp;go_at_call 72;refine(HC.o _ (Ext.refl w5).drew).mono ?_;rintro e w6 ⟨v6,rfl,hv6,hx6⟩;have HX6:=hid hx6.drew_left;have HV6:=hid hv6;obtain⟨A6,n6,c6,B6,m6,e6,rfl, -⟩:=hv6;clear hx6;refine rgK hK (HCL.o _ HX6.o) (fun hSg4q1=>?_);clear hK K;refine rgT 21 ?_;refine rgC 22 (fun K hK=>?_);go_simp;refine rgK hK (HCL.o _ (HX6.o.alloc _)) (fun hSg4q2=>?_);clear hK K;refine rgC 23 (fun K hK=>?_);have hown6:=HO5.o.ext HX6.o
     have hrel6:(fdR (tyR d)).rel w6 (fun b=>((S b/\b<w.heap.size)\/W0.heap.size+1<=b)/\some b≠(Value.slice G nF cg).ownBlock) [.int .i64 u.1,.int .i64 T.kind,.int .i64 T.size,.int .i64 T.count,.slice A6 n6 c6,.slice B6 m6 e6] (u.1,T):=(by
      rw[HD.o];refine VG.2 ⟨A6,n6,c6,B6,m6,e6,rfl,HIU.o,HV6.o.mono fun b hb _=>?_⟩;have h5:w5.drew.heap.size=w5.heap.size:=rfl;have h6:=HO5.o.block;have h7:=HTB5.o.lt;rcases hb with hb|hb
      ·exact⟨.inl hb,fun e=>by have:=(h6 b e.symm).1;have:=HSZ.o;omega⟩
      ·exact⟨.inr (by omega),fun e=>by have:=(h6 b e.symm).2;omega⟩)
     refine zp rfl (.tmp 87) (.tmp 108) 40 rfl (W0.heap.size+1) 59 i0 _ 6 80 Tryz.underlying40 HI.o HI0.o HI1.o HI2.o rfl (fdR (tyR d)) (ZJ d) (.slice G nF cg) F rfl hown6 (u.1,T) rfl hrel6 (by rw[HNF.o];have:=HNJ.o;omega) (by rw[HNF.o];have:=HNJ.o;omega) (by have:=HTB5.o.lt;have:=HX6.o.size;omega) ?_;intro A7 c7 w7 hown7 hg7 hloc7;rw[HNF.o]at hown7;have hx7:∀b,b<w6.heap.size->(Value.slice G nF cg).ownBlock≠some b->w7.heap[b]? =w6.heap[b]? :=(fun b hb hn=>(hg7.block b (by simp;omega) (fun e=>hn e.symm)).trans (((Ext.refl w6).alloc _).block hb));have HO7:=hid hown7;have HX7:=hid hx7;have HG7:=hid (((HX05.o.trans HX6.o).alloc _).grown hg7 (fun g hg=>by have:=(hown6.block g hg).1;omega));clear hown7 hg7 hloc7 hx7 hown6 hrel6;rw[HNF.o];have hob:=HO5.o.block;have hcl:=HCL.o _ HX6.o;have hlt:=HX6.o.size;have hw5:∀p v,w6.cell? p=some v->(∀g,(Value.slice G nF cg).ownBlock=some g->p.block≠g)->w7.cell? p=some v:=(fun p v hc hn=>(World.cell?_of_block (HX7.o p.block (World.block_lt_of_cell? _ _ hc) (fun e=>hn _ e rfl))).trans hc);have hoe:∀g,(Value.slice G nF cg).ownBlock=some g->W0.heap.size+1<=g/\w.heap.size+3<=g:=(fun g hg=>⟨(hob g hg).1,by have:=(hob g hg).1;have:=HSZ.o;omega⟩);have hbx:bx<W0.heap.size:=(by have:=rX HT1.o (by omega);have:=HSZ.o;omega);have hby:by_<W0.heap.size:=(by have:=rX HT2.o (by omega);have:=HSZ.o;omega);obtain⟨s0,s1,s2,s3,s4,s5,s6,s7,s8,s9,s10,s11,s12,s13⟩:=hcl;refine rgK hK ⟨hw5 _ _ s0 (fun g hg=>by have:=hoe g hg;simp;omega),hw5 _ _ s1 (fun g hg=>by have:=hoe g hg;simp;omega),hw5 _ _ s2 (fun g hg=>by have:=hoe g hg;simp;omega),hw5 _ _ s3 (fun g hg=>by have:=hoe g hg;simp;omega),hw5 _ _ s4 (fun g hg=>by have:=hoe g hg;simp;omega),hw5 _ _ s5 (fun g hg=>by have:=hoe g hg;simp;omega),hw5 _ _ s6 (fun g hg=>by have:=hoe g hg;simp;omega),hw5 _ _ s7 (fun g hg=>by have:=hoe g hg;simp;omega),hw5 _ _ s8 (fun g hg=>by have:=hoe g hg;simp;omega),hw5 _ _ s9 (fun g hg=>by have:=hoe g hg;simp;omega),hw5 _ _ s10 (fun g hg=>by have:=hoe g hg;simp;omega),hw5 _ _ s11 (fun g hg=>by have:=hoe g hg;simp;omega),hw5 _ _ s12 (fun g hg=>by have:=hoe g hg;simp;omega),hw5 _ _ s13 (fun g hg=>by have:=hoe g hg;simp;omega)⟩ (fun hSg4q3=>?_);clear hK K;refine rgT 24 ?_;refine wpAnyH_done (by kernel_rfl) ?_ _;change wpList _ _ _ _ _ _;have hbox7:Qm w7 W0.heap.size (.int .i64 5) (.int .i64 0) (.int .i64 0) (.slice none 0 0) (.slice G nF cg):=eM (HTB5.o.ext HX6.o) (HX7.o W0.heap.size (HTB5.o.ext HX6.o).lt (fun e=>by have:=(HO5.o.block _ e).1;omega));have HB7:=hid hbox7;obtain⟨t0,t1,t2,t3,t4,tf⟩:=hbox7;have f4:=tf 4;clear tf s0 s1 s2 s3 s4 s5 s6 s7 s8 s9 s10 s11 s12 s13 hw5 hoe hbx hby hlt hob
     go_wp2
     first
      |go_roundw
      |refine⟨?rel, ?measure⟩
     case rel=>
      refine⟨j+1,A7,c7,by omega,by go_num,hid (HG7.o.setCell (Nat.le_refl _) _),hid ?_,hid ?_⟩
      ·rw[HTK.o,HFF.o,List.length_append,HNF.o];exact HB7.o.put4 _
      ·rw[HTK.o,HFF.o,List.length_append,HNF.o];refine HO7.o.set_far (p:=⟨W0.heap.size,4,none⟩) (fun e=>?_) (fun b hb=>?_)
       ·have:=(HO7.o.block _ e).1;simp at this;omega
       ·have:=HSZ.o;rcases hb with hb|hb
        ·show b≠W0.heap.size;omega
        ·show b≠W0.heap.size;omega
     case measure=>simp [intOf];omega
   ·obtain rfl:j=m1:=by omega
    have i1:¬(j:Int)<(j:Int):=by omega
    have HJF:Hid (QC f f'=F):=hid (by have h:=HFF.o;rwa [Qj (by have:=HLF.o;omega)]at h);have HSF:=hid (HO.o.slT (S:=fun b=>(S b/\b<w.heap.size)\/W0.heap.size+1<=b) (fun b hb=>hb) (fun b hb=> .inr (HO.o.block b hb).1));have HRV:=hid (HRB.o.ext HX.o);rw[HJF.o];clear p0 p1 p2 p3 q0 q1 q2 q3 q4 bf;obtain⟨r0,r1,r2,r3,r4,rf⟩:=HRV.o;have u0:=rf 0;have u1:=rf 1;have u2:=rf 2;have u3:=rf 3;have u4:=rf 4;obtain⟨W3,hW3,hB3,hH3,hS3,hX3⟩:=QK HRV.o (.int .i64 5) (.int .i64 0) (.int .i64 0) (.slice none 0 0) (.slice G nF cg);obtain⟨t0,t1,t2,t3,t4, -⟩:=hB3;have HW3:=hid hW3;have HX3:=hid (hX3 w (HE0.o.trans HX.o) (by omega));have HH3:=hid hH3;clear hW3 hH3 hX3 hS3 rf
    go_wp2
    rw[HW3.o];clear r0 r1 r2 r3 r4;refine bodyPost_ret (v:= .agg #[.int .i64 5,.int .i64 0,.int .i64 0,.slice none 0 0,.slice G nF cg]) (by simp[results,Tryz.results72,go_sem,t0,t1,t2,t3,t4]) rfl ?_;refine⟨_,rfl, ?_,HX3.o⟩;refine⟨none,0,0,G,nF,cg,rfl,Sl.nil, ?_,by show Qy 5;unfold Qy;omega,by show Qy 0;unfold Qy;omega,by show Qy 0;unfold Qy;omega⟩;show Sl (fdR (tyR d)) W3 _ (.slice G nF cg) (QC f f');rw[HJF.o];refine(HSF.o.keep fun b hb _=>HH3.o b ?_).mono fun b hb _=>?_
    ·have:=HSZ.o;rcases hb with hb|hb <;> omega
    ·rcases hb with hb|hb
     ·exact .inl hb.1
     ·exact .inr (by have:=HSZ.o;omega)
end Go.Proofs.YtlmipgdnlfjpaaaGreat
