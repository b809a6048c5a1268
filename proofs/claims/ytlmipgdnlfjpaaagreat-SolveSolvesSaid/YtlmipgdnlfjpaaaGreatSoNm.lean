/- Lemmas of mine, merged. -/
import Derived.Test.YtlmipgdnlfjpaaaGreatCelm
import Derived.Test.YtlmipgdnlfjpaaaGreatJbdm
set_option maxRecDepth 100000
set_option maxHeartbeats 2000000
set_option linter.unusedSimpArgs false
set_option linter.unusedVariables false
namespace Go.Proofs.YtlmipgdnlfjpaaaGreat
open Go.RowKit Go.Deco Go.Maps
def VY (l:List Con)(wd:Int)(k:Nat):Bool:=match l[k]? with
 |some c=>decide (c.width≠wd)
 |none=>false
theorem tz:∀args w,(callFunc 103 args).run Tryz.prog w= .ok (.enter 103 args) w:=fun args w=>Y6 Tryz.func103 (by kernel_rfl) rfl args w
structure Fd1 (d:Nat)(w:World)(gs gw sb:Nat)(A:Option Addr)(m me:Nat)(l:List Con)(wd:Int):Prop where
 s:w.cell? ⟨gs,0,none⟩=some (.pointer (some ⟨sb,0,none⟩))
 wd:w.cell? ⟨gw,0,none⟩=some (.int .i64 wd)
 box:w.cell? ⟨sb,0,none⟩=some (.slice A m me)
 sl:Sl (Zf (tyR d)) w All (.slice A m me) l
theorem Fd1.ext {d:Nat}{w w':World}{gs gw sb:Nat}{A:Option Addr}{m me:Nat}{l:List Con}{wd:Int}(h:Fd1 d w gs gw sb A m me l wd)(he:Ext w w'):Fd1 d w' gs gw sb A m me l wd:=⟨he.cell h.s,he.cell h.wd,he.cell h.box,h.sl.ext he⟩
theorem lk {d:Nat}(w:World)(gs gw sb:Nat)(A:Option Addr)(m me:Nat)(l:List Con)(wd:Int)(h:Fd1 d w gs gw sb A m me l wd)(k:Nat)(hk:k<l.length):
  Calls Tryz.prog 103 #[.int .i64 k,.pointer (some ⟨gs,0,none⟩),.pointer (some ⟨gw,0,none⟩)] w (ZX w (VY l wd k)):=by
 obtain⟨c,hc⟩:∃c,l[k]? =some c:=⟨_,Qq hk⟩;obtain⟨d',bx,ox,P1,np1,cp1,P2,np2,cp2,hd,rfl,hv1,hbx, -⟩:=h.sl.con_at hc;have hln:=h.sl.len;obtain⟨hc1,hc2⟩:=h.sl.cap;have x4:=hbx.2.2.2.2.1;have s0:=h.s;have s1:=h.wd;have s2:=h.box;have i1:(0:Int)<=(k:Int):=by omega
 have i2:(k:Int)<(m:Int):=by omega
 have e1:VY l wd k=(c.width != wd):=by unfold VY;rw[hc];simp only[bne,BEq.beq,decide_not]
 obtain⟨cw,hcw⟩:=Qg (c.width);rw[hcw]at x4 e1;rw[e1];clear h hbx hv1 hd hc hln hcw e1;go_enter Tryz.func103,Tryz.ntmps103;go_upto_region 1 with fail
 refine rgH (Ext.hc4 s0 s1 s2 x4) (Ext.refl _).drew (fun hSg1q0=>?_);refine Qp 0 1 2 3 4 5 ?_;refine QB 6 7 8 9 ?_;refine rgT 10 ?_;refine wpAnyH_done (by kernel_rfl) ?_ _
 go_wp2
 go_ret;exact⟨rfl,(Ext.refl w).drew⟩
theorem lp {d:Nat}(w:World)(gs gw sb:Nat)(A B:Option Addr)(m me q qe:Nat)(l:List Con)(wd:Int)(h:Fd1 d w gs gw sb A m me l wd)(L:List Nat)(hL:Sl QF w All (.slice B q qe) L)(hk:∀k∈L,k<l.length):
  Calls Tryz.prog 126 #[.slice B q qe,.func (.func 103) #[] #[.pointer (some ⟨gs,0,none⟩),.pointer (some ⟨gw,0,none⟩)]] w (nY w (L.any (VY l wd))):=by
 have hln:=hL.len;obtain⟨hnc,hcm⟩:=hL.cap;have hen:=tz;obtain⟨z,hz⟩:=Qg (L.any (VY l wd));rw[hz];have HZ:=hid hz;have HS:=hid hL;have HL:=hid hln;have HB:=hid h;have HK:=hid hk;clear hz hL hln h hk;unfold nY;go_enter Tryz.func126,Tryz.ntmps126
 go_wp2
 go_loopw [8] (fun i wr=>∃k:Nat,k<=q/\i= .int .i64 k/\Hid (Ext w wr)/\Hid ((L.take k).any (VY l wd)=false)) (fun i _=>q - (intOf i).toNat)
 case atStart=>exact⟨0,by omega,rfl,hid (Ext.refl w),hid (by simp)⟩
 case round=>
  obtain⟨k,hk,rfl,HX,HA⟩:=hrel;by_cases h1:k<q
  ·obtain⟨x,hx⟩:∃x,L[k]? =some x:=⟨_,Qq (by have:=HL.o;omega)⟩;obtain⟨b,off,rfl,c0⟩:=(HS.o.ext HX.o).num_at hx;have HC:=hid (lk wr gs gw sb A m me l wd (HB.o.ext HX.o) x (HK.o x (Qx hx)));obtain⟨r,hr⟩:=Qg (VY l wd x);rw[hr]at HC;have HXX:=hid hx;have HR:Hid (VY l wd x=r):=hid hr;have c0:=c0.1;clear hx hr
   go_wp2_with fail
   refine(HC.o).mono ?_;rintro e w1 ⟨rfl,hx1⟩;have HX1:=hid (HX.o.trans hx1);clear hx1 c0
   cases r with
   |true=>
    go_wp2
    go_ret;refine⟨_,rfl, ?_,HX1.o⟩;rw[<-HZ.o,List.any_eq_true.2 ⟨x,Qx HXX.o,HR.o⟩];exact Qv (by omega)
   | false=>
    go_wp2
    first
     |go_roundw
     |refine⟨?rel, ?measure⟩
    case rel=>exact⟨k+1,by omega,by go_num,HX1,hid (by rw[pX HXX.o,HA.o,HR.o];rfl)⟩
    case measure=>simp [intOf];omega
  ·obtain rfl:k=q:=by omega
   have ha:=HA.o;rw[Qj (by have:=HL.o;omega)]at ha;have HA2:=hid ha;clear ha
   go_wp2
   go_ret;refine⟨_,rfl, ?_,HX.o⟩;rw[<-HZ.o,HA2.o];rfl
theorem sp {d:Nat}(w:World)(gs gw sb:Nat)(A B:Option Addr)(m me q qe:Nat)(l:List Con)(wd:Int)(h:Fd1 d w gs gw sb A m me l wd)(L:List Nat)(hL:Sl QF w All (.slice B q qe) L)(hk:∀k∈L,k<l.length):
  Calls Tryz.prog 102 #[.slice B q qe,.func (.func 103) #[] #[.pointer (some ⟨gs,0,none⟩),.pointer (some ⟨gw,0,none⟩)]] w (ZX w (L.any (VY l wd))):=by
 have HC:=hid (lp w gs gw sb A B m me q qe l wd h L hL hk);obtain⟨z,hz⟩:=Qg (L.any (VY l wd));rw[hz]at HC ⊢;clear hz h hL hk;go_enter Tryz.func102,Tryz.ntmps102
 go_wp2_with fail
 refine(HC.o).mono ?_;rintro e w1 ⟨r,rfl,hr,hx1⟩;have HX1:=hid hx1;clear hx1
 go_wp2
 go_ret;exact⟨rfl,HX1.o⟩
end Go.Proofs.YtlmipgdnlfjpaaaGreat
