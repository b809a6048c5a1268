/- Merged by program from texts of my own. -/
import Derived.Test.YtlmipgdnlfjpaaaGreatCelm
import Derived.Test.YtlmipgdnlfjpaaaGreatSabm
namespace Go.Proofs.YtlmipgdnlfjpaaaGreat
open Go.RowKit Go.Deco Go.Maps
set_option linter.unusedSimpArgs false
set_option linter.unusedVariables false
def diffK (l:List Con)(wd:Int)(k:Nat):Bool:=match l[k]? with
 |some c=>decide (c.width≠wd)
 |none=>false
theorem call_field1:∀args w,(callFunc 103 args).run Tryz.prog w= .ok (.enter 103 args) w:=fun args w=>callFunc_enter Tryz.func103 (by kernel_rfl) rfl args w
structure Fd1 (d:Nat)(w:World)(gs gw sb:Nat)(A:Option Addr)(m me:Nat)(l:List Con)(wd:Int):Prop where
 s:w.cell? ⟨gs,0,none⟩=some (.pointer (some ⟨sb,0,none⟩))
 wd:w.cell? ⟨gw,0,none⟩=some (.int .i64 wd)
 box:w.cell? ⟨sb,0,none⟩=some (.slice A m me)
 sl:Sl (conR (tyR d)) w All (.slice A m me) l
theorem Fd1.ext {d:Nat}{w w':World}{gs gw sb:Nat}{A:Option Addr}{m me:Nat}{l:List Con}{wd:Int}(h:Fd1 d w gs gw sb A m me l wd)(he:Ext w w'):Fd1 d w' gs gw sb A m me l wd:=⟨he.cell h.s,he.cell h.wd,he.cell h.box,h.sl.ext he⟩
set_option maxRecDepth 100000 in
set_option maxHeartbeats 2000000 in
theorem field1_any {d:Nat}(w:World)(gs gw sb:Nat)(A:Option Addr)(m me:Nat)(l:List Con)(wd:Int)(h:Fd1 d w gs gw sb A m me l wd)(k:Nat)(hk:k<l.length):
  Calls Tryz.prog 103 #[.int .i64 k,.pointer (some ⟨gs,0,none⟩),.pointer (some ⟨gw,0,none⟩)] w (TBool w (diffK l wd k)):=by
 obtain⟨c,hc⟩:∃c,l[k]? =some c:=⟨_,List.getElem?_eq_getElem hk⟩;obtain⟨d',bx,ox,P1,np1,cp1,P2,np2,cp2,hd,rfl,hv1,hbx, -⟩:=h.sl.con_at hc;have hln:=h.sl.len;obtain⟨hc1,hc2⟩:=h.sl.cap;have x4:=hbx.2.2.2.2.1;have s0:=h.s;have s1:=h.wd;have s2:=h.box;have i1:(0:Int)≤(k:Int):=by omega
 have i2:(k:Int)<(m:Int):=by omega
 have e1:diffK l wd k=(c.width != wd):=by unfold diffK;rw[hc];simp only[bne,BEq.beq,decide_not]
 obtain⟨cw,hcw⟩:∃cw,c.width=cw:=⟨_,rfl⟩;rw[hcw]at x4 e1;rw[e1];clear h hbx hv1 hd hc hln hcw e1;go_enter Tryz.func103,Tryz.ntmps103;go_upto_region 1 with fail
 refine wp_region_held_drew (S:=(fun w'=>w'.cell? ⟨gs,0,none⟩=some (.pointer (some ⟨sb,0,none⟩))∧w'.cell? ⟨gw,0,none⟩=some (.int .i64 wd)∧w'.cell? ⟨sb,0,none⟩=some (.slice (some ⟨bx,ox,none⟩) m me)∧w'.cell? ⟨bx,ox+k * 10+4,none⟩=some (.int .i64 cw))) (by kernel_rfl) ⟨(Ext.refl w).drew.cell s0,(Ext.refl w).drew.cell s1,(Ext.refl w).drew.cell s2,(Ext.refl w).drew.cell x4⟩ (fun hSg1q0=>?_);refine rgT6 0 1 2 3 4 5 ?_;refine rgT4 6 7 8 9 ?_;refine rgT 10 ?_;refine wpAnyH_done (by kernel_rfl) ?_ _
 go_wp2
 go_ret;exact⟨rfl,(Ext.refl w).drew⟩
set_option maxRecDepth 100000 in
set_option maxHeartbeats 2000000 in
theorem indexD_any {d:Nat}(w:World)(gs gw sb:Nat)(A B:Option Addr)(m me q qe:Nat)(l:List Con)(wd:Int)(h:Fd1 d w gs gw sb A m me l wd)(L:List Nat)(hL:Sl natR w All (.slice B q qe) L)(hk:∀k∈L,k<l.length):
  Calls Tryz.prog 126 #[.slice B q qe,.func (.func 103) #[] #[.pointer (some ⟨gs,0,none⟩),.pointer (some ⟨gw,0,none⟩)]] w (FoundX w (L.any (diffK l wd))):=by
 have hln:=hL.len;obtain⟨hnc,hcm⟩:=hL.cap;have hen:=call_field1;obtain⟨z,hz⟩:∃z,L.any (diffK l wd)=z:=⟨_,rfl⟩;rw[hz];have HZ:=hid hz;have HS:=hid hL;have HL:=hid hln;have HB:=hid h;have HK:=hid hk;clear hz hL hln h hk;unfold FoundX;go_enter Tryz.func126,Tryz.ntmps126
 go_wp2
 go_loopw [8] (fun i wr=>∃k:Nat,k≤q∧i= .int .i64 k∧Hid (Ext w wr)∧Hid ((L.take k).any (diffK l wd)=false)) (fun i _=>q - (intOf i).toNat)
 case atStart=>exact⟨0,by omega,rfl,hid (Ext.refl w),hid (by simp)⟩
 case round=>
  obtain⟨k,hk,rfl,HX,HA⟩:=hrel;by_cases h1:k<q
  ·obtain⟨x,hx⟩:∃x,L[k]? =some x:=⟨_,List.getElem?_eq_getElem (by have:=HL.out;omega)⟩;obtain⟨b,off,rfl,c0⟩:=(HS.out.ext HX.out).num_at hx;have HC:=hid (field1_any wr gs gw sb A m me l wd (HB.out.ext HX.out) x (HK.out x (List.mem_of_getElem? hx)));obtain⟨r,hr⟩:∃r,diffK l wd x=r:=⟨_,rfl⟩;rw[hr]at HC;have HXX:=hid hx;have HR:Hid (diffK l wd x=r):=hid hr;have c0:=c0.1;clear hx hr
   go_wp2_with fail
   refine(HC.out).mono ?_;rintro e w1 ⟨rfl,hx1⟩;have HX1:=hid (HX.out.trans hx1);clear hx1 c0
   cases r with
   |true=>
    go_wp2
    go_ret;refine⟨_,rfl, ?_,HX1.out⟩;rw[←HZ.out,List.any_eq_true.2 ⟨x,List.mem_of_getElem? HXX.out,HR.out⟩];exact decide_eq_true (by omega)
   | false=>
    go_wp2
    first
     |go_roundw
     |refine⟨?rel, ?measure⟩
    case rel=>exact⟨k+1,by omega,by go_num,HX1,hid (by rw[any_snoc HXX.out,HA.out,HR.out];rfl)⟩
    case measure=>simp [intOf];omega
  ·obtain rfl:k=q:=by omega
   have ha:=HA.out;rw[List.take_of_length_le (by have:=HL.out;omega)]at ha;have HA2:=hid ha;clear ha
   go_wp2
   go_ret;refine⟨_,rfl, ?_,HX.out⟩;rw[←HZ.out,HA2.out];rfl
set_option maxRecDepth 100000 in
set_option maxHeartbeats 2000000 in
theorem containsD_any {d:Nat}(w:World)(gs gw sb:Nat)(A B:Option Addr)(m me q qe:Nat)(l:List Con)(wd:Int)(h:Fd1 d w gs gw sb A m me l wd)(L:List Nat)(hL:Sl natR w All (.slice B q qe) L)(hk:∀k∈L,k<l.length):
  Calls Tryz.prog 102 #[.slice B q qe,.func (.func 103) #[] #[.pointer (some ⟨gs,0,none⟩),.pointer (some ⟨gw,0,none⟩)]] w (TBool w (L.any (diffK l wd))):=by
 have HC:=hid (indexD_any w gs gw sb A B m me q qe l wd h L hL hk);obtain⟨z,hz⟩:∃z,L.any (diffK l wd)=z:=⟨_,rfl⟩;rw[hz]at HC ⊢;clear hz h hL hk;go_enter Tryz.func102,Tryz.ntmps102
 go_wp2_with fail
 refine(HC.out).mono ?_;rintro e w1 ⟨r,rfl,hr,hx1⟩;have HX1:=hid hx1;clear hx1
 go_wp2
 go_ret;exact⟨rfl,HX1.out⟩
end Go.Proofs.YtlmipgdnlfjpaaaGreat
