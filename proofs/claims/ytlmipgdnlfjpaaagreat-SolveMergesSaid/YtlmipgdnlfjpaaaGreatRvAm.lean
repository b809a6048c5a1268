/- Merged by program from texts of my own. -/
import Derived.Test.YtlmipgdnlfjpaaaGreatThem
import Derived.Test.YtlmipgdnlfjpaaaGreatRuAm
namespace Go.Proofs.YtlmipgdnlfjpaaaGreat
open Go.RowKit Go.Deco Go.Maps
set_option linter.unusedSimpArgs false
set_option linter.unusedVariables false
def FewTIs (l:List Ty)(w:World)(e:Ending)(w':World):Prop:=∃b:Bool,e= .returned (.bool b)∧Ext w w'∧(b=true→l.length≤16)
set_option maxRecDepth 100000 in
set_option maxHeartbeats 4000000 in
theorem fewt_any (d:Nat)(w:World)(A:Option Addr)(m me:Nat)(l:List Ty)(hs:Sl (tyR d) w All (.slice A m me) l):Calls Tryz.prog 13 #[.slice A m me] w (FewTIs l w):=by
 have hln:=hs.len;obtain⟨hc1,hc2⟩:=hs.cap;have HS:=hid hs;have HL:=hid hln;clear hs hln;go_enter Tryz.func13,Tryz.ntmps13
 go_wp2
 go_loopw [3] (fun i wr=>∃j:Nat,j≤m∧j≤20∧i= .int .i64 j∧Hid (Ext w wr)) (fun i _=>20 - (intOf i).toNat)
 case atStart=>exact⟨0,by omega,by omega,rfl,hid (Ext.refl _)⟩
 case round=>
  obtain⟨j,hj,hj2,rfl,HX⟩:=hrel;by_cases h1:j<m
  ·by_cases h2:j<20
   ·obtain⟨c,hc⟩:∃c,l[j]? =some c:=⟨_,List.getElem?_eq_getElem (by have:=HL.out;omega)⟩;obtain⟨d1,bx,ox,P1,np1,cp1,P2,np2,cp2,hd,rfl,hv1,x0,x1,x2,x3,x4⟩:=(HS.out.ext HX.out).ty_at hc;have HCC:=hid (count_lim 40 (by omega) d1 wr c _ hv1);have i1:(j:Int)<(m:Int):=by omega
    have i2:(j:Int)<20:=by omega
    clear hd hv1 hc
    go_wp2_with fail
    refine HCC.out.mono ?_;rintro e w5 ⟨z,rfl,hx5,hcz⟩;have HX5:=hid (HX.out.trans hx5);clear hx5 hcz x0 x1 x2 x3 x4;by_cases h3:z > 40
    ·go_wp2
     go_ret;exact⟨false,rfl,HX5.out,fun e=>by cases e⟩
    ·go_wp2
     first
      |go_roundw
      |refine⟨?rel, ?measure⟩
     case rel=>exact⟨j+1,by omega,by omega,by go_num,HX5⟩
     case measure=>simp [intOf];omega
   ·obtain rfl:j=20:=by omega
    have i1:(20:Int)<(m:Int):=by omega
    have i2:¬(m:Int)≤16:=by omega
    go_wp2
    go_ret;exact⟨false,rfl,HX.out,fun e=>by cases e⟩
  ·obtain rfl:j=m:=by omega
   have i1:¬(j:Int)<(j:Int):=by omega
   by_cases h2:j≤16
   ·have i2:(j:Int)≤16:=by omega
    go_wp2
    go_ret;exact⟨true,rfl,HX.out,fun _=>by have:=HL.out;omega⟩
   ·have i2:¬(j:Int)≤16:=by omega
    go_wp2
    go_ret;exact⟨false,rfl,HX.out,fun e=>by cases e⟩
set_option maxRecDepth 100000 in
set_option maxHeartbeats 4000000 in
theorem fromref_any (w:World)(A B:Option Addr)(n c m e:Nat):
  Calls Tryz.prog 15 #[.agg #[.slice A n c,.slice B m e]] w (fun x w'=>x= .returned (.agg #[.slice A n c,.slice B m e])∧Ext w w'):=by
 obtain⟨W0,hW0⟩:∃W0,(w.alloc (.cells #[.slice A n c,.slice B m e] 34)).alloc (.cells #[.slice none 0 0,.slice none 0 0] 28)=W0:=⟨_,rfl⟩;have hE0:Ext w W0:=by rw[←hW0];exact((Ext.refl w).alloc _).alloc _
 have hP:Box2 W0 w.heap.size (.slice A n c) (.slice B m e):=by rw[←hW0];exact(Box2.new w _ _ _).ext ((Ext.refl _).alloc _)
 have hR:Box2 W0 (w.heap.size+1) (.slice none 0 0) (.slice none 0 0):=by
  rw[←hW0];have:=Box2.new (w.alloc (.cells #[.slice A n c,.slice B m e] 34)) (.slice none 0 0) (.slice none 0 0) 28
  rwa [show(w.alloc (.cells #[.slice A n c,.slice B m e] 34)).heap.size=w.heap.size+1 by simp]at this
 obtain⟨W1,hW1,hB1,hH1,hS1,hX1⟩:=box2_set hR (.slice A n c) (.slice B m e);have HX1:=hid (hX1 w hE0 (by omega));have HW1:=hid hW1;obtain⟨t0,t1, -⟩:=hB1;obtain⟨p0,p1, -⟩:=hP;obtain⟨r0,r1,rf⟩:=hR;have f0:=rf 0;have f1:=rf 1;clear hE0 hW1 hH1 hS1 hX1 rf;go_enter Tryz.func15,Tryz.ntmps15
 go_wp2
 rw[HW1.out];clear r0 r1 p0 p1 hW0;refine bodyPost_ret (v:= .agg #[.slice A n c,.slice B m e]) (by simp[results,Tryz.results15,go_sem,t0,t1]) rfl ?_;exact⟨rfl,HX1.out⟩
end Go.Proofs.YtlmipgdnlfjpaaaGreat
