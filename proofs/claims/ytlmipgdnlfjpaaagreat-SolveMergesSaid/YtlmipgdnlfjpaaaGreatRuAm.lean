/- Merged by program from texts of my own. -/
import Derived.Test.YtlmipgdnlfjpaaaGreatRtDm
namespace Go.Proofs.YtlmipgdnlfjpaaaGreat
open Go.RowKit Go.Deco
set_option linter.unusedSimpArgs false
set_option linter.unusedVariables false
def TyOld (d:Nat)(wo w:World)(t:Ty)(e:Ending)(w':World):Prop:=∃v,e= .returned v∧TyV d wo All v t∧Ext w w'
set_option maxRecDepth 100000 in
set_option maxHeartbeats 4000000 in
theorem typeof33_any (d:Nat)(wo w:World)(A B:Option Addr)(n c m e:Nat)(ts:List Ty)(v:Int)(hx:Ext wo w)(hs:Sl (tyR d) wo All (.slice A n c) ts):
  Calls Tryz.prog 19 #[.agg #[.slice A n c,.slice B m e],.int .i64 v] w (TyOld d wo w (typeAt ts v)):=by
 obtain⟨r,hr⟩:∃r,typeAt ts v=r:=⟨_,rfl⟩;rw[hr];have hlen:=hs.len;obtain⟨hc1,hc2⟩:=hs.cap;obtain⟨W0,hW0⟩:∃W0,(w.alloc (.cells #[.slice A n c,.slice B m e] 34)).alloc (.cells #[.int .i64 0,.int .i64 0,.int .i64 0,.slice none 0 0,.slice none 0 0] 42)=W0:=⟨_,rfl⟩;have hE0:Ext w W0:=by rw[←hW0];exact((Ext.refl w).alloc _).alloc _
 have hP:Box2 W0 w.heap.size (.slice A n c) (.slice B m e):=by rw[←hW0];exact(Box2.new w _ _ _).ext ((Ext.refl _).alloc _)
 have hZ:Box5 W0 (w.heap.size+1) (.int .i64 0) (.int .i64 0) (.int .i64 0) (.slice none 0 0) (.slice none 0 0):=by
  rw[←hW0];have:=Box5.new (w.alloc (.cells #[.slice A n c,.slice B m e] 34)) (.int .i64 0) (.int .i64 0) (.int .i64 0) (.slice none 0 0) (.slice none 0 0) 42
  rwa [show(w.alloc (.cells #[.slice A n c,.slice B m e] 34)).heap.size=w.heap.size+1 by simp]at this
 have HE0:=hid hE0;have HZ:=hid hZ;have HS:=hid hs;have HX:=hid hx;have HR:=hid hr;have HL:=hid hlen;obtain⟨p0,p1, -⟩:=hP;clear hE0 hZ hs hx hr hlen;by_cases h1:v<0
 ·have g1:decide (v<0)=true:=decide_eq_true h1;obtain rfl:Ty.unk=r:=by rw[←HR.out,typeAt_out (.inl h1)]
  go_enter Tryz.func19,Tryz.ntmps19;go_upto_region 2 with fail
  clear hW0;obtain⟨r0,r1,r2,r3,r4,rf⟩:=HZ.out;have u0:=rf 0;have u1:=rf 1;have u2:=rf 2;have u3:=rf 3;have u4:=rf 4;obtain⟨W3,hW3,hB3,hH3,hS3,hX3⟩:=box5_set (HZ.out) (.int .i64 0) (.int .i64 0) (.int .i64 0) (.slice none 0 0) (.slice none 0 0);obtain⟨t0,t1,t2,t3,t4, -⟩:=hB3;have HW3:=hid hW3;have HX3:=hid (hX3 w HE0.out (by omega));clear hW3 hH3 hX3 hS3 rf
  go_wp2
  rw[HW3.out];clear r0 r1 r2 r3 r4;refine bodyPost_ret (v:= .agg #[(.int .i64 0),(.int .i64 0),(.int .i64 0),(.slice none 0 0),(.slice none 0 0)]) (by simp[results,Tryz.results19,go_sem,t0,t1,t2,t3,t4]) rfl ?_;exact⟨_,rfl,tyv_unk,HX3.out⟩
 have g1:decide (v<0)=false:=decide_eq_false h1;by_cases h2:(n:Int)≤v
 ·have g2:decide (v≥(n:Int))=true:=decide_eq_true h2;have g3:v≥(n:Int):=h2;obtain rfl:Ty.unk=r:=by rw[←HR.out,typeAt_out (.inr (by rw[←HL.out];exact h2))]
  go_enter Tryz.func19,Tryz.ntmps19;go_upto_region 2 with fail
  clear hW0;obtain⟨r0,r1,r2,r3,r4,rf⟩:=HZ.out;have u0:=rf 0;have u1:=rf 1;have u2:=rf 2;have u3:=rf 3;have u4:=rf 4;obtain⟨W3,hW3,hB3,hH3,hS3,hX3⟩:=box5_set (HZ.out) (.int .i64 0) (.int .i64 0) (.int .i64 0) (.slice none 0 0) (.slice none 0 0);obtain⟨t0,t1,t2,t3,t4, -⟩:=hB3;have HW3:=hid hW3;have HX3:=hid (hX3 w HE0.out (by omega));clear hW3 hH3 hX3 hS3 rf
  go_wp2
  rw[HW3.out];clear r0 r1 r2 r3 r4;refine bodyPost_ret (v:= .agg #[(.int .i64 0),(.int .i64 0),(.int .i64 0),(.slice none 0 0),(.slice none 0 0)]) (by simp[results,Tryz.results19,go_sem,t0,t1,t2,t3,t4]) rfl ?_;exact⟨_,rfl,tyv_unk,HX3.out⟩
 have g2:decide (v≥(n:Int))=false:=decide_eq_false h2;have g3:¬v≥(n:Int):=h2;obtain⟨k,rfl⟩:∃k:Nat,v=k:=⟨v.toNat,by omega⟩;have hkn:k<n:=by omega
 have hkn2:(k:Int)<(n:Int):=by omega
 obtain⟨x,hx⟩:∃x,ts[k]? =some x:=⟨_,List.getElem?_eq_getElem (by have:=HL.out;omega)⟩;obtain rfl:x=r:=by rw[←HR.out,typeAt_in rfl hx]
 obtain⟨d1,bx,ox,P1,np1,cp1,P2,np2,cp2,hd,rfl,hv1,x0,x1,x2,x3,x4⟩:=HS.out.ty_at hx;have HD:=hid hd;have HV:=hid hv1;have hw:=HX.out.trans HE0.out;have x0:=hw.cell x0;have x1:=hw.cell x1;have x2:=hw.cell x2;have x3:=hw.cell x3;have x4:=hw.cell x4;clear hw hd hv1 hx;go_enter Tryz.func19,Tryz.ntmps19;go_upto_region 3 with fail
 clear hW0;obtain⟨r0,r1,r2,r3,r4,rf⟩:=HZ.out;have u0:=rf 0;have u1:=rf 1;have u2:=rf 2;have u3:=rf 3;have u4:=rf 4;obtain⟨W3,hW3,hB3,hH3,hS3,hX3⟩:=box5_set (HZ.out) (.int .i64 x.kind) (.int .i64 x.size) (.int .i64 x.count) (.slice P1 np1 cp1) (.slice P2 np2 cp2);obtain⟨t0,t1,t2,t3,t4, -⟩:=hB3;have HW3:=hid hW3;have HX3:=hid (hX3 w HE0.out (by omega));clear hW3 hH3 hX3 hS3 rf
 go_wp2
 rw[HW3.out];clear r0 r1 r2 r3 r4;refine bodyPost_ret (v:= .agg #[(.int .i64 x.kind),(.int .i64 x.size),(.int .i64 x.count),(.slice P1 np1 cp1),(.slice P2 np2 cp2)]) (by simp[results,Tryz.results19,go_sem,t0,t1,t2,t3,t4]) rfl ?_;exact⟨_,rfl,HV.out.up (by have:=HD.out;omega),HX3.out⟩
end Go.Proofs.YtlmipgdnlfjpaaaGreat
