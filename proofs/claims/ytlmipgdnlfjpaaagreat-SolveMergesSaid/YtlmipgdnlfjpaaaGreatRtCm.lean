/- Merged by program from texts of my own. -/
import Derived.Test.YtlmipgdnlfjpaaaGreatRtbm
import Derived.Test.YtlmipgdnlfjpaaaGreatSoCm
namespace Go.Proofs.YtlmipgdnlfjpaaaGreat
open Go.RowKit Go.Deco
set_option linter.unusedSimpArgs false
set_option linter.unusedVariables false
set_option maxRecDepth 100000 in
set_option maxHeartbeats 8000000 in
theorem join31_any (d:Nat)(w:World)(S:Nat→Prop)(a b:Ty)(va vb:Value)(ha:TyV d w S va a)(hb:TyV d w S vb b):Calls Tryz.prog 44 #[va,vb] w (JoinIs d w S (joinG a b)):=by
 have HA:=hid (ha.mono (S':=fun b=>S b∧b<w.heap.size) fun b hb hi=>⟨hb,hi.lt⟩);have HB:=hid (hb.mono (S':=fun b=>S b∧b<w.heap.size) fun b hb hi=>⟨hb,hi.lt⟩);clear ha hb;obtain⟨A1,n1,c1,B1,m1,e1,rfl, -⟩:=id HA.out;obtain⟨A2,n2,c2,B2,m2,e2,rfl, -⟩:=id HB.out;obtain⟨r,hr⟩:∃r,joinG a b=r:=⟨_,rfl⟩;rw[hr];unfold joinG at hr;have HR:=hid hr;obtain⟨W0,hW0⟩:∃W0,((w.alloc (.cells #[.int .i64 a.kind,.int .i64 a.size,.int .i64 a.count,.slice A1 n1 c1,.slice B1 m1 e1] 42)).alloc (.cells #[.int .i64 b.kind,.int .i64 b.size,.int .i64 b.count,.slice A2 n2 c2,.slice B2 m2 e2] 42)).alloc (.cells #[.int .i64 0,.int .i64 0,.int .i64 0,.slice none 0 0,.slice none 0 0] 42)=W0:=⟨_,rfl⟩;have hE0:Ext w W0:=by rw[←hW0];exact(((Ext.refl w).alloc _).alloc _).alloc _
 have hs0:W0.heap.size=w.heap.size+3:=by rw[←hW0];simp
 have hP:Box5 W0 w.heap.size (.int .i64 a.kind) (.int .i64 a.size) (.int .i64 a.count) (.slice A1 n1 c1) (.slice B1 m1 e1):=by
  rw[←hW0];exact((Box5.new w _ _ _ _ _ _).ext ((Ext.refl _).alloc _)).ext ((Ext.refl _).alloc _)
 have hQ:Box5 W0 (w.heap.size+1) (.int .i64 b.kind) (.int .i64 b.size) (.int .i64 b.count) (.slice A2 n2 c2) (.slice B2 m2 e2):=by
  rw[←hW0];have:=Box5.new (w.alloc (.cells #[.int .i64 a.kind,.int .i64 a.size,.int .i64 a.count,.slice A1 n1 c1,.slice B1 m1 e1] 42)) (.int .i64 b.kind) (.int .i64 b.size) (.int .i64 b.count) (.slice A2 n2 c2) (.slice B2 m2 e2) 42;rw[show(w.alloc (.cells #[.int .i64 a.kind,.int .i64 a.size,.int .i64 a.count,.slice A1 n1 c1,.slice B1 m1 e1] 42)).heap.size=w.heap.size+1 by simp]at this;exact this.ext ((Ext.refl _).alloc _)
 have hZ:Box5 W0 (w.heap.size+2) (.int .i64 0) (.int .i64 0) (.int .i64 0) (.slice none 0 0) (.slice none 0 0):=by
  rw[←hW0];have:=Box5.new ((w.alloc (.cells #[.int .i64 a.kind,.int .i64 a.size,.int .i64 a.count,.slice A1 n1 c1,.slice B1 m1 e1] 42)).alloc (.cells #[.int .i64 b.kind,.int .i64 b.size,.int .i64 b.count,.slice A2 n2 c2,.slice B2 m2 e2] 42)) (.int .i64 0) (.int .i64 0) (.int .i64 0) (.slice none 0 0) (.slice none 0 0) 42
  rwa [show((w.alloc (.cells #[.int .i64 a.kind,.int .i64 a.size,.int .i64 a.count,.slice A1 n1 c1,.slice B1 m1 e1] 42)).alloc (.cells #[.int .i64 b.kind,.int .i64 b.size,.int .i64 b.count,.slice A2 n2 c2,.slice B2 m2 e2] 42)).heap.size=w.heap.size+2 by simp]at this
 have HE0:=hid hE0;have HSZ:=hid hs0;have HPB:=hid hP;have HQB:=hid hQ;have HZ:=hid hZ;obtain⟨ga,hga⟩:∃g,chkT a=g:=⟨_,rfl⟩;obtain⟨gb,hgb⟩:∃g,chkT b=g:=⟨_,rfl⟩;have HGA:=hid hga;have HGB:=hid hgb;have HC1:=hid (check31_any d W0 a _ (HA.out.all.ext hE0));rw[hga]at HC1;clear hr hE0 hP hQ hZ hga hgb hs0;obtain⟨p0,p1,p2,p3,p4, -⟩:=HPB.out;obtain⟨q0,q1,q2,q3,q4, -⟩:=HQB.out;go_enter Tryz.func44,Tryz.ntmps44
 go_wp2_with fail
 refine HC1.out.mono ?_;rintro e w1 ⟨rfl,hx1⟩;have HX1:=hid hx1;clear hx1 hW0;by_cases h1:ga=0
 case neg=>
  have g1:((ga:Int) != 0)=true:=by simp;omega
  obtain rfl:Ty.any=r:=by rw[←HR.out,if_neg (by intro h;exact h1 (by rw[←HGA.out];exact of_decide_eq_true h.1))]
  clear p0 p1 p2 p3 p4 q0 q1 q2 q3 q4 h1;obtain⟨r0,r1,r2,r3,r4,rf⟩:=HZ.out.ext HX1.out;have u0:=rf 0;have u1:=rf 1;have u2:=rf 2;have u3:=rf 3;have u4:=rf 4;obtain⟨W3,hW3,hB3,hH3,hS3,hX3⟩:=box5_set (HZ.out.ext HX1.out) (.int .i64 6) (.int .i64 0) (.int .i64 0) (.slice none 0 0) (.slice none 0 0);obtain⟨t0,t1,t2,t3,t4, -⟩:=hB3;have HW3:=hid hW3;have HX3:=hid (hX3 w (HE0.out.trans HX1.out) (by omega));have HH3:=hid hH3;clear hW3 hH3 hX3 hS3 rf
  go_wp2
  rw[HW3.out];clear r0 r1 r2 r3 r4;refine bodyPost_ret (v:= .agg #[(.int .i64 6),(.int .i64 0),(.int .i64 0),(.slice none 0 0),(.slice none 0 0)]) (by simp[results,Tryz.results44,go_sem,t0,t1,t2,t3,t4]) rfl ?_;refine⟨_,rfl,tyv_any,HX3.out⟩
 subst h1;have q0:=HX1.out.cell q0;have q1:=HX1.out.cell q1;have q2:=HX1.out.cell q2;have q3:=HX1.out.cell q3;have q4:=HX1.out.cell q4;have HC2:=hid (check31_any d w1 b _ (HB.out.all.ext (HE0.out.trans HX1.out)));rw[HGB.out]at HC2
 go_wp2_with fail
 refine HC2.out.mono ?_;rintro e w2 ⟨rfl,hx2⟩;have HX2:=hid (HX1.out.trans hx2);clear hx2;have hga:goodT a=true:=decide_eq_true HGA.out;by_cases h2:gb=0
 case neg=>
  have g2:((gb:Int) != 0)=true:=by simp;omega
  obtain rfl:Ty.any=r:=by rw[←HR.out,if_neg (by intro h;exact h2 (by rw[←HGB.out];exact of_decide_eq_true h.2))]
  clear p0 p1 p2 p3 p4 q0 q1 q2 q3 q4 h2 hga;obtain⟨r0,r1,r2,r3,r4,rf⟩:=HZ.out.ext HX2.out;have u0:=rf 0;have u1:=rf 1;have u2:=rf 2;have u3:=rf 3;have u4:=rf 4;obtain⟨W3,hW3,hB3,hH3,hS3,hX3⟩:=box5_set (HZ.out.ext HX2.out) (.int .i64 6) (.int .i64 0) (.int .i64 0) (.slice none 0 0) (.slice none 0 0);obtain⟨t0,t1,t2,t3,t4, -⟩:=hB3;have HW3:=hid hW3;have HX3:=hid (hX3 w (HE0.out.trans HX2.out) (by omega));have HH3:=hid hH3;clear hW3 hH3 hX3 hS3 rf
  go_wp2
  rw[HW3.out];clear r0 r1 r2 r3 r4;refine bodyPost_ret (v:= .agg #[(.int .i64 6),(.int .i64 0),(.int .i64 0),(.slice none 0 0),(.slice none 0 0)]) (by simp[results,Tryz.results44,go_sem,t0,t1,t2,t3,t4]) rfl ?_;refine⟨_,rfl,tyv_any,HX3.out⟩
 subst h2;have hgb:goodT b=true:=decide_eq_true HGB.out;have fa:FW a:=(goodT_iff.1 hga).2;have fb:FW b:=(goodT_iff.1 hgb).2;have HJ:=hid (jnd_all d w2 (fun b=>S b∧b<w.heap.size) a b _ _ (HA.out.ext (HE0.out.trans HX2.out)) (HB.out.ext (HE0.out.trans HX2.out)) fa fb);obtain⟨y,hy⟩:∃y,joinT a b=y:=⟨_,rfl⟩;rw[hy]at HJ;obtain rfl:y=r:=by rw[←HR.out,if_pos ⟨hga,hgb⟩,hy]
 have p0:=HX2.out.cell HPB.out.1;have p1:=HX2.out.cell HPB.out.2.1;have p2:=HX2.out.cell HPB.out.2.2.1;have p3:=HX2.out.cell HPB.out.2.2.2.1;have p4:=HX2.out.cell HPB.out.2.2.2.2.1;have q0:=HX2.out.cell HQB.out.1;have q1:=HX2.out.cell HQB.out.2.1;have q2:=HX2.out.cell HQB.out.2.2.1;have q3:=HX2.out.cell HQB.out.2.2.2.1;have q4:=HX2.out.cell HQB.out.2.2.2.2.1;clear fa fb hy hga hgb
 go_wp2_with fail
 refine HJ.out.mono ?_;rintro e w3 ⟨v3,rfl,hv3,hx3⟩;have HX3':=hid (HX2.out.trans hx3);have HV3:=hid hv3;obtain⟨A3,n3,c3,B3,m3,e3,rfl, -⟩:=hv3;clear hx3 p0 p1 p2 p3 p4 q0 q1 q2 q3 q4
 have HPL:Hid (∀b,((S b∧b<w.heap.size)∨w2.heap.size≤b)→b≠w.heap.size+2∧(S b∨w.heap.size≤b)):=hid (fun b hb=>by
  have h1:=HSZ.out;have h2:=HX2.out.size;rcases hb with hb|hb
  ·exact⟨by omega,.inl hb.1⟩
  ·exact⟨by omega,.inr (by omega)⟩)
 obtain⟨r0,r1,r2,r3,r4,rf⟩:=HZ.out.ext HX3'.out;have u0:=rf 0;have u1:=rf 1;have u2:=rf 2;have u3:=rf 3;have u4:=rf 4;obtain⟨W3,hW3,hB3,hH3,hS3,hX3⟩:=box5_set (HZ.out.ext HX3'.out) (.int .i64 y.kind) (.int .i64 y.size) (.int .i64 y.count) (.slice A3 n3 c3) (.slice B3 m3 e3);obtain⟨t0,t1,t2,t3,t4, -⟩:=hB3;have HW3:=hid hW3;have HX3:=hid (hX3 w (HE0.out.trans HX3'.out) (by omega));have HH3:=hid hH3;clear hW3 hH3 hX3 hS3 rf
 go_wp2
 rw[HW3.out];clear r0 r1 r2 r3 r4;refine bodyPost_ret (v:= .agg #[(.int .i64 y.kind),(.int .i64 y.size),(.int .i64 y.count),(.slice A3 n3 c3),(.slice B3 m3 e3)]) (by simp[results,Tryz.results44,go_sem,t0,t1,t2,t3,t4]) rfl ?_;refine⟨_,rfl,joined_tyS HH3.out HV3.out HPL.out,HX3.out⟩
def FatR (d:Nat):Prop:=∀(wo w:World) (t:Ty) (v:Value) (off wd:Int),Ext wo w→TyV d wo All v t→formT t=true→i64b off→(wd=1∨wd=2∨wd=4)→Calls Tryz.prog 70 #[v,.int .i64 off,.int .i64 wd] w (FatIs d wo w (faT t off wd))
end Go.Proofs.YtlmipgdnlfjpaaaGreat
