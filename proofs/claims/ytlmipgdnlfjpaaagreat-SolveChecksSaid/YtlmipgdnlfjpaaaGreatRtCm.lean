/- Merged by program from texts of my own. -/
import Derived.Test.YtlmipgdnlfjpaaaGreatRtBm
import Derived.Test.YtlmipgdnlfjpaaaGreatSoCm
namespace Go.Proofs.YtlmipgdnlfjpaaaGreat
open Go.RowKit Go.Deco
set_option linter.unusedSimpArgs false
set_option linter.unusedVariables false
def FatR (d:Nat):Prop:=∀(wo w:World) (t:Ty) (v:Value) (off wd:Int),Ext wo w→TyV d wo All v t→formT t=true→i64b off→(wd=1∨wd=2∨wd=4)→Calls Tryz.prog 70 #[v,.int .i64 off,.int .i64 wd] w (FatIs d wo w (faT t off wd))
set_option maxRecDepth 100000 in
set_option maxHeartbeats 8000000 in
theorem rfwide_any (d:Nat)(wo w:World)(tk ts tc:Int)(te:List Ty)(tf:List (Int×Ty))(off wd:Int)(A B:Option Addr)(na ca nb cb:Nat)(hx:Ext wo w)
  (hv:TyV d wo All (.agg #[.int .i64 tk,.int .i64 ts,.int .i64 tc,.slice A na ca,.slice B nb cb]) (.mk tk ts tc te tf)) (hk:tk=0∨tk=6) (hi:i64b off):
  Calls Tryz.prog 70 #[.agg #[.int .i64 tk,.int .i64 ts,.int .i64 tc,.slice A na ca,.slice B nb cb],.int .i64 off,.int .i64 wd] w (FatIs d wo w (faT (.mk tk ts tc te tf) off wd)):=by
 rw[fa_wide te tf hk];obtain⟨o,hoo⟩:∃o,(if 0≤off then some (Ty.mk tk ts tc te tf) else none)=o:=⟨_,rfl⟩;rw[hoo];have HOO:=hid hoo;clear hoo;obtain⟨W0,hW0⟩:∃W0,(w.alloc (.cells #[.int .i64 tk,.int .i64 ts,.int .i64 tc,.slice A na ca,.slice B nb cb] 42)).alloc (.cells #[.int .i64 0,.int .i64 0,.int .i64 0,.slice none 0 0,.slice none 0 0] 42)=W0:=⟨_,rfl⟩;have HE0:=hid (by rw[←hW0];exact((Ext.refl w).alloc _).alloc _:Ext w W0)
 have HPA:Hid (Box5 W0 w.heap.size (.int .i64 tk) (.int .i64 ts) (.int .i64 tc) (.slice A na ca) (.slice B nb cb)):=hid (by
  rw[←hW0];exact(Box5.new w _ _ _ _ _ _).ext ((Ext.refl _).alloc _))
 have HRB:Hid (Box5 W0 (w.heap.size+1) (.int .i64 0) (.int .i64 0) (.int .i64 0) (.slice none 0 0) (.slice none 0 0)):=hid (by
  rw[←hW0];have:=Box5.new (w.alloc (.cells #[.int .i64 tk,.int .i64 ts,.int .i64 tc,.slice A na ca,.slice B nb cb] 42)) (.int .i64 0) (.int .i64 0) (.int .i64 0) (.slice none 0 0) (.slice none 0 0) 42
  rwa [show(w.alloc (.cells #[.int .i64 tk,.int .i64 ts,.int .i64 tc,.slice A na ca,.slice B nb cb] 42)).heap.size=w.heap.size+1 by simp]at this)
 have HSZ:Hid (W0.heap.size=w.heap.size+2):=hid (by rw[←hW0];simp);have HV:=hid hv;have HXO:=hid hx;obtain⟨o0,o1,o2,o3,o4, -⟩:=HPA.out;clear hv hx;rcases hk with rfl|rfl
 case inl=>
  by_cases h1:off<0
  case pos=>
   have HNO:Hid (o=none):=hid (by rw[←HOO.out,if_neg (by omega)]);go_enter Tryz.func70,Tryz.ntmps70;clear o0 o1 o2 o3 o4;obtain⟨r0,r1,r2,r3,r4,rf⟩:=HRB.out;have u0:=rf 0;have u1:=rf 1;have u2:=rf 2;have u3:=rf 3;have u4:=rf 4;obtain⟨W3,hW3,hB3,hH3,hS3,hX3⟩:=box5_set (HRB.out) (.int .i64 0) (.int .i64 0) (.int .i64 0) (.slice none 0 0) (.slice none 0 0);obtain⟨t0,t1,t2,t3,t4, -⟩:=hB3;have HW3:=hid hW3;have HX3:=hid (hX3 w HE0.out (by omega));clear hW3 hH3 hX3 hS3 rf
   go_wp2
   rw[HW3.out];clear r0 r1 r2 r3 r4;refine bodyPost_ret (v:= .tuple #[.agg #[(.int .i64 0),(.int .i64 0),(.int .i64 0),(.slice none 0 0),(.slice none 0 0)],.bool false]) (by simp[results,Tryz.results70,go_sem,t0,t1,t2,t3,t4]) rfl ?_;exact⟨_,false,_,rfl,tyv_unk,HX3.out,.inr ⟨rfl,HNO.out⟩⟩
  have HYES:Hid (o=some (Ty.mk 0 ts tc te tf)):=hid (by rw[←HOO.out,if_pos (by omega)]);go_enter Tryz.func70,Tryz.ntmps70;obtain⟨r0,r1,r2,r3,r4,rf⟩:=HRB.out;have u0:=rf 0;have u1:=rf 1;have u2:=rf 2;have u3:=rf 3;have u4:=rf 4;obtain⟨W3,hW3,hB3,hH3,hS3,hX3⟩:=box5_set (HRB.out) (.int .i64 0) (.int .i64 ts) (.int .i64 tc) (.slice A na ca) (.slice B nb cb);obtain⟨t0,t1,t2,t3,t4, -⟩:=hB3;have HW3:=hid hW3;have HX3:=hid (hX3 w HE0.out (by omega));clear hW3 hH3 hX3 hS3 rf
  go_wp2
  rw[HW3.out];clear r0 r1 r2 r3 r4;refine bodyPost_ret (v:= .tuple #[.agg #[(.int .i64 0),(.int .i64 ts),(.int .i64 tc),(.slice A na ca),(.slice B nb cb)],.bool true]) (by simp[results,Tryz.results70,go_sem,t0,t1,t2,t3,t4]) rfl ?_;exact⟨_,true,_,rfl,HV.out,HX3.out,.inl ⟨rfl,HYES.out⟩⟩
 case inr=>
  by_cases h1:off<0
  case pos=>
   have HNO:Hid (o=none):=hid (by rw[←HOO.out,if_neg (by omega)]);go_enter Tryz.func70,Tryz.ntmps70;clear o0 o1 o2 o3 o4;obtain⟨r0,r1,r2,r3,r4,rf⟩:=HRB.out;have u0:=rf 0;have u1:=rf 1;have u2:=rf 2;have u3:=rf 3;have u4:=rf 4;obtain⟨W3,hW3,hB3,hH3,hS3,hX3⟩:=box5_set (HRB.out) (.int .i64 0) (.int .i64 0) (.int .i64 0) (.slice none 0 0) (.slice none 0 0);obtain⟨t0,t1,t2,t3,t4, -⟩:=hB3;have HW3:=hid hW3;have HX3:=hid (hX3 w HE0.out (by omega));clear hW3 hH3 hX3 hS3 rf
   go_wp2
   rw[HW3.out];clear r0 r1 r2 r3 r4;refine bodyPost_ret (v:= .tuple #[.agg #[(.int .i64 0),(.int .i64 0),(.int .i64 0),(.slice none 0 0),(.slice none 0 0)],.bool false]) (by simp[results,Tryz.results70,go_sem,t0,t1,t2,t3,t4]) rfl ?_;exact⟨_,false,_,rfl,tyv_unk,HX3.out,.inr ⟨rfl,HNO.out⟩⟩
  have HYES:Hid (o=some (Ty.mk 6 ts tc te tf)):=hid (by rw[←HOO.out,if_pos (by omega)]);go_enter Tryz.func70,Tryz.ntmps70;obtain⟨r0,r1,r2,r3,r4,rf⟩:=HRB.out;have u0:=rf 0;have u1:=rf 1;have u2:=rf 2;have u3:=rf 3;have u4:=rf 4;obtain⟨W3,hW3,hB3,hH3,hS3,hX3⟩:=box5_set (HRB.out) (.int .i64 6) (.int .i64 ts) (.int .i64 tc) (.slice A na ca) (.slice B nb cb);obtain⟨t0,t1,t2,t3,t4, -⟩:=hB3;have HW3:=hid hW3;have HX3:=hid (hX3 w HE0.out (by omega));clear hW3 hH3 hX3 hS3 rf
  go_wp2
  rw[HW3.out];clear r0 r1 r2 r3 r4;refine bodyPost_ret (v:= .tuple #[.agg #[(.int .i64 6),(.int .i64 ts),(.int .i64 tc),(.slice A na ca),(.slice B nb cb)],.bool true]) (by simp[results,Tryz.results70,go_sem,t0,t1,t2,t3,t4]) rfl ?_;exact⟨_,true,_,rfl,HV.out,HX3.out,.inl ⟨rfl,HYES.out⟩⟩
set_option maxRecDepth 100000 in
set_option maxHeartbeats 8000000 in
theorem rfleaf_any (d:Nat)(wo w:World)(tk ts tc:Int)(te:List Ty)(tf:List (Int×Ty))(off wd:Int)(A B:Option Addr)(na ca nb cb:Nat)(hx:Ext wo w)
  (hv:TyV d wo All (.agg #[.int .i64 tk,.int .i64 ts,.int .i64 tc,.slice A na ca,.slice B nb cb]) (.mk tk ts tc te tf)) (hf:formT (.mk tk ts tc te tf)=true) (hk:tk=1∨tk=2∨tk=3) (hi:i64b off):
  Calls Tryz.prog 70 #[.agg #[.int .i64 tk,.int .i64 ts,.int .i64 tc,.slice A na ca,.slice B nb cb],.int .i64 off,.int .i64 wd] w (FatIs d wo w (faT (.mk tk ts tc te tf) off wd)):=by
 rw[fa_leafy te tf hk];have HSZT:=hid (fun W (hW:Ext w W)=>size31_any d W _ _ ((hv.ext (hx.trans hW))) hf);obtain⟨sz,hsz⟩:∃sz,szT (.mk tk ts tc te tf)=sz:=⟨_,rfl⟩;rw[hsz]at HSZT ⊢;clear hsz;obtain⟨o,hoo⟩:∃o,(if off=0∧wd=sz then some (Ty.mk tk ts tc te tf) else none)=o:=⟨_,rfl⟩;rw[hoo];have HOO:=hid hoo;clear hoo;obtain⟨W0,hW0⟩:∃W0,(w.alloc (.cells #[.int .i64 tk,.int .i64 ts,.int .i64 tc,.slice A na ca,.slice B nb cb] 42)).alloc (.cells #[.int .i64 0,.int .i64 0,.int .i64 0,.slice none 0 0,.slice none 0 0] 42)=W0:=⟨_,rfl⟩;have HE0:=hid (by rw[←hW0];exact((Ext.refl w).alloc _).alloc _:Ext w W0)
 have HPA:Hid (Box5 W0 w.heap.size (.int .i64 tk) (.int .i64 ts) (.int .i64 tc) (.slice A na ca) (.slice B nb cb)):=hid (by
  rw[←hW0];exact(Box5.new w _ _ _ _ _ _).ext ((Ext.refl _).alloc _))
 have HRB:Hid (Box5 W0 (w.heap.size+1) (.int .i64 0) (.int .i64 0) (.int .i64 0) (.slice none 0 0) (.slice none 0 0)):=hid (by
  rw[←hW0];have:=Box5.new (w.alloc (.cells #[.int .i64 tk,.int .i64 ts,.int .i64 tc,.slice A na ca,.slice B nb cb] 42)) (.int .i64 0) (.int .i64 0) (.int .i64 0) (.slice none 0 0) (.slice none 0 0) 42
  rwa [show(w.alloc (.cells #[.int .i64 tk,.int .i64 ts,.int .i64 tc,.slice A na ca,.slice B nb cb] 42)).heap.size=w.heap.size+1 by simp]at this)
 have HSZ:Hid (W0.heap.size=w.heap.size+2):=hid (by rw[←hW0];simp);have HV:=hid hv;have HXO:=hid hx;obtain⟨o0,o1,o2,o3,o4, -⟩:=HPA.out;clear hv hx;rcases hk with rfl|rfl|rfl
 case inl=>
  by_cases h1:off<0
  case pos=>
   have HNO:Hid (o=none):=hid (by rw[←HOO.out,if_neg (by omega)]);go_enter Tryz.func70,Tryz.ntmps70;clear o0 o1 o2 o3 o4;obtain⟨r0,r1,r2,r3,r4,rf⟩:=HRB.out;have u0:=rf 0;have u1:=rf 1;have u2:=rf 2;have u3:=rf 3;have u4:=rf 4;obtain⟨W3,hW3,hB3,hH3,hS3,hX3⟩:=box5_set (HRB.out) (.int .i64 0) (.int .i64 0) (.int .i64 0) (.slice none 0 0) (.slice none 0 0);obtain⟨t0,t1,t2,t3,t4, -⟩:=hB3;have HW3:=hid hW3;have HX3:=hid (hX3 w HE0.out (by omega));clear hW3 hH3 hX3 hS3 rf
   go_wp2
   rw[HW3.out];clear r0 r1 r2 r3 r4;refine bodyPost_ret (v:= .tuple #[.agg #[(.int .i64 0),(.int .i64 0),(.int .i64 0),(.slice none 0 0),(.slice none 0 0)],.bool false]) (by simp[results,Tryz.results70,go_sem,t0,t1,t2,t3,t4]) rfl ?_;exact⟨_,false,_,rfl,tyv_unk,HX3.out,.inr ⟨rfl,HNO.out⟩⟩
  by_cases h2:off=0
  case neg=>
   have g2:(off == 0)=false:=by simp[h2]
   have HNO:Hid (o=none):=hid (by rw[←HOO.out,if_neg (by omega)]);go_enter Tryz.func70,Tryz.ntmps70;clear h2;obtain⟨r0,r1,r2,r3,r4,rf⟩:=HRB.out;have u0:=rf 0;have u1:=rf 1;have u2:=rf 2;have u3:=rf 3;have u4:=rf 4;obtain⟨W3,hW3,hB3,hH3,hS3,hX3⟩:=box5_set (HRB.out) (.int .i64 0) (.int .i64 0) (.int .i64 0) (.slice none 0 0) (.slice none 0 0);obtain⟨t0,t1,t2,t3,t4, -⟩:=hB3;have HW3:=hid hW3;have HX3:=hid (hX3 w HE0.out (by omega));clear hW3 hH3 hX3 hS3 rf
   go_wp2
   rw[HW3.out];clear r0 r1 r2 r3 r4;refine bodyPost_ret (v:= .tuple #[.agg #[(.int .i64 0),(.int .i64 0),(.int .i64 0),(.slice none 0 0),(.slice none 0 0)],.bool false]) (by simp[results,Tryz.results70,go_sem,t0,t1,t2,t3,t4]) rfl ?_;exact⟨_,false,_,rfl,tyv_unk,HX3.out,.inr ⟨rfl,HNO.out⟩⟩
  subst h2;have g2:((0:Int) == 0)=true:=by simp
  go_enter Tryz.func70,Tryz.ntmps70
  go_wp2_with fail
  refine(HSZT.out _ HE0.out).mono ?_;rintro e w1 ⟨rfl,hx1⟩;have HX1:=hid hx1;have o0:=hx1.cell o0;have o1:=hx1.cell o1;have o2:=hx1.cell o2;have o3:=hx1.cell o3;have o4:=hx1.cell o4;clear hx1 hW0;by_cases h3:wd=sz
  case neg=>
   have g3:(wd == sz)=false:=by simp[h3]
   have HNO:Hid (o=none):=hid (by rw[←HOO.out,if_neg (by omega)]);clear h3;obtain⟨r0,r1,r2,r3,r4,rf⟩:=HRB.out.ext HX1.out;have u0:=rf 0;have u1:=rf 1;have u2:=rf 2;have u3:=rf 3;have u4:=rf 4;obtain⟨W3,hW3,hB3,hH3,hS3,hX3⟩:=box5_set (HRB.out.ext HX1.out) (.int .i64 0) (.int .i64 0) (.int .i64 0) (.slice none 0 0) (.slice none 0 0);obtain⟨t0,t1,t2,t3,t4, -⟩:=hB3;have HW3:=hid hW3;have HX3:=hid (hX3 w (HE0.out.trans HX1.out) (by omega));clear hW3 hH3 hX3 hS3 rf
   go_wp2
   rw[HW3.out];clear r0 r1 r2 r3 r4;refine bodyPost_ret (v:= .tuple #[.agg #[(.int .i64 0),(.int .i64 0),(.int .i64 0),(.slice none 0 0),(.slice none 0 0)],.bool false]) (by simp[results,Tryz.results70,go_sem,t0,t1,t2,t3,t4]) rfl ?_;exact⟨_,false,_,rfl,tyv_unk,HX3.out,.inr ⟨rfl,HNO.out⟩⟩
  have g3:(wd == sz)=true:=by simp[h3]
  have HYES:Hid (o=some (Ty.mk 1 ts tc te tf)):=hid (by rw[←HOO.out,if_pos ⟨by trivial,h3⟩]);clear h3;obtain⟨r0,r1,r2,r3,r4,rf⟩:=HRB.out.ext HX1.out;have u0:=rf 0;have u1:=rf 1;have u2:=rf 2;have u3:=rf 3;have u4:=rf 4;obtain⟨W3,hW3,hB3,hH3,hS3,hX3⟩:=box5_set (HRB.out.ext HX1.out) (.int .i64 1) (.int .i64 ts) (.int .i64 tc) (.slice A na ca) (.slice B nb cb);obtain⟨t0,t1,t2,t3,t4, -⟩:=hB3;have HW3:=hid hW3;have HX3:=hid (hX3 w (HE0.out.trans HX1.out) (by omega));clear hW3 hH3 hX3 hS3 rf
  go_wp2
  rw[HW3.out];clear r0 r1 r2 r3 r4;refine bodyPost_ret (v:= .tuple #[.agg #[(.int .i64 1),(.int .i64 ts),(.int .i64 tc),(.slice A na ca),(.slice B nb cb)],.bool true]) (by simp[results,Tryz.results70,go_sem,t0,t1,t2,t3,t4]) rfl ?_;exact⟨_,true,_,rfl,HV.out,HX3.out,.inl ⟨rfl,HYES.out⟩⟩
 case inr.inl=>
  by_cases h1:off<0
  case pos=>
   have HNO:Hid (o=none):=hid (by rw[←HOO.out,if_neg (by omega)]);go_enter Tryz.func70,Tryz.ntmps70;clear o0 o1 o2 o3 o4;obtain⟨r0,r1,r2,r3,r4,rf⟩:=HRB.out;have u0:=rf 0;have u1:=rf 1;have u2:=rf 2;have u3:=rf 3;have u4:=rf 4;obtain⟨W3,hW3,hB3,hH3,hS3,hX3⟩:=box5_set (HRB.out) (.int .i64 0) (.int .i64 0) (.int .i64 0) (.slice none 0 0) (.slice none 0 0);obtain⟨t0,t1,t2,t3,t4, -⟩:=hB3;have HW3:=hid hW3;have HX3:=hid (hX3 w HE0.out (by omega));clear hW3 hH3 hX3 hS3 rf
   go_wp2
   rw[HW3.out];clear r0 r1 r2 r3 r4;refine bodyPost_ret (v:= .tuple #[.agg #[(.int .i64 0),(.int .i64 0),(.int .i64 0),(.slice none 0 0),(.slice none 0 0)],.bool false]) (by simp[results,Tryz.results70,go_sem,t0,t1,t2,t3,t4]) rfl ?_;exact⟨_,false,_,rfl,tyv_unk,HX3.out,.inr ⟨rfl,HNO.out⟩⟩
  by_cases h2:off=0
  case neg=>
   have g2:(off == 0)=false:=by simp[h2]
   have HNO:Hid (o=none):=hid (by rw[←HOO.out,if_neg (by omega)]);go_enter Tryz.func70,Tryz.ntmps70;clear h2;obtain⟨r0,r1,r2,r3,r4,rf⟩:=HRB.out;have u0:=rf 0;have u1:=rf 1;have u2:=rf 2;have u3:=rf 3;have u4:=rf 4;obtain⟨W3,hW3,hB3,hH3,hS3,hX3⟩:=box5_set (HRB.out) (.int .i64 0) (.int .i64 0) (.int .i64 0) (.slice none 0 0) (.slice none 0 0);obtain⟨t0,t1,t2,t3,t4, -⟩:=hB3;have HW3:=hid hW3;have HX3:=hid (hX3 w HE0.out (by omega));clear hW3 hH3 hX3 hS3 rf
   go_wp2
   rw[HW3.out];clear r0 r1 r2 r3 r4;refine bodyPost_ret (v:= .tuple #[.agg #[(.int .i64 0),(.int .i64 0),(.int .i64 0),(.slice none 0 0),(.slice none 0 0)],.bool false]) (by simp[results,Tryz.results70,go_sem,t0,t1,t2,t3,t4]) rfl ?_;exact⟨_,false,_,rfl,tyv_unk,HX3.out,.inr ⟨rfl,HNO.out⟩⟩
  subst h2;have g2:((0:Int) == 0)=true:=by simp
  go_enter Tryz.func70,Tryz.ntmps70
  go_wp2_with fail
  refine(HSZT.out _ HE0.out).mono ?_;rintro e w1 ⟨rfl,hx1⟩;have HX1:=hid hx1;have o0:=hx1.cell o0;have o1:=hx1.cell o1;have o2:=hx1.cell o2;have o3:=hx1.cell o3;have o4:=hx1.cell o4;clear hx1 hW0;by_cases h3:wd=sz
  case neg=>
   have g3:(wd == sz)=false:=by simp[h3]
   have HNO:Hid (o=none):=hid (by rw[←HOO.out,if_neg (by omega)]);clear h3;obtain⟨r0,r1,r2,r3,r4,rf⟩:=HRB.out.ext HX1.out;have u0:=rf 0;have u1:=rf 1;have u2:=rf 2;have u3:=rf 3;have u4:=rf 4;obtain⟨W3,hW3,hB3,hH3,hS3,hX3⟩:=box5_set (HRB.out.ext HX1.out) (.int .i64 0) (.int .i64 0) (.int .i64 0) (.slice none 0 0) (.slice none 0 0);obtain⟨t0,t1,t2,t3,t4, -⟩:=hB3;have HW3:=hid hW3;have HX3:=hid (hX3 w (HE0.out.trans HX1.out) (by omega));clear hW3 hH3 hX3 hS3 rf
   go_wp2
   rw[HW3.out];clear r0 r1 r2 r3 r4;refine bodyPost_ret (v:= .tuple #[.agg #[(.int .i64 0),(.int .i64 0),(.int .i64 0),(.slice none 0 0),(.slice none 0 0)],.bool false]) (by simp[results,Tryz.results70,go_sem,t0,t1,t2,t3,t4]) rfl ?_;exact⟨_,false,_,rfl,tyv_unk,HX3.out,.inr ⟨rfl,HNO.out⟩⟩
  have g3:(wd == sz)=true:=by simp[h3]
  have HYES:Hid (o=some (Ty.mk 2 ts tc te tf)):=hid (by rw[←HOO.out,if_pos ⟨by trivial,h3⟩]);clear h3;obtain⟨r0,r1,r2,r3,r4,rf⟩:=HRB.out.ext HX1.out;have u0:=rf 0;have u1:=rf 1;have u2:=rf 2;have u3:=rf 3;have u4:=rf 4;obtain⟨W3,hW3,hB3,hH3,hS3,hX3⟩:=box5_set (HRB.out.ext HX1.out) (.int .i64 2) (.int .i64 ts) (.int .i64 tc) (.slice A na ca) (.slice B nb cb);obtain⟨t0,t1,t2,t3,t4, -⟩:=hB3;have HW3:=hid hW3;have HX3:=hid (hX3 w (HE0.out.trans HX1.out) (by omega));clear hW3 hH3 hX3 hS3 rf
  go_wp2
  rw[HW3.out];clear r0 r1 r2 r3 r4;refine bodyPost_ret (v:= .tuple #[.agg #[(.int .i64 2),(.int .i64 ts),(.int .i64 tc),(.slice A na ca),(.slice B nb cb)],.bool true]) (by simp[results,Tryz.results70,go_sem,t0,t1,t2,t3,t4]) rfl ?_;exact⟨_,true,_,rfl,HV.out,HX3.out,.inl ⟨rfl,HYES.out⟩⟩
 case inr.inr=>
  by_cases h1:off<0
  case pos=>
   have HNO:Hid (o=none):=hid (by rw[←HOO.out,if_neg (by omega)]);go_enter Tryz.func70,Tryz.ntmps70;clear o0 o1 o2 o3 o4;obtain⟨r0,r1,r2,r3,r4,rf⟩:=HRB.out;have u0:=rf 0;have u1:=rf 1;have u2:=rf 2;have u3:=rf 3;have u4:=rf 4;obtain⟨W3,hW3,hB3,hH3,hS3,hX3⟩:=box5_set (HRB.out) (.int .i64 0) (.int .i64 0) (.int .i64 0) (.slice none 0 0) (.slice none 0 0);obtain⟨t0,t1,t2,t3,t4, -⟩:=hB3;have HW3:=hid hW3;have HX3:=hid (hX3 w HE0.out (by omega));clear hW3 hH3 hX3 hS3 rf
   go_wp2
   rw[HW3.out];clear r0 r1 r2 r3 r4;refine bodyPost_ret (v:= .tuple #[.agg #[(.int .i64 0),(.int .i64 0),(.int .i64 0),(.slice none 0 0),(.slice none 0 0)],.bool false]) (by simp[results,Tryz.results70,go_sem,t0,t1,t2,t3,t4]) rfl ?_;exact⟨_,false,_,rfl,tyv_unk,HX3.out,.inr ⟨rfl,HNO.out⟩⟩
  by_cases h2:off=0
  case neg=>
   have g2:(off == 0)=false:=by simp[h2]
   have HNO:Hid (o=none):=hid (by rw[←HOO.out,if_neg (by omega)]);go_enter Tryz.func70,Tryz.ntmps70;clear h2;obtain⟨r0,r1,r2,r3,r4,rf⟩:=HRB.out;have u0:=rf 0;have u1:=rf 1;have u2:=rf 2;have u3:=rf 3;have u4:=rf 4;obtain⟨W3,hW3,hB3,hH3,hS3,hX3⟩:=box5_set (HRB.out) (.int .i64 0) (.int .i64 0) (.int .i64 0) (.slice none 0 0) (.slice none 0 0);obtain⟨t0,t1,t2,t3,t4, -⟩:=hB3;have HW3:=hid hW3;have HX3:=hid (hX3 w HE0.out (by omega));clear hW3 hH3 hX3 hS3 rf
   go_wp2
   rw[HW3.out];clear r0 r1 r2 r3 r4;refine bodyPost_ret (v:= .tuple #[.agg #[(.int .i64 0),(.int .i64 0),(.int .i64 0),(.slice none 0 0),(.slice none 0 0)],.bool false]) (by simp[results,Tryz.results70,go_sem,t0,t1,t2,t3,t4]) rfl ?_;exact⟨_,false,_,rfl,tyv_unk,HX3.out,.inr ⟨rfl,HNO.out⟩⟩
  subst h2;have g2:((0:Int) == 0)=true:=by simp
  go_enter Tryz.func70,Tryz.ntmps70
  go_wp2_with fail
  refine(HSZT.out _ HE0.out).mono ?_;rintro e w1 ⟨rfl,hx1⟩;have HX1:=hid hx1;have o0:=hx1.cell o0;have o1:=hx1.cell o1;have o2:=hx1.cell o2;have o3:=hx1.cell o3;have o4:=hx1.cell o4;clear hx1 hW0;by_cases h3:wd=sz
  case neg=>
   have g3:(wd == sz)=false:=by simp[h3]
   have HNO:Hid (o=none):=hid (by rw[←HOO.out,if_neg (by omega)]);clear h3;obtain⟨r0,r1,r2,r3,r4,rf⟩:=HRB.out.ext HX1.out;have u0:=rf 0;have u1:=rf 1;have u2:=rf 2;have u3:=rf 3;have u4:=rf 4;obtain⟨W3,hW3,hB3,hH3,hS3,hX3⟩:=box5_set (HRB.out.ext HX1.out) (.int .i64 0) (.int .i64 0) (.int .i64 0) (.slice none 0 0) (.slice none 0 0);obtain⟨t0,t1,t2,t3,t4, -⟩:=hB3;have HW3:=hid hW3;have HX3:=hid (hX3 w (HE0.out.trans HX1.out) (by omega));clear hW3 hH3 hX3 hS3 rf
   go_wp2
   rw[HW3.out];clear r0 r1 r2 r3 r4;refine bodyPost_ret (v:= .tuple #[.agg #[(.int .i64 0),(.int .i64 0),(.int .i64 0),(.slice none 0 0),(.slice none 0 0)],.bool false]) (by simp[results,Tryz.results70,go_sem,t0,t1,t2,t3,t4]) rfl ?_;exact⟨_,false,_,rfl,tyv_unk,HX3.out,.inr ⟨rfl,HNO.out⟩⟩
  have g3:(wd == sz)=true:=by simp[h3]
  have HYES:Hid (o=some (Ty.mk 3 ts tc te tf)):=hid (by rw[←HOO.out,if_pos ⟨by trivial,h3⟩]);clear h3;obtain⟨r0,r1,r2,r3,r4,rf⟩:=HRB.out.ext HX1.out;have u0:=rf 0;have u1:=rf 1;have u2:=rf 2;have u3:=rf 3;have u4:=rf 4;obtain⟨W3,hW3,hB3,hH3,hS3,hX3⟩:=box5_set (HRB.out.ext HX1.out) (.int .i64 3) (.int .i64 ts) (.int .i64 tc) (.slice A na ca) (.slice B nb cb);obtain⟨t0,t1,t2,t3,t4, -⟩:=hB3;have HW3:=hid hW3;have HX3:=hid (hX3 w (HE0.out.trans HX1.out) (by omega));clear hW3 hH3 hX3 hS3 rf
  go_wp2
  rw[HW3.out];clear r0 r1 r2 r3 r4;refine bodyPost_ret (v:= .tuple #[.agg #[(.int .i64 3),(.int .i64 ts),(.int .i64 tc),(.slice A na ca),(.slice B nb cb)],.bool true]) (by simp[results,Tryz.results70,go_sem,t0,t1,t2,t3,t4]) rfl ?_;exact⟨_,true,_,rfl,HV.out,HX3.out,.inl ⟨rfl,HYES.out⟩⟩
end Go.Proofs.YtlmipgdnlfjpaaaGreat
