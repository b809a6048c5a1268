/- Merged by program from texts of my own. -/
import Derived.Test.YtlmipgdnlfjpaaaGreatRtCm
namespace Go.Proofs.YtlmipgdnlfjpaaaGreat
open Go.RowKit Go.Deco
set_option linter.unusedSimpArgs false
set_option linter.unusedVariables false
set_option maxRecDepth 100000 in
set_option maxHeartbeats 8000000 in
theorem rfarr_any (d:Nat)(ih:∀d',d'<d→FatR d')(wo w:World)(ts tc:Int)(te:List Ty)(tf:List (Int×Ty))(off wd:Int)(A B:Option Addr)(na ca nb cb:Nat)(hx:Ext wo w)
  (hv:TyV d wo All (.agg #[.int .i64 4,.int .i64 ts,.int .i64 tc,.slice A na ca,.slice B nb cb]) (.mk 4 ts tc te tf)) (hf:formT (.mk 4 ts tc te tf)=true) (hi:i64b off) (hwd:wd=1∨wd=2∨wd=4):
  Calls Tryz.prog 70 #[.agg #[.int .i64 4,.int .i64 ts,.int .i64 tc,.slice A na ca,.slice B nb cb],.int .i64 off,.int .i64 wd] w (FatIs d wo w (faT (.mk 4 ts tc te tf) off wd)):=by
 have hte:∃x,te=[x]∧formT x=true∧1≤tc:=by
  rcases formT_cases hf with(h|h)|⟨s,hs,(h|h)⟩|⟨x,h,hx⟩|⟨x,m,h,hm1,hm2,hx⟩|⟨l,h,hl⟩
  ·cases h
  ·cases h
  ·cases h
  ·cases h
  ·cases h
  ·cases h;exact⟨x,rfl,hx,hm1⟩
  ·cases h
 obtain⟨x,rfl,hfx,htc⟩:=hte;have HSZT:=hid (fun W (hW:Ext w W)=>size31_any d W _ _ ((hv.ext (hx.trans hW))) hf);obtain⟨A',n',c',B',m',e',hv',hE, -, -⟩:=id hv;injection hv' with hv'
 simp only[Array.mk.injEq,List.cons.injEq,Value.slice.injEq,and_true]at hv';obtain⟨-, -, -,⟨rfl,rfl,rfl⟩,rfl,rfl,rfl⟩:=hv';obtain⟨d',b,of,A1,n1,c1,B1,m1,e1,rfl,rfl,hv1,x0,x1,x2,x3,x4⟩:=hE.ty_at (k:=0) (t:=x) rfl;rw[Nat.zero_mul,Nat.add_zero]at x0 x1 x2 x3 x4;have hlen:na=1:=hE.len;have hna:(0:Int)<(na:Int):=by omega
 have hna2:0<na:=by omega
 have HEL:=hid (fun W (hW:Ext w W)=>And.intro ((hx.trans hW).cell x0) (And.intro ((hx.trans hW).cell x1) (And.intro ((hx.trans hW).cell x2) (And.intro ((hx.trans hW).cell x3) ((hx.trans hW).cell x4)))));have HSX:=hid (fun W (hW:Ext w W)=>size31_any d' W x _ (hv1.ext (hx.trans hW)) hfx);have HIH:=hid (fun W (hW:Ext w W) o1 (ho1:i64b o1)=>ih d' (by omega) wo W x _ o1 wd (hx.trans hW) hv1 hfx ho1 hwd);have hx0:=szT_nonneg x hfx;have hx9:=szT_le x;have HSE:=hid (sz_arr' ts tc x tf);rw[fa_arr'];obtain⟨o,hoo⟩:∃o,(if off<0∨szT (.mk 4 ts tc [x] tf)≤off then none else faT x (off % szT x) wd)=o:=⟨_,rfl⟩;rw[hoo];obtain⟨sz,hsz⟩:∃sz,szT (.mk 4 ts tc [x] tf)=sz:=⟨_,rfl⟩;rw[hsz]at HSZT hoo HSE;obtain⟨sx,hsx⟩:∃sx,szT x=sx:=⟨_,rfl⟩;rw[hsx]at HSX hoo HSE hx0 hx9;have HOO:=hid hoo;clear hsz hsx x0 x1 x2 x3 x4 hE hv1 ih hoo hlen;obtain⟨W0,hW0⟩:∃W0,(w.alloc (.cells #[.int .i64 4,.int .i64 ts,.int .i64 tc,.slice (some ⟨b,of,none⟩) na ca,.slice B nb cb] 42)).alloc (.cells #[.int .i64 0,.int .i64 0,.int .i64 0,.slice none 0 0,.slice none 0 0] 42)=W0:=⟨_,rfl⟩;have HE0:=hid (by rw[←hW0];exact((Ext.refl w).alloc _).alloc _:Ext w W0)
 have HPA:Hid (Box5 W0 w.heap.size (.int .i64 4) (.int .i64 ts) (.int .i64 tc) (.slice (some ⟨b,of,none⟩) na ca) (.slice B nb cb)):=hid (by
  rw[←hW0];exact(Box5.new w _ _ _ _ _ _).ext ((Ext.refl _).alloc _))
 have HRB:Hid (Box5 W0 (w.heap.size+1) (.int .i64 0) (.int .i64 0) (.int .i64 0) (.slice none 0 0) (.slice none 0 0)):=hid (by
  rw[←hW0];have:=Box5.new (w.alloc (.cells #[.int .i64 4,.int .i64 ts,.int .i64 tc,.slice (some ⟨b,of,none⟩) na ca,.slice B nb cb] 42)) (.int .i64 0) (.int .i64 0) (.int .i64 0) (.slice none 0 0) (.slice none 0 0) 42
  rwa [show(w.alloc (.cells #[.int .i64 4,.int .i64 ts,.int .i64 tc,.slice (some ⟨b,of,none⟩) na ca,.slice B nb cb] 42)).heap.size=w.heap.size+1 by simp]at this)
 have HSZ:Hid (W0.heap.size=w.heap.size+2):=hid (by rw[←hW0];simp);have HV:=hid hv;have HXO:=hid hx;obtain⟨o0,o1,o2,o3,o4, -⟩:=HPA.out;clear hv hx;by_cases h1:off<0
 case pos=>
  have HNO:Hid (o=none):=hid (by rw[←HOO.out,if_pos (.inl h1)]);go_enter Tryz.func70,Tryz.ntmps70;clear o0 o1 o2 o3 o4;obtain⟨r0,r1,r2,r3,r4,rf⟩:=HRB.out;have u0:=rf 0;have u1:=rf 1;have u2:=rf 2;have u3:=rf 3;have u4:=rf 4;obtain⟨W3,hW3,hB3,hH3,hS3,hX3⟩:=box5_set (HRB.out) (.int .i64 0) (.int .i64 0) (.int .i64 0) (.slice none 0 0) (.slice none 0 0);obtain⟨t0,t1,t2,t3,t4, -⟩:=hB3;have HW3:=hid hW3;have HX3:=hid (hX3 w HE0.out (by omega));clear hW3 hH3 hX3 hS3 rf
  go_wp2
  rw[HW3.out];clear r0 r1 r2 r3 r4;refine bodyPost_ret (v:= .tuple #[.agg #[(.int .i64 0),(.int .i64 0),(.int .i64 0),(.slice none 0 0),(.slice none 0 0)],.bool false]) (by simp[results,Tryz.results70,go_sem,t0,t1,t2,t3,t4]) rfl ?_;exact⟨_,false,_,rfl,tyv_unk,HX3.out,.inr ⟨rfl,HNO.out⟩⟩
 go_enter Tryz.func70,Tryz.ntmps70
 go_wp2_with fail
 refine(HSZT.out _ HE0.out).mono ?_;rintro e w1 ⟨rfl,hx1⟩;have HX1:=hid hx1;have HP1:=hid (HPA.out.ext hx1);have HR1:=hid (HRB.out.ext hx1);have HE1:=hid (HE0.out.trans hx1);clear hx1 o0 o1 o2 o3 o4 hW0;by_cases h2:off<sz
 case neg=>
  have HNO:Hid (o=none):=hid (by rw[←HOO.out,if_pos (.inr (by omega))]);obtain⟨r0,r1,r2,r3,r4,rf⟩:=HR1.out;have u0:=rf 0;have u1:=rf 1;have u2:=rf 2;have u3:=rf 3;have u4:=rf 4;obtain⟨W3,hW3,hB3,hH3,hS3,hX3⟩:=box5_set (HR1.out) (.int .i64 0) (.int .i64 0) (.int .i64 0) (.slice none 0 0) (.slice none 0 0);obtain⟨t0,t1,t2,t3,t4, -⟩:=hB3;have HW3:=hid hW3;have HX3:=hid (hX3 w HE1.out (by omega));clear hW3 hH3 hX3 hS3 rf
  go_wp2
  rw[HW3.out];clear r0 r1 r2 r3 r4;refine bodyPost_ret (v:= .tuple #[.agg #[(.int .i64 0),(.int .i64 0),(.int .i64 0),(.slice none 0 0),(.slice none 0 0)],.bool false]) (by simp[results,Tryz.results70,go_sem,t0,t1,t2,t3,t4]) rfl ?_;exact⟨_,false,_,rfl,tyv_unk,HX3.out,.inr ⟨rfl,HNO.out⟩⟩
 have hsx0:0<sx:=by
  have:=HSE.out;have h3:sx≠0:=fun e=>by rw[e,Int.mul_zero]at this;omega
  omega
 obtain⟨om,hom⟩:∃om,off % sx=om:=⟨_,rfl⟩;have htm:Int.tmod off sx=om:=by rw[←hom];exact Int.tmod_eq_emod_of_nonneg (by omega)
 have hom1:0≤om:=by rw[←hom];exact Int.emod_nonneg _ (by omega)
 have hom2:om<sx:=by rw[←hom];exact Int.emod_lt_of_pos _ hsx0
 have hoi:i64b om:=by unfold i64b;omega
 have HO1:Hid (faT x om wd=o):=hid (by rw[←HOO.out,if_neg (by omega),hom]);have hsn:sx≠0:=by omega
 have hsn2:(sx == 0)=false:=by simp;omega
 obtain⟨V,hV⟩:∃V,V=w1:=⟨_,rfl⟩;obtain rfl:=hV;have HLT:Hid (w.heap.size+1<V.heap.size):=hid (by have:=HR1.out.lt;omega);have o3:=HP1.out.2.2.2.1;clear hom;go_upto_region 14 with fail
 have HSK:=hid (fun(W:World) (hh:Ext V W)=>(show W.cell? ⟨w.heap.size,3,none⟩=some (.slice (some ⟨b,of,none⟩) na ca)∧W.cell? ⟨b,of,none⟩=some (.int .i64 x.kind)∧W.cell? ⟨b,of+1,none⟩=some (.int .i64 x.size)∧W.cell? ⟨b,of+2,none⟩=some (.int .i64 x.count)∧W.cell? ⟨b,of+3,none⟩=some (.slice A1 n1 c1)∧W.cell? ⟨b,of+4,none⟩=some (.slice B1 m1 e1) from⟨(HP1.out.ext hh).2.2.2.1,HEL.out _ (HE1.out.trans hh)⟩));have HXg1q_0:=hid ((Ext.refl V).drew);refine wp_region_split 16 (by kernel_rfl) rfl rfl (by kernel_rfl) (fun w'=>w'.cell? ⟨w.heap.size,3,none⟩=some (.slice (some ⟨b,of,none⟩) na ca)∧w'.cell? ⟨b,of,none⟩=some (.int .i64 x.kind)∧w'.cell? ⟨b,of+1,none⟩=some (.int .i64 x.size)∧w'.cell? ⟨b,of+2,none⟩=some (.int .i64 x.count)∧w'.cell? ⟨b,of+3,none⟩=some (.slice A1 n1 c1)∧w'.cell? ⟨b,of+4,none⟩=some (.slice B1 m1 e1)) (HSK.out _ (Ext.refl _).drew) (fun hSg1q0=>?_);refine rgT6 0 1 2 3 4 5 ?_;refine rgT4 6 7 8 11 ?_;refine wpAnyH_ready (rs:=[9]) (by kernel_rfl) (by simp) ?_;refine(AllReadyH.consL rfl (fun K hK=>?g1qb9x11) AllReadyH.nil)
 case' g1qb9x11=>
  go_simp;go_at_call 94;refine(HSX.out _ (HE1.out.trans HXg1q_0.out)).mono ?_;rintro e w6 ⟨rfl,hEg1q1⟩;have HXg1q_1:=hid (HXg1q_0.out.trans hEg1q1);clear hEg1q1;refine rgK hK (HSK.out _ HXg1q_1.out) (fun hSg1q1=>?_);clear hK K;refine rgT 10 ?_;refine wpAnyH_ready (rs:=[12]) (by kernel_rfl) (by simp) ?_;refine(AllReadyH.consL rfl (fun K hK=>?g1qb12x13) AllReadyH.nil)
  case' g1qb12x13=>
   go_simp;go_at_call 70;refine(HIH.out _ (HE1.out.trans HXg1q_1.out) _ hoi).mono ?_;rintro e w7 ⟨v6,b6,x6,rfl,hv6,hEg1q2,ho6⟩;have HVW:=hid hv6;rw[HO1.out]at ho6;have HO6:=hid ho6;obtain⟨A6,n6,c6,B6,m6,e6,rfl, -⟩:=hv6;clear ho6;have HXg1q_2:=hid (HXg1q_1.out.trans hEg1q2);clear hEg1q2;refine rgK hK (HSK.out _ HXg1q_2.out) (fun hSg1q2=>?_);clear hK K;refine rgT2 13 14 ?_;refine wpAnyH_ready (rs:=[15]) (by kernel_rfl) (by simp) ?_;refine(AllReadyH.consL rfl (fun K hK=>?g1qb15x16) AllReadyH.nil)
   case' g1qb15x16=>
    obtain⟨W3,hW3,hB3,hH3,hS3,hX3⟩:=box5_set (HR1.out.ext HXg1q_2.out) (.int .i64 x6.kind) (.int .i64 x6.size) (.int .i64 x6.count) (.slice A6 n6 c6) (.slice B6 m6 e6);have HW3:=hid hW3;have HB3:=hid hB3;have HX3:=hid (hX3 w (HE1.out.trans HXg1q_2.out) (by omega));have HP3:=hid ((World.cell?_of_block (hH3 w.heap.size (by omega))).trans (HP1.out.ext HXg1q_2.out).2.2.2.1);obtain⟨z0,z1,z2,z3,z4,zf⟩:=HR1.out.ext HXg1q_2.out;have f0:=zf 0;have f1:=zf 1;have f2:=zf 2;have f3:=zf 3;have f4:=zf 4;clear hW3 hB3 hH3 hS3 hX3 zf;go_simp;rw[HW3.out];clear z0 z1 z2 z3 z4 f0 f1 f2 f3 f4;refine rgK hK ⟨HP3.out,HEL.out _ HX3.out⟩ (fun hSg1q3=>?_);clear hK K;refine wpAnyH_done (by kernel_rfl) ?_ _;change wpList _ _ _ _ _ _;obtain⟨t0,t1,t2,t3,t4, -⟩:=HB3.out
    go_wp2
    refine bodyPost_ret (v:= .tuple #[.agg #[.int .i64 x6.kind,.int .i64 x6.size,.int .i64 x6.count,.slice A6 n6 c6,.slice B6 m6 e6],.bool b6]) (by simp[results,Tryz.results70,go_sem,t0,t1,t2,t3,t4]) rfl ?_;exact⟨_,b6,x6,rfl,HVW.out.up (by omega),HX3.out,HO6.out⟩
def TyW (d:Nat)(wo w:World)(a:Nat)(t:Ty):Prop:=∃A n c B m e,Box5 w a (.int .i64 t.kind) (.int .i64 t.size) (.int .i64 t.count) (.slice A n c) (.slice B m e)∧TyV d wo All (.agg #[.int .i64 t.kind,.int .i64 t.size,.int .i64 t.count,.slice A n c,.slice B m e]) t
theorem faF_later {f:List (Int×Ty)}{off wd:Int}{k:Nat}{x:Int×Ty}(h:∀j,k+1≤j→∀g,f[j]? =some g→faT g.2 (off - g.1) wd=none)(hx:f[k]? =some x)(h0:faT x.2 (off - x.1) wd=none):∀j,k≤j→∀g,f[j]? =some g→faT g.2 (off - g.1) wd=none:=by
 intro j hj g hg;by_cases e:j=k
 ·subst e;rw[hx]at hg;cases hg;exact h0
 ·exact h j (by omega) g hg
set_option maxRecDepth 100000 in
set_option maxHeartbeats 8000000 in
theorem rfstr_any (d:Nat)(ih:∀d',d'<d→FatR d')(wo w:World)(ts tc:Int)(te:List Ty)(tf:List (Int×Ty))(off wd:Int)(A B:Option Addr)(na ca nb cb:Nat)(hx:Ext wo w)
  (hv:TyV d wo All (.agg #[.int .i64 5,.int .i64 ts,.int .i64 tc,.slice A na ca,.slice B nb cb]) (.mk 5 ts tc te tf)) (hf:formT (.mk 5 ts tc te tf)=true) (hi:i64b off) (hwd:wd=1∨wd=2∨wd=4):
  Calls Tryz.prog 70 #[.agg #[.int .i64 5,.int .i64 ts,.int .i64 tc,.slice A na ca,.slice B nb cb],.int .i64 off,.int .i64 wd] w (FatIs d wo w (faT (.mk 5 ts tc te tf) off wd)):=by
 have hff:formF (-1) tf=true:=by
  rcases formT_cases hf with(h|h)|⟨s,hs,(h|h)⟩|⟨x,h,hx⟩|⟨x,m,h,hm1,hm2,hx⟩|⟨l,h,hl⟩
  ·cases h
  ·cases h
  ·cases h
  ·cases h
  ·cases h
  ·cases h
  ·cases h;exact hl
 obtain⟨A',n',c',B',m',e',hv', -,hF, -⟩:=id hv;injection hv' with hv'
 simp only[Array.mk.injEq,List.cons.injEq,Value.slice.injEq,and_true]at hv';obtain⟨-, -, -,⟨rfl,rfl,rfl⟩,rfl,rfl,rfl⟩:=hv';have hF:Sl (fdR (tyR d)) wo All (.slice B nb cb) tf:=hF;have hln:=hF.len;obtain⟨hcb1,hcb2⟩:=hF.cap;rw[fa_str'];obtain⟨o,hoo⟩:∃o,(if off<0 then none else faF tf off wd)=o:=⟨_,rfl⟩;rw[hoo];have HOO:=hid hoo;have HF:=hid hF;have HLN:=hid hln;have HFF:=hid hff;have HIH:=hid ih;have HHI:=hid hi;have HWD:=hid hwd;clear hoo hF hln hff ih hi hwd hf;obtain⟨W0,hW0⟩:∃W0,(w.alloc (.cells #[.int .i64 5,.int .i64 ts,.int .i64 tc,.slice A na ca,.slice B nb cb] 42)).alloc (.cells #[.int .i64 0,.int .i64 0,.int .i64 0,.slice none 0 0,.slice none 0 0] 42)=W0:=⟨_,rfl⟩;have HE0:=hid (by rw[←hW0];exact((Ext.refl w).alloc _).alloc _:Ext w W0)
 have HPA:Hid (Box5 W0 w.heap.size (.int .i64 5) (.int .i64 ts) (.int .i64 tc) (.slice A na ca) (.slice B nb cb)):=hid (by
  rw[←hW0];exact(Box5.new w _ _ _ _ _ _).ext ((Ext.refl _).alloc _))
 have HRB:Hid (Box5 W0 (w.heap.size+1) (.int .i64 0) (.int .i64 0) (.int .i64 0) (.slice none 0 0) (.slice none 0 0)):=hid (by
  rw[←hW0];have:=Box5.new (w.alloc (.cells #[.int .i64 5,.int .i64 ts,.int .i64 tc,.slice A na ca,.slice B nb cb] 42)) (.int .i64 0) (.int .i64 0) (.int .i64 0) (.slice none 0 0) (.slice none 0 0) 42
  rwa [show(w.alloc (.cells #[.int .i64 5,.int .i64 ts,.int .i64 tc,.slice A na ca,.slice B nb cb] 42)).heap.size=w.heap.size+1 by simp]at this)
 have HSZ:Hid (W0.heap.size=w.heap.size+2):=hid (by rw[←hW0];simp);have HV:=hid hv;have HXO:=hid hx;obtain⟨o0,o1,o2,o3,o4, -⟩:=HPA.out;clear hv hx;by_cases h1:off<0
 case pos=>
  have HNO:Hid (o=none):=hid (by rw[←HOO.out,if_pos h1]);go_enter Tryz.func70,Tryz.ntmps70;clear o0 o1 o2 o3 o4;obtain⟨r0,r1,r2,r3,r4,rf⟩:=HRB.out;have u0:=rf 0;have u1:=rf 1;have u2:=rf 2;have u3:=rf 3;have u4:=rf 4;obtain⟨W3,hW3,hB3,hH3,hS3,hX3⟩:=box5_set (HRB.out) (.int .i64 0) (.int .i64 0) (.int .i64 0) (.slice none 0 0) (.slice none 0 0);obtain⟨t0,t1,t2,t3,t4, -⟩:=hB3;have HW3:=hid hW3;have HX3:=hid (hX3 w HE0.out (by omega));clear hW3 hH3 hX3 hS3 rf
  go_wp2
  rw[HW3.out];clear r0 r1 r2 r3 r4;refine bodyPost_ret (v:= .tuple #[.agg #[(.int .i64 0),(.int .i64 0),(.int .i64 0),(.slice none 0 0),(.slice none 0 0)],.bool false]) (by simp[results,Tryz.results70,go_sem,t0,t1,t2,t3,t4]) rfl ?_;exact⟨_,false,_,rfl,tyv_unk,HX3.out,.inr ⟨rfl,HNO.out⟩⟩
 have HO1:Hid (faF tf off wd=o):=hid (by rw[←HOO.out,if_neg h1]);have e0:IntKind.i64.wrap ((nb:Int) - 1)=(nb:Int) - 1:=IntWalk.i64_in _ (by omega);have HP4:=hid o4;go_enter Tryz.func70,Tryz.ntmps70
 go_wp2
 clear o0 o1 o2 o3 o4 hW0 e0
 go_loopw [8,9,10] (fun i s9 s10 wr=>∃(k:Nat) (q:Int),k≤nb∧Hid (q=(k:Int) - 1)∧i= .int .i64 q∧Hid (Ext W0 wr)∧Hid (∀j,k≤j→∀g,tf[j]? =some g→faT g.2 (off - g.1) wd=none)) (fun i _ _ _=>(intOf i+1).toNat)
 case atStart=>exact⟨nb,_,Nat.le_refl _,hid rfl,rfl,hid (Ext.refl _),hid (fun j hj g hg=>by have:=(List.getElem?_eq_some_iff.1 hg).1;have:=HLN.out;omega)⟩
 case round=>
  obtain⟨k,q,hk,HQ,rfl,HX,HA⟩:=hrel;obtain⟨V,hV⟩:∃V,V=wr:=⟨_,rfl⟩;obtain rfl:=hV;have p4:=HX.out.cell HP4.out;by_cases h2:q≥0
  case neg=>
   have HNO:Hid (o=none):=hid (by
    rw[←HO1.out];refine faF_none fun g hg=>?_;obtain⟨j,hj⟩:=List.getElem?_of_mem hg;exact HA.out j (by have:=HQ.out;omega) g hj)
   clear p4;obtain⟨r0,r1,r2,r3,r4,rf⟩:=HRB.out.ext HX.out;have u0:=rf 0;have u1:=rf 1;have u2:=rf 2;have u3:=rf 3;have u4:=rf 4;obtain⟨W3,hW3,hB3,hH3,hS3,hX3⟩:=box5_set (HRB.out.ext HX.out) (.int .i64 0) (.int .i64 0) (.int .i64 0) (.slice none 0 0) (.slice none 0 0);obtain⟨t0,t1,t2,t3,t4, -⟩:=hB3;have HW3:=hid hW3;have HX3:=hid (hX3 w (HE0.out.trans HX.out) (by omega));clear hW3 hH3 hX3 hS3 rf
   go_wp2
   rw[HW3.out];clear r0 r1 r2 r3 r4;refine bodyPost_ret (v:= .tuple #[.agg #[(.int .i64 0),(.int .i64 0),(.int .i64 0),(.slice none 0 0),(.slice none 0 0)],.bool false]) (by simp[results,Tryz.results70,go_sem,t0,t1,t2,t3,t4]) rfl ?_;exact⟨_,false,_,rfl,tyv_unk,HX3.out,.inr ⟨rfl,HNO.out⟩⟩
  obtain⟨k',hk'⟩:∃k':Nat,q=k':=⟨q.toNat,by omega⟩;subst hk';have hkk:k=k'+1:=by have:=HQ.out;omega
  have hkn:k'<nb:=by omega
  have HKK:=hid hkk;subst hkk;obtain⟨x,hxx⟩:∃x,tf[k']? =some x:=⟨_,List.getElem?_eq_getElem (by have:=HLN.out;omega)⟩;obtain⟨d1,bx,ox,P1,np1,cp1,P2,np2,cp2,hd,rfl,hv1,hi1,x0,x1,x2,x3,x4,x5⟩:=HF.out.fd_at hxx;have HXX:=hid hxx;have hfm:=formF_all HFF.out x (List.mem_of_getElem? hxx);have hwx:=HXO.out.trans (HE0.out.trans HX.out);have x0:=hwx.cell x0;have x1:=hwx.cell x1;have x2:=hwx.cell x2;have x3:=hwx.cell x3;have x4:=hwx.cell x4;have x5:=hwx.cell x5;have i2:(k':Int)<(nb:Int):=by omega
  have e2:IntKind.i64.wrap ((k':Int) - 1)=(k':Int) - 1:=IntWalk.i64_in _ (by omega);have hoff:i64b off:=HHI.out;have e3:IntKind.i64.wrap (off - x.1)=off - x.1:=IntWalk.i64_in _ (by unfold i64b at hoff;omega);have HC:=hid (HIH.out d1 (by omega) wo);have HIO:=hid (show i64b (off - x.1) by unfold i64b at hoff ⊢;omega);have HD:=hid hd;have HVX:=hid hv1;have HFX:=hid hfm.2.2;clear hd hv1 hi1 hxx hfm hoff hkn HQ HKK;by_cases h3:off<x.1
  ·have HN3:Hid (faT x.2 (off - x.1) wd=none):=hid (faT_neg x.2 (by omega));clear x1 x2 x3 x4 x5 e3
   go_wp2
   first
    |go_roundw
    |refine⟨?rel, ?measure⟩
   case rel=>exact⟨k',(k':Int) - 1,by omega,hid rfl,by first|rfl|go_num,HX,hid (faF_later HA.out HXX.out HN3.out)⟩
   case measure=>simp [intOf,e2] <;> omega
  ·obtain⟨fo,hfo⟩:∃fo,faT x.2 (off - x.1) wd=fo:=⟨_,rfl⟩;have HFO:=hid hfo;have HCC:=hid (fun w' (hw:Ext V w')=>HC.out w' x.2 _ (off - x.1) wd (hwx.trans hw) HVX.out HFX.out HIO.out HWD.out);rw[hfo]at HCC;have HSK:=hid (fun(w':World) (hh:Ext V w')=>(show w'.cell? ⟨w.heap.size,4,none⟩=some (.slice (some ⟨bx,ox,none⟩) nb cb)∧w'.cell? ⟨bx,ox+k' * 6,none⟩=some (.int .i64 x.1)∧w'.cell? ⟨bx,ox+k' * 6+1,none⟩=some (.int .i64 x.2.kind)∧w'.cell? ⟨bx,ox+k' * 6+2,none⟩=some (.int .i64 x.2.size)∧w'.cell? ⟨bx,ox+k' * 6+3,none⟩=some (.int .i64 x.2.count)∧w'.cell? ⟨bx,ox+k' * 6+4,none⟩=some (.slice P1 np1 cp1)∧w'.cell? ⟨bx,ox+k' * 6+5,none⟩=some (.slice P2 np2 cp2) from⟨hh.cell p4,hh.cell x0,hh.cell x1,hh.cell x2,hh.cell x3,hh.cell x4,hh.cell x5⟩));clear hfo HC hwx;go_upto_region 20 with fail
   go_cut [9,10] from 72 to 90 (fun s9 s10 wx=>∃(aF:Nat) (bf:Bool) (fx:Ty),s9= .pointer (some ⟨aF,0,none⟩)∧s10= .bool bf∧Hid (Ext V wx)∧Hid (TyW d1 wo wx aF fx)∧Hid ((bf=true∧fo=some fx)∨(bf=false∧fo=none)))
   case rest=>
    obtain⟨aF,bf,fx,rfl,rfl,HX3,HTF,HFB⟩:=hcut;have HE3:=hid (HE0.out.trans (HX.out.trans HX3.out));have HR3:=hid (HRB.out.ext (HX.out.trans HX3.out));obtain⟨A7,n7,c7,B7,m7,e7,HBF,HVF⟩:=(⟨_,_,_,_,_,_,hid HTF.out.choose_spec.choose_spec.choose_spec.choose_spec.choose_spec.choose_spec.1,hid HTF.out.choose_spec.choose_spec.choose_spec.choose_spec.choose_spec.choose_spec.2⟩:∃A n c B m e,Hid (Box5 wc aF (.int .i64 fx.kind) (.int .i64 fx.size) (.int .i64 fx.count) (.slice A n c) (.slice B m e))∧Hid (TyV d1 wo All (.agg #[.int .i64 fx.kind,.int .i64 fx.size,.int .i64 fx.count,.slice A n c,.slice B m e]) fx));clear HTF p4 x0 x1 x2 x3 x4 x5 HSK HCC e3
    cases bf with
    | false=>
     have HN3:Hid (faT x.2 (off - x.1) wd=none):=hid (by
      rw[HFO.out];rcases HFB.out with⟨h,_⟩|⟨_,h⟩
      ·cases h
      ·exact h)
     go_wp2
     first
      |go_roundw
      |refine⟨?rel, ?measure⟩
     case rel=>exact⟨k',(k':Int) - 1,by omega,hid rfl,by first|rfl|go_num,hid (HX.out.trans HX3.out),hid (faF_later HA.out HXX.out HN3.out)⟩
     case measure=>simp [intOf,e2] <;> omega
    | true=>
     have HYES:Hid (o=some fx):=hid (by
      rw[←HO1.out];refine faF_hit HXX.out (x:=fx) ?_ fun j hj g hg=>HA.out j (by omega) g hg;rw[HFO.out];rcases HFB.out with⟨_,h⟩|⟨h,_⟩
      ·exact h
      ·cases h)
     obtain⟨y0,y1,y2,y3,y4, -⟩:=HBF.out;obtain⟨r0,r1,r2,r3,r4,rf⟩:=HR3.out;have u0:=rf 0;have u1:=rf 1;have u2:=rf 2;have u3:=rf 3;have u4:=rf 4;obtain⟨W3,hW3,hB3,hH3,hS3,hX3⟩:=box5_set (HR3.out) (.int .i64 fx.kind) (.int .i64 fx.size) (.int .i64 fx.count) (.slice A7 n7 c7) (.slice B7 m7 e7);obtain⟨t0,t1,t2,t3,t4, -⟩:=hB3;have HW3:=hid hW3;have HX3:=hid (hX3 w HE3.out (by omega));clear hW3 hH3 hX3 hS3 rf
     go_wp2
     rw[HW3.out];clear r0 r1 r2 r3 r4;refine bodyPost_ret (v:= .tuple #[.agg #[(.int .i64 fx.kind),(.int .i64 fx.size),(.int .i64 fx.count),(.slice A7 n7 c7),(.slice B7 m7 e7)],.bool true]) (by simp[results,Tryz.results70,go_sem,t0,t1,t2,t3,t4]) rfl ?_;exact⟨_,true,_,rfl,HVF.out.up (by have:=HD.out;omega),HX3.out,.inl ⟨rfl,HYES.out⟩⟩
   have HXg2q_0:=hid ((Ext.refl V).drew);refine wp_region_split 21 (by kernel_rfl) rfl rfl (by kernel_rfl) (fun w'=>w'.cell? ⟨w.heap.size,4,none⟩=some (.slice (some ⟨bx,ox,none⟩) nb cb)∧w'.cell? ⟨bx,ox+k' * 6,none⟩=some (.int .i64 x.1)∧w'.cell? ⟨bx,ox+k' * 6+1,none⟩=some (.int .i64 x.2.kind)∧w'.cell? ⟨bx,ox+k' * 6+2,none⟩=some (.int .i64 x.2.size)∧w'.cell? ⟨bx,ox+k' * 6+3,none⟩=some (.int .i64 x.2.count)∧w'.cell? ⟨bx,ox+k' * 6+4,none⟩=some (.slice P1 np1 cp1)∧w'.cell? ⟨bx,ox+k' * 6+5,none⟩=some (.slice P2 np2 cp2)) (HSK.out _ (Ext.refl _).drew) (fun hSg2q0=>?_);refine rgT6 0 1 2 3 4 5 ?_;refine rgT6 6 7 8 9 10 11 ?_;refine rgT3 12 13 14 ?_;refine wpAnyH_ready (rs:=[15,19]) (by kernel_rfl) (by simp) ?_;refine(AllReadyH.consL rfl (fun K hK=>?g2qb15x16) (AllReadyH.consL rfl (fun K hK=>?g2qb19x16) AllReadyH.nil))
   case' g2qb15x16=>
    go_simp;go_at_call 70;refine(HCC.out _ HXg2q_0.out).mono ?_;rintro e w5 ⟨v5,bf,fx,rfl,hv5,hEg2q1,hfo⟩;have HVF:=hid hv5;have HFB:=hid hfo;obtain⟨A5',n5',c5',B5',m5',e5',rfl, -⟩:=hv5;clear hfo;have HXg2q_1:=hid (HXg2q_0.out.trans hEg2q1);clear hEg2q1;refine rgK hK (HSK.out _ HXg2q_1.out) (fun hSg2q1=>?_);clear hK K;refine rgT3 16 17 18 ?_;refine wpAnyH_ready (rs:=[19]) (by kernel_rfl) (by simp) ?_;refine(AllReadyH.consL rfl (fun K hK=>?g2qb19x20) AllReadyH.nil)
    case' g2qb19x20=>
     go_simp;obtain⟨wP,aF,hA1,hsz,hEg2q2,hge,hob,hss⟩:=newT HXg2q_1.out;refine Eq.mpr (congrArg (K _) hA1) ?_
     first|rw[hsz]|(have hq:V.heap.size=aF:=hsz;rw[hq];clear hq)|skip
     have HBP:=hid hob;have HGP:=hid hge;clear hA1 hsz hge hob hss;have HXg2q_2:=hid (HXg2q_1.out.trans hEg2q2);clear hEg2q2;refine rgK hK (HSK.out _ HXg2q_2.out) (fun hSg2q2=>?_);clear hK K;refine wpAnyH_ready (rs:=[20]) (by kernel_rfl) (by simp) ?_;refine(AllReadyH.consL rfl (fun K hK=>?g2qb20x21) AllReadyH.nil)
     case' g2qb20x21=>
      obtain⟨W3,hW3,hB3,hH3,hS3,hX3⟩:=box5_set HBP.out (.int .i64 fx.kind) (.int .i64 fx.size) (.int .i64 fx.count) (.slice A5' n5' c5') (.slice B5' m5' e5');have HTB:Hid (TyW d1 wo W3 aF fx):=hid ⟨_,_,_,_,_,_,hB3,HVF.out⟩;have HE3:=hid (hX3 V HXg2q_2.out HGP.out);have HW3:=hid hW3;obtain⟨z0,z1,z2,z3,z4,zf⟩:=HBP.out;have f0:=zf 0;have f1:=zf 1;have f2:=zf 2;have f3:=zf 3;have f4:=zf 4;clear hB3 hH3 hS3 hX3 hW3 zf HBP;go_simp;rw[HW3.out];clear z0 z1 z2 z3 z4 f0 f1 f2 f3 f4;refine rgK hK (HSK.out _ HE3.out) (fun hSg2q3=>?_);clear hK K;refine wpAnyH_done (by kernel_rfl) ?_ _;change wpList _ _ _ _ _ _
      go_wp2
      go_meet;exact⟨aF,bf,fx,rfl,rfl,HE3,HTB,HFB⟩
   case' g2qb19x16=>
    go_simp;obtain⟨wP,aF,hA1,hsz,hEg2q1,hge,hob,hss⟩:=newT HXg2q_0.out;refine Eq.mpr (congrArg (K _) hA1) ?_
    first|rw[hsz]|(have hq:V.heap.size=aF:=hsz;rw[hq];clear hq)|skip
    have HBP:=hid hob;have HGP:=hid hge;clear hA1 hsz hge hob hss;have HXg2q_1:=hid (HXg2q_0.out.trans hEg2q1);clear hEg2q1;refine rgK hK (HSK.out _ HXg2q_1.out) (fun hSg2q1=>?_);clear hK K;refine wpAnyH_ready (rs:=[15]) (by kernel_rfl) (by simp) ?_;refine(AllReadyH.consL rfl (fun K hK=>?g2qb15x22) AllReadyH.nil)
    case' g2qb15x22=>
     go_simp;go_at_call 70;refine(HCC.out _ HXg2q_1.out).mono ?_;rintro e w5 ⟨v5,bf,fx,rfl,hv5,hEg2q2,hfo⟩;have HVF:=hid hv5;have HFB:=hid hfo;obtain⟨A5',n5',c5',B5',m5',e5',rfl, -⟩:=hv5;clear hfo;have HXg2q_2:=hid (HXg2q_1.out.trans hEg2q2);have HBP:=hid (HBP.out.ext hEg2q2);clear hEg2q2;refine rgK hK (HSK.out _ HXg2q_2.out) (fun hSg2q2=>?_);clear hK K;refine rgT3 16 17 18 ?_;refine wpAnyH_ready (rs:=[20]) (by kernel_rfl) (by simp) ?_;refine(AllReadyH.consL rfl (fun K hK=>?g2qb20x26) AllReadyH.nil)
     case' g2qb20x26=>
      obtain⟨W3,hW3,hB3,hH3,hS3,hX3⟩:=box5_set HBP.out (.int .i64 fx.kind) (.int .i64 fx.size) (.int .i64 fx.count) (.slice A5' n5' c5') (.slice B5' m5' e5');have HTB:Hid (TyW d1 wo W3 aF fx):=hid ⟨_,_,_,_,_,_,hB3,HVF.out⟩;have HE3:=hid (hX3 V HXg2q_2.out HGP.out);have HW3:=hid hW3;obtain⟨z0,z1,z2,z3,z4,zf⟩:=HBP.out;have f0:=zf 0;have f1:=zf 1;have f2:=zf 2;have f3:=zf 3;have f4:=zf 4;clear hB3 hH3 hS3 hX3 hW3 zf HBP;go_simp;rw[HW3.out];clear z0 z1 z2 z3 z4 f0 f1 f2 f3 f4;refine rgK hK (HSK.out _ HE3.out) (fun hSg2q3=>?_);clear hK K;refine wpAnyH_done (by kernel_rfl) ?_ _;change wpList _ _ _ _ _ _
      go_wp2
      go_meet;exact⟨aF,bf,fx,rfl,rfl,HE3,HTB,HFB⟩
theorem fatr_any:∀d,FatR d:=by
 intro d
 induction d using Nat.strongRecOn with
 |_ d ih=>
  intro wo w t v off wd hx hv hf hi hwd;obtain⟨A,na,ca,B,nb,cb,rfl, -⟩:=id hv;rcases formT_cases hf with(rfl|rfl)|⟨s,hs,(rfl|rfl)⟩|⟨x,rfl,hfx⟩|⟨x,n,rfl,h1,h2,hfx⟩|⟨l,rfl,hl⟩
  ·exact rfwide_any d wo w 0 0 0 [] [] off wd A B na ca nb cb hx hv (.inl rfl) hi
  ·exact rfwide_any d wo w 6 0 0 [] [] off wd A B na ca nb cb hx hv (.inr rfl) hi
  ·exact rfleaf_any d wo w 1 s 0 [] [] off wd A B na ca nb cb hx hv hf (.inl rfl) hi
  ·exact rfleaf_any d wo w 2 s 0 [] [] off wd A B na ca nb cb hx hv hf (.inr (.inl rfl)) hi
  ·exact rfleaf_any d wo w 3 0 0 [x] [] off wd A B na ca nb cb hx hv hf (.inr (.inr rfl)) hi
  ·exact rfarr_any d ih wo w 0 n [x] [] off wd A B na ca nb cb hx hv hf hi hwd
  ·exact rfstr_any d ih wo w 0 0 [] l off wd A B na ca nb cb hx hv hf hi hwd
set_option maxRecDepth 100000 in
set_option maxHeartbeats 8000000 in
theorem fieldat31_any (d:Nat)(wo w:World)(t:Ty)(v:Value)(off wd:Int)(hx:Ext wo w)(hv:TyV d wo All v t)(hi:i64b off):Calls Tryz.prog 42 #[v,.int .i64 off,.int .i64 wd] w (FatIs d wo w (fieldT t off wd)):=by
 have HXO:=hid hx;clear hx;have HV:=hid hv;obtain⟨A,na,ca,B,nb,cb,rfl, -⟩:=hv;obtain⟨o,hoo⟩:∃o,fieldT t off wd=o:=⟨_,rfl⟩;rw[hoo];have HOO:=hid hoo;clear hoo;obtain⟨W0,hW0⟩:∃W0,(w.alloc (.cells #[.int .i64 t.kind,.int .i64 t.size,.int .i64 t.count,.slice A na ca,.slice B nb cb] 42)).alloc (.cells #[.int .i64 0,.int .i64 0,.int .i64 0,.slice none 0 0,.slice none 0 0] 42)=W0:=⟨_,rfl⟩;have HE0:=hid (by rw[←hW0];exact((Ext.refl w).alloc _).alloc _:Ext w W0)
 have HPA:Hid (Box5 W0 w.heap.size (.int .i64 t.kind) (.int .i64 t.size) (.int .i64 t.count) (.slice A na ca) (.slice B nb cb)):=hid (by
  rw[←hW0];exact(Box5.new w _ _ _ _ _ _).ext ((Ext.refl _).alloc _))
 have HRB:Hid (Box5 W0 (w.heap.size+1) (.int .i64 0) (.int .i64 0) (.int .i64 0) (.slice none 0 0) (.slice none 0 0)):=hid (by
  rw[←hW0];have:=Box5.new (w.alloc (.cells #[.int .i64 t.kind,.int .i64 t.size,.int .i64 t.count,.slice A na ca,.slice B nb cb] 42)) (.int .i64 0) (.int .i64 0) (.int .i64 0) (.slice none 0 0) (.slice none 0 0) 42
  rwa [show(w.alloc (.cells #[.int .i64 t.kind,.int .i64 t.size,.int .i64 t.count,.slice A na ca,.slice B nb cb] 42)).heap.size=w.heap.size+1 by simp]at this)
 obtain⟨o0,o1,o2,o3,o4, -⟩:=HPA.out;have HGC:=hid (check31_any d W0 t _ (HV.out.ext (HXO.out.trans HE0.out)));obtain⟨z,hz⟩:∃z,chkT t=z:=⟨_,rfl⟩;rw[hz]at HGC;have HZ:=hid hz;clear hz;go_enter Tryz.func42,Tryz.ntmps42
 go_wp2_with fail
 refine HGC.out.mono ?_;rintro e w1 ⟨rfl,hx1⟩;have HX1:=hid hx1;have HE1:=hid (HE0.out.trans HX1.out);have HR1:=hid (HRB.out.ext HX1.out);have o0:=hx1.cell o0;have o1:=hx1.cell o1;have o2:=hx1.cell o2;have o3:=hx1.cell o3;have o4:=hx1.cell o4;clear hx1 hW0;by_cases h1:z=0
 case neg=>
  have g1:((z:Int) != 0)=true:=by simp;omega
  have HNO:Hid (o=none):=hid (by rw[←HOO.out];unfold fieldT;rw[if_neg (fun h=>h1 (by rw[←HZ.out];exact of_decide_eq_true h.1))]);clear o0 o1 o2 o3 o4 h1;obtain⟨r0,r1,r2,r3,r4,rf⟩:=HR1.out;have u0:=rf 0;have u1:=rf 1;have u2:=rf 2;have u3:=rf 3;have u4:=rf 4;obtain⟨W3,hW3,hB3,hH3,hS3,hX3⟩:=box5_set (HR1.out) (.int .i64 0) (.int .i64 0) (.int .i64 0) (.slice none 0 0) (.slice none 0 0);obtain⟨t0,t1,t2,t3,t4, -⟩:=hB3;have HW3:=hid hW3;have HX3:=hid (hX3 w HE1.out (by omega));clear hW3 hH3 hX3 hS3 rf
  go_wp2
  rw[HW3.out];clear r0 r1 r2 r3 r4;refine bodyPost_ret (v:= .tuple #[.agg #[(.int .i64 0),(.int .i64 0),(.int .i64 0),(.slice none 0 0),(.slice none 0 0)],.bool false]) (by simp[results,Tryz.results42,go_sem,t0,t1,t2,t3,t4]) rfl ?_;exact⟨_,false,_,rfl,tyv_unk,HX3.out,.inr ⟨rfl,HNO.out⟩⟩
 subst h1;by_cases hw:wd=1∨wd=2∨wd=4
 case neg=>
  have HNO:Hid (o=none):=hid (by rw[←HOO.out];unfold fieldT;rw[if_neg (fun h=>hw h.2)]);have k1:(wd != 1)=true:=by simp;omega
  have k2:(wd != 2)=true:=by simp;omega
  have k4:(wd != 4)=true:=by simp;omega
  clear o0 o1 o2 o3 o4 hw;obtain⟨r0,r1,r2,r3,r4,rf⟩:=HR1.out;have u0:=rf 0;have u1:=rf 1;have u2:=rf 2;have u3:=rf 3;have u4:=rf 4;obtain⟨W3,hW3,hB3,hH3,hS3,hX3⟩:=box5_set (HR1.out) (.int .i64 0) (.int .i64 0) (.int .i64 0) (.slice none 0 0) (.slice none 0 0);obtain⟨t0,t1,t2,t3,t4, -⟩:=hB3;have HW3:=hid hW3;have HX3:=hid (hX3 w HE1.out (by omega));clear hW3 hH3 hX3 hS3 rf
  go_wp2
  rw[HW3.out];clear r0 r1 r2 r3 r4;refine bodyPost_ret (v:= .tuple #[.agg #[(.int .i64 0),(.int .i64 0),(.int .i64 0),(.slice none 0 0),(.slice none 0 0)],.bool false]) (by simp[results,Tryz.results42,go_sem,t0,t1,t2,t3,t4]) rfl ?_;exact⟨_,false,_,rfl,tyv_unk,HX3.out,.inr ⟨rfl,HNO.out⟩⟩
 have hgd:goodT t=true:=decide_eq_true HZ.out;have hG:=goodT_iff.1 hgd;have HFC:=hid (fatr_any d wo w1 t _ off wd (HXO.out.trans HE1.out) HV.out hG.2.1 hi hw);have HFT:Hid (faT t off wd=o):=hid (by rw[←HOO.out];unfold fieldT;rw[if_pos ⟨hgd,hw⟩]);rw[HFT.out]at HFC;clear hG hgd;rcases hw with rfl|rfl|rfl
 case inl=>
  go_wp2_with fail
  refine HFC.out.mono ?_;rintro e w2 ⟨v2,b2,x2,rfl,hv2,hx2,ho2⟩;have HV2:=hid hv2;have HO2:=hid ho2;have HX2:=hid hx2;obtain⟨A2,n2,c2,B2,m2,e2,rfl, -⟩:=hv2;clear hx2 ho2 o0 o1 o2 o3 o4;obtain⟨r0,r1,r2,r3,r4,rf⟩:=HR1.out.ext HX2.out;have u0:=rf 0;have u1:=rf 1;have u2:=rf 2;have u3:=rf 3;have u4:=rf 4;obtain⟨W3,hW3,hB3,hH3,hS3,hX3⟩:=box5_set (HR1.out.ext HX2.out) (.int .i64 x2.kind) (.int .i64 x2.size) (.int .i64 x2.count) (.slice A2 n2 c2) (.slice B2 m2 e2);obtain⟨t0,t1,t2,t3,t4, -⟩:=hB3;have HW3:=hid hW3;have HX3:=hid (hX3 w (HE1.out.trans HX2.out) (by omega));clear hW3 hH3 hX3 hS3 rf
  go_wp2
  rw[HW3.out];clear r0 r1 r2 r3 r4;refine bodyPost_ret (v:= .tuple #[.agg #[(.int .i64 x2.kind),(.int .i64 x2.size),(.int .i64 x2.count),(.slice A2 n2 c2),(.slice B2 m2 e2)],.bool b2]) (by simp[results,Tryz.results42,go_sem,t0,t1,t2,t3,t4]) rfl ?_;exact⟨_,b2,_,rfl,HV2.out,HX3.out,HO2.out⟩
 case inr.inl=>
  go_wp2_with fail
  refine HFC.out.mono ?_;rintro e w2 ⟨v2,b2,x2,rfl,hv2,hx2,ho2⟩;have HV2:=hid hv2;have HO2:=hid ho2;have HX2:=hid hx2;obtain⟨A2,n2,c2,B2,m2,e2,rfl, -⟩:=hv2;clear hx2 ho2 o0 o1 o2 o3 o4;obtain⟨r0,r1,r2,r3,r4,rf⟩:=HR1.out.ext HX2.out;have u0:=rf 0;have u1:=rf 1;have u2:=rf 2;have u3:=rf 3;have u4:=rf 4;obtain⟨W3,hW3,hB3,hH3,hS3,hX3⟩:=box5_set (HR1.out.ext HX2.out) (.int .i64 x2.kind) (.int .i64 x2.size) (.int .i64 x2.count) (.slice A2 n2 c2) (.slice B2 m2 e2);obtain⟨t0,t1,t2,t3,t4, -⟩:=hB3;have HW3:=hid hW3;have HX3:=hid (hX3 w (HE1.out.trans HX2.out) (by omega));clear hW3 hH3 hX3 hS3 rf
  go_wp2
  rw[HW3.out];clear r0 r1 r2 r3 r4;refine bodyPost_ret (v:= .tuple #[.agg #[(.int .i64 x2.kind),(.int .i64 x2.size),(.int .i64 x2.count),(.slice A2 n2 c2),(.slice B2 m2 e2)],.bool b2]) (by simp[results,Tryz.results42,go_sem,t0,t1,t2,t3,t4]) rfl ?_;exact⟨_,b2,_,rfl,HV2.out,HX3.out,HO2.out⟩
 case inr.inr=>
  go_wp2_with fail
  refine HFC.out.mono ?_;rintro e w2 ⟨v2,b2,x2,rfl,hv2,hx2,ho2⟩;have HV2:=hid hv2;have HO2:=hid ho2;have HX2:=hid hx2;obtain⟨A2,n2,c2,B2,m2,e2,rfl, -⟩:=hv2;clear hx2 ho2 o0 o1 o2 o3 o4;obtain⟨r0,r1,r2,r3,r4,rf⟩:=HR1.out.ext HX2.out;have u0:=rf 0;have u1:=rf 1;have u2:=rf 2;have u3:=rf 3;have u4:=rf 4;obtain⟨W3,hW3,hB3,hH3,hS3,hX3⟩:=box5_set (HR1.out.ext HX2.out) (.int .i64 x2.kind) (.int .i64 x2.size) (.int .i64 x2.count) (.slice A2 n2 c2) (.slice B2 m2 e2);obtain⟨t0,t1,t2,t3,t4, -⟩:=hB3;have HW3:=hid hW3;have HX3:=hid (hX3 w (HE1.out.trans HX2.out) (by omega));clear hW3 hH3 hX3 hS3 rf
  go_wp2
  rw[HW3.out];clear r0 r1 r2 r3 r4;refine bodyPost_ret (v:= .tuple #[.agg #[(.int .i64 x2.kind),(.int .i64 x2.size),(.int .i64 x2.count),(.slice A2 n2 c2),(.slice B2 m2 e2)],.bool b2]) (by simp[results,Tryz.results42,go_sem,t0,t1,t2,t3,t4]) rfl ?_;exact⟨_,b2,_,rfl,HV2.out,HX3.out,HO2.out⟩
end Go.Proofs.YtlmipgdnlfjpaaaGreat
