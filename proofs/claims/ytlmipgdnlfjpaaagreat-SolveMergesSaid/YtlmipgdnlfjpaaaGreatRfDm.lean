/- Merged by program from texts of my own. -/
import Derived.Test.YtlmipgdnlfjpaaaGreatRfCm
namespace Go.Proofs.YtlmipgdnlfjpaaaGreat
open Go.RowKit Go.Deco
set_option linter.unusedSimpArgs false
set_option linter.unusedVariables false
set_option maxRecDepth 100000 in
set_option maxHeartbeats 4000000 in
theorem size31_any:∀(d:Nat) (w:World) (t:Ty) (v:Value),TyV d w All v t→formT t=true→Calls Tryz.prog 94 #[v] w (TInt w (szT t)):=by
 intro d
 induction d using Nat.strongRecOn with
 | _ d ih=>
  intro w t v hv hform;obtain⟨A,na,ca,B,nb,cb,rfl,hE,hF,hk,hs,hc⟩:=hv;have hla:=hE.len;have hlb:=hF.len;obtain⟨hac,ham⟩:=hE.cap;obtain⟨hbc,hbm⟩:=hF.cap;obtain⟨W0,hW0⟩:∃W0,w.alloc (.cells #[.int .i64 t.kind,.int .i64 t.size,.int .i64 t.count,.slice A na ca,.slice B nb cb] 42)=W0:=⟨_,rfl⟩;have hE0:Ext w W0:=by rw[←hW0];exact(Ext.refl w).alloc _
  have o0:W0.cell? ⟨w.heap.size,0,none⟩=some (.int .i64 t.kind):=by rw[←hW0];simp[go_sem]
  have o1:W0.cell? ⟨w.heap.size,1,none⟩=some (.int .i64 t.size):=by rw[←hW0];simp[go_sem]
  have o2:W0.cell? ⟨w.heap.size,2,none⟩=some (.int .i64 t.count):=by rw[←hW0];simp[go_sem]
  have o3:W0.cell? ⟨w.heap.size,3,none⟩=some (.slice A na ca):=by rw[←hW0];simp[go_sem]
  have o4:W0.cell? ⟨w.heap.size,4,none⟩=some (.slice B nb cb):=by rw[←hW0];simp[go_sem]
  have HE:=hid hE;have HF:=hid hF;have HLA:=hid hla;have HLB:=hid hlb;have HE0:=hid hE0;have HIH:=hid ih;clear hE hF hla hlb hE0 ih hk hs hc;rcases formT_cases hform with(rfl|rfl)|⟨s,hs,(rfl|rfl)⟩|⟨x,rfl,hx⟩|⟨x,m,rfl,hm1,hm2,hx⟩|⟨l,rfl,hl⟩
  ·simp only[Ty.kind,Ty.size,Ty.count,Ty.unk]at *;go_enter Tryz.func94,Tryz.ntmps94
   go_wp2
   go_ret;exact⟨rfl,HE0.out⟩
  ·simp only[Ty.kind,Ty.size,Ty.count,Ty.any]at *;go_enter Tryz.func94,Tryz.ntmps94
   go_wp2
   go_ret;exact⟨rfl,HE0.out⟩
  ·simp only[Ty.kind,Ty.size,Ty.count,Ty.int]at *;have HS:=hid (sz_int' s hs);rcases hs with rfl|rfl|rfl
   all_goals
    go_enter Tryz.func94,Tryz.ntmps94
    go_wp2
    go_ret;exact⟨ret_int HS.out.symm,HE0.out⟩
  ·simp only[Ty.kind,Ty.size,Ty.count,Ty.uint]at *;have HS:=hid (sz_uint' s hs);rcases hs with rfl|rfl|rfl
   all_goals
    go_enter Tryz.func94,Tryz.ntmps94
    go_wp2
    go_ret;exact⟨ret_int HS.out.symm,HE0.out⟩
  ·simp only[Ty.kind,Ty.size,Ty.count,Ty.ptr]at *;go_enter Tryz.func94,Tryz.ntmps94
   go_wp2
   go_ret;exact⟨ret_int (by rw[szT];simp;omega),HE0.out⟩
  ·simp only[Ty.kind,Ty.size,Ty.count,Ty.arr]at *;have HS:=hid (szT_nonneg x hx);have HS2:=hid (szT_le x);have hna:na=1:=by have:=HLA.out;simpa [Ty.elem] using this
   subst hna;obtain⟨d',b,off,A1,n1,c1,B1,m1,e1,hd,rfl,hv1,c0,c1',c2,c3,c4⟩:=(HE.out.ext HE0.out).ty_at (k:=0) (t:=x) rfl;have HC:=hid (fun w' (hw:Ext W0 w')=>HIH.out d' (by omega) w' x _ (hv1.ext hw) hx);simp only[Nat.zero_mul,Nat.add_zero]at c0 c1' c2 c3 c4;obtain⟨z,hz⟩:∃z,szT x=z:=⟨_,rfl⟩;have HR:Hid (szT (.mk 4 0 m [x] [])=min (m * z) 65537):=hid (by rw[←hz];simp[szT,szE]);rw[hz]at HC HS HS2
   have w1:IntKind.i64.wrap (m * z)=m * z:=IntWalk.i64_in _ (by
    have h1:=Int.mul_nonneg (show 0≤m by omega) HS.out;have h2:=Int.mul_le_mul hm2 HS2.out HS.out (by omega:(0:Int)≤65536);omega)
   clear hd hv1 hz hform hx;go_enter Tryz.func94,Tryz.ntmps94
   go_wp2_with fail
   refine wp_region_held_drew (S:=(fun w'=>w'.cell? ⟨w.heap.size,2,none⟩=some (.int .i64 m)∧w'.cell? ⟨w.heap.size,3,none⟩=some (.slice (some ⟨b,off,none⟩) 1 ca)∧w'.cell? ⟨b,off,none⟩=some (.int .i64 x.kind)∧w'.cell? ⟨b,off+1,none⟩=some (.int .i64 x.size)∧w'.cell? ⟨b,off+2,none⟩=some (.int .i64 x.count)∧w'.cell? ⟨b,off+3,none⟩=some (.slice A1 n1 c1)∧w'.cell? ⟨b,off+4,none⟩=some (.slice B1 m1 e1))) (by kernel_rfl) ⟨o2,o3,c0,c1',c2,c3,c4⟩ (fun hSg1q0=>?_);refine rgT6 0 1 2 3 4 5 ?_;refine rgC 6 (fun K hK=>?_);go_simp;go_at_call 94;refine(HC.out _ (Ext.refl W0).drew).mono ?_;rintro e w5 ⟨rfl,hx5⟩;have HX5:=hid hx5.drew_left;clear hx5;refine rgK hK ⟨HX5.out.cell o2,HX5.out.cell o3,HX5.out.cell c0,HX5.out.cell c1',HX5.out.cell c2,HX5.out.cell c3,HX5.out.cell c4⟩ (fun hSg1q1=>?_);clear hK K;refine rgT2 7 8 ?_;refine wpAnyH_done (by kernel_rfl) ?_ _;clear w1
   go_wp2
   all_goals
    go_ret;exact⟨ret_int (by rw[HR.out];omega),HE0.out.trans HX5.out⟩
  ·simp only[Ty.kind,Ty.size,Ty.count,Ty.str]at *;have HFL:=hid hl;have HR:Hid (szT (.mk 5 0 0 [] l)=min (szF 0 l) 65537):=hid (by simp[szT]);clear hl hform;have HO4:=hid o4;go_enter Tryz.func94,Tryz.ntmps94
   go_wp2
   go_loopw [4,3] (fun i s wr=>∃(k:Nat) (n:Int),k≤nb∧i= .int .i64 k∧s= .int .i64 n∧0≤n∧n≤131072∧Hid (n=szF 0 (l.take k))∧Hid (Ext W0 wr)) (fun i _ _=>nb - (intOf i).toNat)
   case atStart=>exact⟨0,0,by omega,rfl,rfl,by omega,by omega,hid rfl,hid (Ext.refl _)⟩
   case round=>
    obtain⟨k,n,hk,rfl,rfl,hn0,hn1,HN,HX⟩:=hrel;have o4:=HX.out.cell HO4.out;by_cases h1:k<nb
    ·obtain⟨x,hx⟩:∃x,l[k]? =some x:=⟨_,List.getElem?_eq_getElem (by have:=HLB.out;simp[Ty.fields]at this;omega)⟩;obtain⟨d',b,off,A1,n1,c1,B1,m1,e1,hd,rfl,hv1, -,c0,c1',c2,c3,c4,c5⟩:=(HF.out.ext (HE0.out.trans HX.out)).fd_at hx;have hxf:=formF_all HFL.out x (List.mem_of_getElem? hx);have HC:=hid (fun w' (hw:Ext wr w')=>HIH.out d' (by omega) w' x.2 _ (hv1.ext hw) hxf.2.2);have hz0:=szT_nonneg x.2 hxf.2.2;have hz1:=szT_le x.2;have HST:=hid (szF_take hx);obtain⟨z,hz⟩:∃z,szT x.2=z:=⟨_,rfl⟩;rw[hz]at HC hz0 hz1 HST;have w1:IntKind.i64.wrap (x.1+z)=x.1+z:=IntWalk.i64_in _ (by omega);have w2:IntKind.i64.wrap ((k:Int)+1)=(k:Int)+1:=IntWalk.i64_in _ (by omega);have HB:Hid (x.1+z≤131072):=hid (by omega);clear hd hv1 hx hz hxf
     go_wp2_with fail
     refine wp_region_held_drew (S:=(fun w'=>w'.cell? ⟨w.heap.size,4,none⟩=some (.slice (some ⟨b,off,none⟩) nb cb)∧w'.cell? ⟨b,off+k * 6,none⟩=some (.int .i64 x.1)∧w'.cell? ⟨b,off+k * 6+1,none⟩=some (.int .i64 x.2.kind)∧w'.cell? ⟨b,off+k * 6+2,none⟩=some (.int .i64 x.2.size)∧w'.cell? ⟨b,off+k * 6+3,none⟩=some (.int .i64 x.2.count)∧w'.cell? ⟨b,off+k * 6+4,none⟩=some (.slice A1 n1 c1)∧w'.cell? ⟨b,off+k * 6+5,none⟩=some (.slice B1 m1 e1))) (by kernel_rfl) ⟨o4,c0,c1',c2,c3,c4,c5⟩ (fun hSg2q0=>?_);refine rgT6 0 1 2 3 4 5 ?_;refine rgT6 6 7 8 9 10 11 ?_;refine rgT 12 ?_;refine rgC 13 (fun K hK=>?_);go_simp;go_at_call 94;refine(HC.out _ (Ext.refl wr).drew).mono ?_;rintro e w5 ⟨rfl,hx5⟩;have HX5:=hid hx5.drew_left;clear hx5;refine rgK hK ⟨HX5.out.cell o4,HX5.out.cell c0,HX5.out.cell c1',HX5.out.cell c2,HX5.out.cell c3,HX5.out.cell c4,HX5.out.cell c5⟩ (fun hSg2q1=>?_);clear hK K;refine rgT3 14 15 16 ?_;refine wpAnyH_done (by kernel_rfl) ?_ _;clear w1 w2 o4 c0 c1' c2 c3 c4 c5
     go_wp2
     go_roundw
     case rel=>exact⟨k+1,_,by omega,by go_num,rfl,by omega,by have:=HB.out;omega,hid (by rw[HST.out];have:=HN.out;omega),hid (HX.out.trans HX5.out)⟩
     case measure=>simp [intOf];omega
    ·obtain rfl:k=nb:=by omega
     have hn:n=szF 0 l:=by rw[HN.out,List.take_of_length_le (by have:=HLB.out;simp[Ty.fields]at this;omega)]
     have HN2:=hid hn;clear hn
     go_wp2
     all_goals
      go_ret;exact⟨ret_int (by rw[HR.out,←HN2.out];omega),HE0.out.trans HX.out⟩
set_option maxRecDepth 100000 in
set_option maxHeartbeats 4000000 in
theorem large_any:∀(d:Nat) (w:World) (t:Ty) (v:Value),TyV d w All v t→formT t=true→Calls Tryz.prog 87 #[v] w (TBool w (!wiT t)):=by
 intro d
 induction d using Nat.strongRecOn with
 | _ d ih=>
  intro w t v hv hform;have HSV:=hid (fun W (hW:Ext w W)=>size31_any d W t v (hv.ext hW) hform);obtain⟨A,na,ca,B,nb,cb,rfl,hE,hF,hk,hs,hc⟩:=hv;have hla:=hE.len;have hlb:=hF.len;obtain⟨hac,ham⟩:=hE.cap;obtain⟨hbc,hbm⟩:=hF.cap
  have hel:∀x∈t.elem,formT x=true:=by
   rcases formT_cases hform with(rfl|rfl)|⟨s,hs,(rfl|rfl)⟩|⟨x,rfl,hx⟩|⟨x,m,rfl,hm1,hm2,hx⟩|⟨l,rfl,hl⟩
   ·intro f hf;cases hf
   ·intro f hf;cases hf
   ·intro f hf;cases hf
   ·intro f hf;cases hf
   ·intro f hf;rw[List.mem_singleton.1 hf];exact hx
   ·intro f hf;rw[List.mem_singleton.1 hf];exact hx
   ·intro f hf;cases hf
  have hfl:∀f∈t.fields,formT f.2=true:=by
   rcases formT_cases hform with(rfl|rfl)|⟨s,hs,(rfl|rfl)⟩|⟨x,rfl,hx⟩|⟨x,m,rfl,hm1,hm2,hx⟩|⟨l,rfl,hl⟩
   ·intro f hf;cases hf
   ·intro f hf;cases hf
   ·intro f hf;cases hf
   ·intro f hf;cases hf
   ·intro f hf;cases hf
   ·intro f hf;cases hf
   ·exact fun f hf=>(formF_all hl f hf).2.2
  obtain⟨z,hz⟩:∃z,wiT t=z:=⟨_,rfl⟩;rw[hz];obtain⟨sz,hsz⟩:∃s,szT t=s:=⟨_,rfl⟩;obtain⟨tk,ts,tc,te,tf⟩:=t;rw[wiT,wiE_all,wiF_all,hsz]at hz;rw[hsz]at HSV;simp only[Ty.kind,Ty.size,Ty.count,Ty.elem,Ty.fields]at hz hE hF hla hlb hel hfl HSV ⊢;obtain⟨W0,hW0⟩:∃W0,w.alloc (.cells #[.int .i64 tk,.int .i64 ts,.int .i64 tc,.slice A na ca,.slice B nb cb] 42)=W0:=⟨_,rfl⟩;have hE0:Ext w W0:=by rw[←hW0];exact(Ext.refl w).alloc _
  have o0:W0.cell? ⟨w.heap.size,0,none⟩=some (.int .i64 tk):=by rw[←hW0];simp[go_sem]
  have o1:W0.cell? ⟨w.heap.size,1,none⟩=some (.int .i64 ts):=by rw[←hW0];simp[go_sem]
  have o2:W0.cell? ⟨w.heap.size,2,none⟩=some (.int .i64 tc):=by rw[←hW0];simp[go_sem]
  have o3:W0.cell? ⟨w.heap.size,3,none⟩=some (.slice A na ca):=by rw[←hW0];simp[go_sem]
  have o4:W0.cell? ⟨w.heap.size,4,none⟩=some (.slice B nb cb):=by rw[←hW0];simp[go_sem]
  have HZ:=hid hz;have HE:=hid hE;have HF:=hid hF;have HLA:=hid hla;have HLB:=hid hlb;have HE0:=hid hE0;have HIH:=hid ih;have HEL:=hid hel;have HFL:=hid hfl;clear hz hE hF hla hlb hE0 ih hk hs hc hel hfl hsz hform;go_enter Tryz.func87,Tryz.ntmps87
  go_wp2_with fail
  refine(HSV.out _ HE0.out).mono ?_;rintro e w1 ⟨rfl,hx1⟩;have HX1:=hid hx1;have o3:=hx1.cell o3;have o4:=hx1.cell o4;clear o0 o1 o2 hx1 hW0;by_cases h1:sz≤65536
  case neg=>
   have g1:decide (sz > 65536)=true:=decide_eq_true (by omega);obtain rfl:z=false:=by rw[←HZ.out,decide_eq_false h1];simp
   clear h1
   go_wp2
   go_ret;exact⟨rfl,HE0.out.trans HX1.out⟩
  have g1:decide (sz > 65536)=false:=decide_eq_false (by omega);by_cases h0:nb≤64
  case neg=>
   have d0:decide ((nb:Int) > 64)=true:=decide_eq_true (by omega);have hgt:(nb:Int) > 64:=by omega
   obtain rfl:z=false:=by rw[←HZ.out,decide_eq_false (show ¬tf.length≤64 by have:=HLB.out;omega)];rfl
   clear h1
   go_wp2
   go_ret;exact⟨rfl,HE0.out.trans HX1.out⟩
  have d0:decide ((nb:Int) > 64)=false:=decide_eq_false (by omega);have hle:¬(nb:Int) > 64:=by omega
  have HZ2:Hid ((tf.all (fun f=>wiT f.2) && te.all wiT)=z):=hid (by
   rw[←HZ.out,decide_eq_true h1,decide_eq_true (show tf.length≤64 by have:=HLB.out;omega)];rfl)
  have HO3:=hid o3;have HO4:=hid o4;clear HZ h1
  go_wp2
  clear o3 o4
  go_loopw [3] (fun i wr=>∃k:Nat,k≤na∧i= .int .i64 k∧Hid (Ext w1 wr)∧Hid ((te.take k).all wiT=true)) (fun i _=>na - (intOf i).toNat)
  case atStart=>exact⟨0,by omega,rfl,hid (Ext.refl _),hid rfl⟩
  case round=>
   obtain⟨k,hk,rfl,HX,HA⟩:=hrel;have o3:=HX.out.cell HO3.out;by_cases h1:k<na
   ·obtain⟨x,hx⟩:∃x,te[k]? =some x:=⟨_,List.getElem?_eq_getElem (by have:=HLA.out;omega)⟩;obtain⟨d',b,off,A1,n1,c1,B1,m1,e1,hd,rfl,hv1,c0,c1',c2,c3,c4⟩:=(HE.out.ext (HE0.out.trans (HX1.out.trans HX.out))).ty_at hx;have HC:=hid (fun w' (hw:Ext wr w')=>HIH.out d' (by omega) w' x _ (hv1.ext hw) (HEL.out x (List.mem_of_getElem? hx)));have HXX:=hid hx;clear hd hv1 hx;obtain⟨r,hr⟩:∃r,wiT x=r:=⟨_,rfl⟩;rw[hr]at HC;have HR:=hid hr;clear hr
    go_wp2_with fail
    refine(HC.out _ (Ext.refl _)).mono ?_;rintro e w5 ⟨rfl,hx5⟩;have HX5:=hid (HX.out.trans hx5);clear hx5 c0 c1' c2 c3 c4 o3
    cases r with
    |true=>
     go_wp2
     go_roundw
     case rel=>exact⟨k+1,by omega,by go_num,HX5,hid (allT_step HXX.out HR.out HA.out)⟩
     case measure=>simp [intOf];omega
    |false=>
     go_wp2
     go_ret;refine⟨ret_bool ?_,HE0.out.trans (HX1.out.trans HX5.out)⟩;rw[←HZ2.out,allT_hit HXX.out HR.out,Bool.and_false];rfl
   ·obtain rfl:k=na:=by omega
    have HA2:Hid (te.all wiT=true):=hid (by have h:=HA.out;rwa [List.take_of_length_le (by have:=HLA.out;omega)]at h);clear HA
    go_wp2
    clear o3
    go_loopw [4] (fun i wr=>∃k:Nat,k≤nb∧i= .int .i64 k∧Hid (Ext w1 wr)∧Hid ((tf.take k).all (fun f=>wiT f.2)=true)) (fun i _=>nb - (intOf i).toNat)
    case atStart=>exact⟨0,by omega,rfl,HX,hid rfl⟩
    case round=>
     obtain⟨j,hj,rfl,HX2,HB⟩:=hrel;have o4:=HX2.out.cell HO4.out;by_cases h2:j<nb
     ·obtain⟨x,hx⟩:∃x,tf[j]? =some x:=⟨_,List.getElem?_eq_getElem (by have:=HLB.out;omega)⟩;obtain⟨d',b,off,A1,n1,c1,B1,m1,e1,hd,rfl,hv1, -,c0,c1',c2,c3,c4,c5⟩:=(HF.out.ext (HE0.out.trans (HX1.out.trans HX2.out))).fd_at hx;have HC:=hid (fun w' (hw:Ext wr w')=>HIH.out d' (by omega) w' x.2 _ (hv1.ext hw) (HFL.out x (List.mem_of_getElem? hx)));have HXX:=hid hx;clear hd hv1 hx;obtain⟨r,hr⟩:∃r,wiT x.2=r:=⟨_,rfl⟩;rw[hr]at HC;have HR:=hid hr;clear hr
      go_wp2_with fail
      refine(HC.out _ (Ext.refl _)).mono ?_;rintro e w5 ⟨rfl,hx5⟩;have HX5:=hid (HX2.out.trans hx5);clear hx5 c0 c1' c2 c3 c4 c5 o4
      cases r with
      |true=>
       go_wp2
       go_roundw
       case rel=>exact⟨j+1,by omega,by go_num,HX5,hid (allT_step HXX.out HR.out HB.out)⟩
       case measure=>simp [intOf];omega
      |false=>
       go_wp2
       go_ret;refine⟨ret_bool ?_,HE0.out.trans (HX1.out.trans HX5.out)⟩;rw[←HZ2.out,allT_hit (p:=fun f:Int×Ty=>wiT f.2) HXX.out HR.out,Bool.false_and];rfl
     ·obtain rfl:j=nb:=by omega
      go_wp2
      go_ret;refine⟨ret_bool ?_,HE0.out.trans (HX1.out.trans HX2.out)⟩;have h:=HB.out;rw[List.take_of_length_le (by have:=HLB.out;omega)]at h;rw[←HZ2.out,HA2.out,h];rfl
set_option maxRecDepth 100000 in
set_option maxHeartbeats 4000000 in
theorem check31_any (d:Nat)(w:World)(t:Ty)(v:Value)(hv:TyV d w All v t):Calls Tryz.prog 62 #[v] w (TErr w (chkT t)):=by
 have HV:=hid hv;obtain⟨A,na,ca,B,nb,cb,rfl, -⟩:=hv;obtain⟨W0,hW0⟩:∃W0,w.alloc (.cells #[.int .i64 t.kind,.int .i64 t.size,.int .i64 t.count,.slice A na ca,.slice B nb cb] 42)=W0:=⟨_,rfl⟩;have hE0:Ext w W0:=by rw[←hW0];exact(Ext.refl w).alloc _
 have o0:W0.cell? ⟨w.heap.size,0,none⟩=some (.int .i64 t.kind):=by rw[←hW0];simp[go_sem]
 have o1:W0.cell? ⟨w.heap.size,1,none⟩=some (.int .i64 t.size):=by rw[←hW0];simp[go_sem]
 have o2:W0.cell? ⟨w.heap.size,2,none⟩=some (.int .i64 t.count):=by rw[←hW0];simp[go_sem]
 have o3:W0.cell? ⟨w.heap.size,3,none⟩=some (.slice A na ca):=by rw[←hW0];simp[go_sem]
 have o4:W0.cell? ⟨w.heap.size,4,none⟩=some (.slice B nb cb):=by rw[←hW0];simp[go_sem]
 have HE0:=hid hE0;obtain⟨z,hz⟩:∃z,chkT t=z:=⟨_,rfl⟩;rw[hz];have HZ:=hid hz;have HC1:=hid (fun w' (h:Ext w w')=>deep_any d w' t _ 64 (HV.out.ext h) (by omega));have HC2:=hid (fun w' (h:Ext w w')=>isformed_any d w' t _ (HV.out.ext h));obtain⟨b1,hb1⟩:∃b,shalT t ((64:Nat):Int)=b:=⟨_,rfl⟩;have HB1:Hid (shalT t 64=b1):=hid hb1;rw[hb1]at HC1;obtain⟨b2,hb2⟩:∃b,formT t=b:=⟨_,rfl⟩;rw[hb2]at HC2;have HB2:=hid hb2;clear hz hb1 hb2 hE0;go_enter Tryz.func62,Tryz.ntmps62
 go_wp2_with fail
 refine(HC1.out _ HE0.out).mono ?_;rintro e w1 ⟨rfl,hx1⟩;have HX1:=hid (HE0.out.trans hx1);have o0:=hx1.cell o0;have o1:=hx1.cell o1;have o2:=hx1.cell o2;have o3:=hx1.cell o3;have o4:=hx1.cell o4;clear hx1 hW0
 cases b1 with
 |false=>
  obtain rfl:z=20:=by rw[←HZ.out,chkT,if_pos HB1.out]
  go_wp2
  go_ret;exact⟨rfl,HX1.out⟩
 | true=>
  go_wp2_with fail
  refine(HC2.out _ HX1.out).mono ?_;rintro e w2 ⟨rfl,hx2⟩;have HX2:=hid (HX1.out.trans hx2);have o0:=hx2.cell o0;have o1:=hx2.cell o1;have o2:=hx2.cell o2;have o3:=hx2.cell o3;have o4:=hx2.cell o4;clear hx2
  cases b2 with
  |false=>
   obtain rfl:z=2:=by rw[←HZ.out,chkT,if_neg (by rw[HB1.out];simp),if_pos HB2.out]
   go_wp2
   go_ret;exact⟨rfl,HX2.out⟩
  | true=>
   have HC3:=hid (large_any d w2 t _ (HV.out.ext HX2.out) HB2.out);obtain⟨b3,hb3⟩:∃b,wiT t=b:=⟨_,rfl⟩;rw[hb3]at HC3;have HB3:=hid hb3;clear hb3
   go_wp2_with fail
   refine(HC3.out).mono ?_;rintro e w3 ⟨rfl,hx3⟩;have HX3:=hid (HX2.out.trans hx3);clear hx3 o0 o1 o2 o3 o4
   cases b3 with
   |false=>
    obtain rfl:z=6:=by rw[←HZ.out,chkT,if_neg (by rw[HB1.out];simp),if_neg (by rw[HB2.out];simp),if_pos HB3.out]
    go_wp2
    go_ret;exact⟨rfl,HX3.out⟩
   |true=>
    obtain rfl:z=0:=by rw[←HZ.out,chkT_zero];exact⟨HB1.out,HB2.out,HB3.out⟩
    go_wp2
    go_ret;exact⟨rfl,HX3.out⟩
end Go.Proofs.YtlmipgdnlfjpaaaGreat
