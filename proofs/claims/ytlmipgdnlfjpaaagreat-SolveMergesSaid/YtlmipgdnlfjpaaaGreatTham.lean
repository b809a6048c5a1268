/- Merged by program from texts of my own. -/
import Derived.Test.YtlmipgdnlfjpaaaGreatSoRm
namespace Go.Proofs.YtlmipgdnlfjpaaaGreat
open Go.RowKit Go.Deco Go.Maps
set_option linter.unusedSimpArgs false
set_option linter.unusedVariables false
theorem cntE_snoc {e:List Ty}{i:Nat}{x:Ty}(h:e[i]? =some x):cntE (e.take (i+1))=cntE (e.take i)+cntT x:=by
 have key:∀(a:List Ty),cntE (a ++ [x])=cntE a+cntT x:=fun a=>by
  induction a with
  |nil=>simp [cntE]
  |cons b a ih=>rw [List.cons_append,cntE,cntE,ih];omega
 rw[List.take_add_one,h];exact key _
theorem cntF_snoc' {f:List (Int×Ty)}{i:Nat}{x:Int×Ty}(h:f[i]? =some x):cntF (f.take (i+1))=cntF (f.take i)+cntT x.2:=by
 rw[List.take_add_one,h];exact cntF_snoc _ x.1 x.2
theorem cntE_pre:∀(l:List Ty) (j:Nat),cntE (l.take j)≤cntE l
 |[],j=>by simp[cntE]
 |t :: l,0=>by simp[cntE]
 |t :: l,j+1=>by
  have:=cntE_pre l j;rw[List.take_succ_cons,cntE,cntE];omega
theorem cntF_pre:∀(l:List (Int×Ty)) (j:Nat),cntF (l.take j)≤cntF l
 |[],j=>by simp[cntF]
 |(o,t) :: l,0=>by simp[cntF]
 |(o,t) :: l,j+1=>by
  have:=cntF_pre l j;rw[List.take_succ_cons,cntF,cntF];omega
def CntP (M:Nat)(t:Ty)(z:Int):Prop:=∀k:Nat,k≤64→shalT t k=true→1≤z∧z≤((M * k+1:Nat):Int)∧z≤cntT t∧(z≤M→z=cntT t)
def CountIs (M:Nat)(t:Ty)(w:World)(e:Ending)(w':World):Prop:=∃z:Int,e= .returned (.int .i64 z)∧Ext w w'∧CntP M t z
def CntH (M:Nat)(t:Ty)(z:Int)(m:Nat):Prop:=∀k:Nat,k≤64→shalT t k=true→1≤z∧z≤((M * k+1:Nat):Int)∧z≤((1+m:Nat):Int)∧(z≤M→z=((1+m:Nat):Int))
theorem CntH.step {M:Nat}(hM:M≤1000){t x:Ty}{z y:Int}{m:Nat}(h:CntH M t z m)(hz:z≤M)(hx:∀k:Nat,shalT t k=true→∃k':Nat,k'+1=k∧shalT x k'=true)(hy:CntP M x y):CntH M t (IntKind.i64.wrap (z+y)) (m+cntT x):=by
 intro k hk hs;obtain⟨k',hk',hs'⟩:=hx k hs;obtain⟨h1,h2,h3,h4⟩:=h k hk hs;obtain⟨g1,g2,g3,g4⟩:=hy k' (by omega) hs';have hb:M * k'≤1000 * 64:=Nat.mul_le_mul hM (by omega);have hc:M * k=M * k'+M:=by rw[←hk',Nat.mul_succ]
 have e:IntKind.i64.wrap (z+y)=z+y:=IntWalk.i64_in _ (by omega);rw[e];refine⟨by omega,by omega,by omega,fun hle=>?_⟩;have a1:=h4 hz;have a2:=g4 (by omega);omega
theorem shal_elem {t x:Ty}(hx:x∈t.elem)(k:Nat)(h:shalT t k=true):∃k':Nat,k'+1=k∧shalT x k'=true:=by
 rw[shalT_eq]at h;simp only[Bool.and_eq_true,decide_eq_true_eq,List.all_eq_true]at h;refine⟨k - 1,by omega, ?_⟩;have:=h.2.1 x hx
 rwa [show((k - 1:Nat):Int)=(k:Int) - 1 by omega]
theorem shal_field {t:Ty}{x:Int×Ty}(hx:x∈t.fields)(k:Nat)(h:shalT t k=true):∃k':Nat,k'+1=k∧shalT x.2 k'=true:=by
 rw[shalT_eq]at h;simp only[Bool.and_eq_true,decide_eq_true_eq,List.all_eq_true]at h;refine⟨k - 1,by omega, ?_⟩;have:=h.2.2 x hx
 rwa [show((k - 1:Nat):Int)=(k:Int) - 1 by omega]
theorem cntT_eq (t:Ty):cntT t=1+cntE t.elem+cntF t.fields:=by cases t;rw[cntT];rfl
set_option maxRecDepth 100000 in
set_option maxHeartbeats 8000000 in
theorem count_lim (M:Nat) (hM:M≤1000):∀(d:Nat) (w:World) (t:Ty) (v:Value),TyV d w All v t→Calls Tryz.prog 22 #[v,.int .i64 M] w (CountIs M t w):=by
 have HHM:=hid hM;clear hM;intro d
 induction d using Nat.strongRecOn with
 | _ d ih=>
  intro w t v hv;obtain⟨A,na,ca,B,nb,cb,rfl,hA,hB, -⟩:=hv;have hla:=hA.len;have hlb:=hB.len;obtain⟨ha1,ha2⟩:=hA.cap;obtain⟨hb1,hb2⟩:=hB.cap;obtain⟨W0,hW0⟩:∃W0,w.alloc (.cells #[.int .i64 t.kind,.int .i64 t.size,.int .i64 t.count,.slice A na ca,.slice B nb cb] 42)=W0:=⟨_,rfl⟩;have hE0:Ext w W0:=by rw[←hW0];exact(Ext.refl w).alloc _
  have hP:Box5 W0 w.heap.size (.int .i64 t.kind) (.int .i64 t.size) (.int .i64 t.count) (.slice A na ca) (.slice B nb cb):=by rw[←hW0];exact Box5.new w _ _ _ _ _ _
  have HP:=hid hP;have HE0:=hid hE0;have HA:=hid (hA.ext hE0);have HB:=hid (hB.ext hE0);have HLA:=hid hla;have HLB:=hid hlb;have HIH:=hid ih;clear hA hB hla hlb ih hP hE0;go_enter Tryz.func22,Tryz.ntmps22
  go_wp2
  clear hW0
  go_loopw [5,6] (fun x5 i wr=>∃(j:Nat) (z:Int),j≤na∧i= .int .i64 j∧x5= .int .i64 z∧Hid (Ext W0 wr)∧Hid (CntH M t z (cntE (t.elem.take j)))) (fun _ i _=>na - (intOf i).toNat)
  case atStart=>exact⟨0,1,by omega,rfl,rfl,hid (Ext.refl _),hid (fun k _ hs=>⟨by omega,by omega,by simp[cntE],fun _=>by simp[cntE]⟩)⟩
  case round=>
   obtain⟨j,z,hj,rfl,rfl,HX,HC⟩:=hrel;obtain⟨o0,o1,o2,o3,o4, -⟩:=HP.out.ext HX.out;by_cases h1:j<na
   ·by_cases h2:z≤M
    ·obtain⟨x,hx⟩:∃x,t.elem[j]? =some x:=⟨_,List.getElem?_eq_getElem (by have:=HLA.out;omega)⟩;obtain⟨d1,bx,ox,P1,np1,cp1,P2,np2,cp2,hd,rfl,hv1,x0,x1,x2,x3,x4⟩:=(HA.out.ext HX.out).ty_at hx;have HCC:=hid (HIH.out d1 (by omega) wr x _ hv1);have HXX:=hid hx;have i1:(j:Int)<(na:Int):=by omega
     clear hd hv1 hx
     go_wp2_with fail
     refine HCC.out.mono ?_;rintro e w5 ⟨y,rfl,hx5,hcy⟩;have HX5:=hid (HX.out.trans hx5);obtain⟨z',hz'⟩:∃z',IntKind.i64.wrap (z+y)=z':=⟨_,rfl⟩
     have HCZ:Hid (CntH M t z' (cntE (t.elem.take (j+1)))):=hid (by
      rw[←hz',cntE_snoc HXX.out];exact HC.out.step HHM.out h2 (fun k hs=>shal_elem (List.mem_of_getElem? HXX.out) k hs) hcy)
     clear hx5 hcy x0 x1 x2 x3 x4 o0 o1 o2 o3 o4
     go_wp2
     first
      |go_roundw
      |refine⟨?rel, ?measure⟩
     case rel=>exact⟨j+1,z',by omega,by go_num,rfl,HX5,HCZ⟩
     case measure=>simp [intOf];omega
    ·have i1:(j:Int)<(na:Int):=by omega
     have HCF:Hid (CntH M t z (cntE t.elem)):=hid (fun k hk hs=>⟨(HC.out k hk hs).1,(HC.out k hk hs).2.1,by have:=(HC.out k hk hs).2.2.1;have:=cntE_pre t.elem j;omega,fun e=>absurd e h2⟩)
     go_wp2
     clear o0 o1 o2 o3 o4;obtain⟨V,hV⟩:∃V,V=wr:=⟨_,rfl⟩;obtain rfl:=hV
     go_loopw [5,7] (fun x5 i wr=>∃(j2:Nat) (z2:Int),j2≤nb∧i= .int .i64 j2∧x5= .int .i64 z2∧Hid (Ext W0 wr)∧Hid (CntH M t z2 (cntE t.elem+cntF (t.fields.take j2)))) (fun _ i _=>nb - (intOf i).toNat)
     case atStart=>exact⟨0,z,by omega,rfl,rfl,HX,hid (by simpa [cntF] using HCF.out)⟩
     case round=>
      obtain⟨j2,z2,hj2,rfl,rfl,HX2,HC2⟩:=hrel;obtain⟨o0,o1,o2,o3,o4, -⟩:=HP.out.ext HX2.out;by_cases g1:j2<nb
      ·by_cases g2:z2≤M
       ·obtain⟨x,hx⟩:∃x,t.fields[j2]? =some x:=⟨_,List.getElem?_eq_getElem (by have:=HLB.out;omega)⟩;obtain⟨d1,bx,ox,P1,np1,cp1,P2,np2,cp2,hd,rfl,hv1,hi1,y0,x0,x1,x2,x3,x4⟩:=(HB.out.ext HX2.out).fd_at hx;have HCC:=hid (HIH.out d1 (by omega) wr x.2 _ hv1);have HXX:=hid hx;have k1:(j2:Int)<(nb:Int):=by omega
        clear hd hv1 hi1 hx
        go_wp2_with fail
        refine HCC.out.mono ?_;rintro e w5 ⟨y,rfl,hx5,hcy⟩;have HX5:=hid (HX2.out.trans hx5);obtain⟨z',hz'⟩:∃z',IntKind.i64.wrap (z2+y)=z':=⟨_,rfl⟩
        have HCZ:Hid (CntH M t z' (cntE t.elem+cntF (t.fields.take (j2+1)))):=hid (by
         rw[←hz',cntF_snoc' HXX.out,←Nat.add_assoc];exact HC2.out.step HHM.out g2 (fun k hs=>shal_field (List.mem_of_getElem? HXX.out) k hs) hcy)
        clear hx5 hcy y0 x0 x1 x2 x3 x4 o0 o1 o2 o3 o4
        go_wp2
        first
         |go_roundw
         |refine⟨?rel, ?measure⟩
        case rel=>exact⟨j2+1,z',by omega,by go_num,rfl,HX5,HCZ⟩
        case measure=>simp [intOf];omega
       ·have k1:(j2:Int)<(nb:Int):=by omega
        have HCE:Hid (CntH M t z2 (cntE t.elem+cntF t.fields)):=hid (fun k hk hs=>⟨(HC2.out k hk hs).1,(HC2.out k hk hs).2.1,by have:=(HC2.out k hk hs).2.2.1;have:=cntF_pre t.fields j2;omega,fun e=>absurd e g2⟩)
        go_wp2
        go_ret;exact⟨z2,rfl,HE0.out.trans HX2.out,fun k hk hs=>⟨(HCE.out k hk hs).1,(HCE.out k hk hs).2.1,by have:=(HCE.out k hk hs).2.2.1;rw[cntT_eq];omega,fun e=>by rw[(HCE.out k hk hs).2.2.2 e,cntT_eq];omega⟩⟩
      ·obtain rfl:j2=nb:=by omega
       have k1:¬(j2:Int)<(j2:Int):=by omega
       have HCE:Hid (CntH M t z2 (cntE t.elem+cntF t.fields)):=hid (by have:=HC2.out;rwa [List.take_of_length_le (by have:=HLB.out;omega)]at this)
       go_wp2
       go_ret;exact⟨z2,rfl,HE0.out.trans HX2.out,fun k hk hs=>⟨(HCE.out k hk hs).1,(HCE.out k hk hs).2.1,by have:=(HCE.out k hk hs).2.2.1;rw[cntT_eq];omega,fun e=>by rw[(HCE.out k hk hs).2.2.2 e,cntT_eq];omega⟩⟩
   ·obtain rfl:j=na:=by omega
    have i1:¬(j:Int)<(j:Int):=by omega
    have HCF:Hid (CntH M t z (cntE t.elem)):=hid (by have:=HC.out;rwa [List.take_of_length_le (by have:=HLA.out;omega)]at this)
    go_wp2
    clear o0 o1 o2 o3 o4;obtain⟨V,hV⟩:∃V,V=wr:=⟨_,rfl⟩;obtain rfl:=hV
    go_loopw [5,7] (fun x5 i wr=>∃(j2:Nat) (z2:Int),j2≤nb∧i= .int .i64 j2∧x5= .int .i64 z2∧Hid (Ext W0 wr)∧Hid (CntH M t z2 (cntE t.elem+cntF (t.fields.take j2)))) (fun _ i _=>nb - (intOf i).toNat)
    case atStart=>exact⟨0,z,by omega,rfl,rfl,HX,hid (by simpa [cntF] using HCF.out)⟩
    case round=>
     obtain⟨j2,z2,hj2,rfl,rfl,HX2,HC2⟩:=hrel;obtain⟨o0,o1,o2,o3,o4, -⟩:=HP.out.ext HX2.out;by_cases g1:j2<nb
     ·by_cases g2:z2≤M
      ·obtain⟨x,hx⟩:∃x,t.fields[j2]? =some x:=⟨_,List.getElem?_eq_getElem (by have:=HLB.out;omega)⟩;obtain⟨d1,bx,ox,P1,np1,cp1,P2,np2,cp2,hd,rfl,hv1,hi1,y0,x0,x1,x2,x3,x4⟩:=(HB.out.ext HX2.out).fd_at hx;have HCC:=hid (HIH.out d1 (by omega) wr x.2 _ hv1);have HXX:=hid hx;have k1:(j2:Int)<(nb:Int):=by omega
       clear hd hv1 hi1 hx
       go_wp2_with fail
       refine HCC.out.mono ?_;rintro e w5 ⟨y,rfl,hx5,hcy⟩;have HX5:=hid (HX2.out.trans hx5);obtain⟨z',hz'⟩:∃z',IntKind.i64.wrap (z2+y)=z':=⟨_,rfl⟩
       have HCZ:Hid (CntH M t z' (cntE t.elem+cntF (t.fields.take (j2+1)))):=hid (by
        rw[←hz',cntF_snoc' HXX.out,←Nat.add_assoc];exact HC2.out.step HHM.out g2 (fun k hs=>shal_field (List.mem_of_getElem? HXX.out) k hs) hcy)
       clear hx5 hcy y0 x0 x1 x2 x3 x4 o0 o1 o2 o3 o4
       go_wp2
       first
        |go_roundw
        |refine⟨?rel, ?measure⟩
       case rel=>exact⟨j2+1,z',by omega,by go_num,rfl,HX5,HCZ⟩
       case measure=>simp [intOf];omega
      ·have k1:(j2:Int)<(nb:Int):=by omega
       have HCE:Hid (CntH M t z2 (cntE t.elem+cntF t.fields)):=hid (fun k hk hs=>⟨(HC2.out k hk hs).1,(HC2.out k hk hs).2.1,by have:=(HC2.out k hk hs).2.2.1;have:=cntF_pre t.fields j2;omega,fun e=>absurd e g2⟩)
       go_wp2
       go_ret;exact⟨z2,rfl,HE0.out.trans HX2.out,fun k hk hs=>⟨(HCE.out k hk hs).1,(HCE.out k hk hs).2.1,by have:=(HCE.out k hk hs).2.2.1;rw[cntT_eq];omega,fun e=>by rw[(HCE.out k hk hs).2.2.2 e,cntT_eq];omega⟩⟩
     ·obtain rfl:j2=nb:=by omega
      have k1:¬(j2:Int)<(j2:Int):=by omega
      have HCE:Hid (CntH M t z2 (cntE t.elem+cntF t.fields)):=hid (by have:=HC2.out;rwa [List.take_of_length_le (by have:=HLB.out;omega)]at this)
      go_wp2
      go_ret;exact⟨z2,rfl,HE0.out.trans HX2.out,fun k hk hs=>⟨(HCE.out k hk hs).1,(HCE.out k hk hs).2.1,by have:=(HCE.out k hk hs).2.2.1;rw[cntT_eq];omega,fun e=>by rw[(HCE.out k hk hs).2.2.2 e,cntT_eq];omega⟩⟩
def FewIs (l:List Con)(w:World)(e:Ending)(w':World):Prop:=∃b:Bool,e= .returned (.bool b)∧Ext w w'∧(b=true→l.length≤16∧∀c∈l,shalT c.type 64=true→cntT c.type≤40)
end Go.Proofs.YtlmipgdnlfjpaaaGreat
namespace Go.Proofs.YtlmipgdnlfjpaaaGreat
open Go.RowKit Go.Deco Go.Maps
set_option linter.unusedSimpArgs false
set_option linter.unusedVariables false
def ConsIs (d:Nat)(w:World)(l:List Con)(e:Ending)(w':World):Prop:=∃A c,e= .returned (.slice A l.length c)∧Sl (conR (tyR d)) w' All (.slice A l.length c) l∧Ext w w'
end Go.Proofs.YtlmipgdnlfjpaaaGreat
namespace Go.Proofs.YtlmipgdnlfjpaaaGreat
open Go.RowKit Go.Deco Go.Maps
set_option linter.unusedSimpArgs false
set_option linter.unusedVariables false
set_option maxRecDepth 100000 in
set_option maxHeartbeats 4000000 in
theorem lists1_any (w:World)(g1 g2:Nat)(A B:Option Addr)(na ca nb cb:Nat)(a b:List Nat)(ha:Sl natR w All (.slice A na ca) a)(hb:Sl natR w All (.slice B nb cb) b)(h1:w.cell? ⟨g1,0,none⟩=some (.slice A na ca))(h2:w.cell? ⟨g2,0,none⟩=some (.slice B nb cb)):
  Calls Tryz.prog 45 #[.slice (some ⟨g1,0,none⟩) 1 1,.slice (some ⟨g2,0,none⟩) 1 1] w (TBool w (decide (a=b))):=by
 have hla:=ha.len;have hlb:=hb.len;obtain⟨ha1,ha2⟩:=ha.cap;obtain⟨hb1,hb2⟩:=hb.cap;obtain⟨z,hz⟩:∃z,decide (a=b)=z:=⟨_,rfl⟩;rw[hz];have HZ:=hid hz;have HA:=hid ha;have HB:=hid hb;have H1:=hid h1;have H2:=hid h2;have HLA:=hid hla;have HLB:=hid hlb;clear ha hb h1 h2 hla hlb hz;go_enter Tryz.func45,Tryz.ntmps45
 go_wp2
 go_loopw [5] (fun i wr=>∃j:Nat,j≤1∧i= .int .i64 j∧Hid (Ext w wr)∧Hid (j=1→a=b)) (fun i _=>1 - (intOf i).toNat)
 case atStart=>exact⟨0,by omega,rfl,hid (Ext.refl _),hid (fun e=>by cases e)⟩
 case round=>
  obtain⟨j,hj,rfl,HX,HE⟩:=hrel;obtain⟨V,hV⟩:∃V,V=wr:=⟨_,rfl⟩;obtain rfl:=hV;by_cases hj1:j=1
  ·subst hj1;have hab:=HE.out rfl;obtain rfl:z=true:=by rw[←HZ.out,decide_eq_true hab]
   clear hab
   go_wp2
   go_ret;exact⟨rfl,HX.out⟩
  ·obtain rfl:j=0:=by omega
   have c1:=HX.out.cell H1.out;have c2:=HX.out.cell H2.out;go_upto_region 6 with fail
   refine wp_region_held_drew (S:=(fun w'=>w'.cell? ⟨g1,0,none⟩=some (.slice A na ca)∧w'.cell? ⟨g2,0,none⟩=some (.slice B nb cb))) (by kernel_rfl) ⟨(Ext.refl V).drew.cell c1,(Ext.refl V).drew.cell c2⟩ (fun hSg1q0=>?_);refine rgT6 0 1 2 3 4 5 ?_;refine rgT4 6 7 8 9 ?_;refine rgT 10 ?_;refine wpAnyH_done (by kernel_rfl) ?_ _;by_cases hn:na=nb
   case neg=>
    have g1':((na:Int) != (nb:Int))=true:=by simp;omega
    obtain rfl:z=false:=by
     rw[←HZ.out];exact decide_eq_false (fun e=>hn (by have:=HLA.out;have:=HLB.out;rw[e]at *;omega))
    go_wp2
    go_ret;exact⟨rfl,HX.out.drew⟩
   subst hn;have c1:=(Ext.refl V).drew.cell c1;have c2:=(Ext.refl V).drew.cell c2;have HXV:=hid HX.out.drew;obtain⟨V2,hV2⟩:∃V2,V.drew=V2:=⟨_,rfl⟩;rw[hV2]at c1 c2 HXV
   go_wp2
   go_loopw [6] (fun i wr=>∃k:Nat,k≤na∧i= .int .i64 k∧Hid (Ext w wr)∧Hid (a.take k=b.take k)) (fun i _=>na - (intOf i).toNat)
   case atStart=>exact⟨0,by omega,rfl,HX.out.drew |> hid,hid (by simp)⟩
   case round=>
    obtain⟨k,hk,rfl,HX2,HT⟩:=hrel;obtain⟨V3,hV3⟩:∃V3,V3=wr:=⟨_,rfl⟩;obtain rfl:=hV3;have d1:=HX2.out.cell H1.out;have d2:=HX2.out.cell H2.out;by_cases hk1:k<na
    ·obtain⟨x,hx⟩:∃x,a[k]? =some x:=⟨_,List.getElem?_eq_getElem (by have:=HLA.out;omega)⟩;obtain⟨y,hy⟩:∃y,b[k]? =some y:=⟨_,List.getElem?_eq_getElem (by have:=HLB.out;omega)⟩;obtain⟨bA,oA,rfl,e1, -⟩:=(HA.out.ext HX2.out).num_at hx;obtain⟨bB,oB,rfl,e2, -⟩:=(HB.out.ext HX2.out).num_at hy;have HXX:=hid hx;have HYY:=hid hy;have i1:(k:Int)<(na:Int):=by omega
     clear hx hy c1 c2;go_upto_region 11 with fail
     refine wp_region_held_drew (S:=(fun w'=>w'.cell? ⟨g1,0,none⟩=some (.slice (some ⟨bA,oA,none⟩) na ca)∧w'.cell? ⟨g2,0,none⟩=some (.slice (some ⟨bB,oB,none⟩) na cb)∧w'.cell? ⟨bA,oA+k,none⟩=some (.int .i64 x)∧w'.cell? ⟨bB,oB+k,none⟩=some (.int .i64 y))) (by kernel_rfl) ⟨(Ext.refl V3).drew.cell d1,(Ext.refl V3).drew.cell d2,(Ext.refl V3).drew.cell e1,(Ext.refl V3).drew.cell e2⟩ (fun hSg2q0=>?_);refine rgT6 0 1 2 3 4 5 ?_;refine rgT6 6 7 8 9 10 11 ?_;refine rgT3 12 13 14 ?_;refine wpAnyH_done (by kernel_rfl) ?_ _;by_cases hxy:x=y
     ·have g1':((x:Int) != (y:Int))=false:=by simp[hxy]
      have HXY:=hid hxy;clear d1 d2 e1 e2
      go_wp2
      first
       |go_roundw
       |refine⟨?rel, ?measure⟩
      case rel=>exact⟨k+1,by omega,by go_num,hid HX2.out.drew,hid (by rw[List.take_add_one,List.take_add_one,HXX.out,HYY.out,HT.out,HXY.out])⟩
      case measure=>simp [intOf];omega
     ·have g1':((x:Int) != (y:Int))=true:=by simp;omega
      obtain rfl:z=false:=by
       rw[←HZ.out];refine decide_eq_false (fun e=>hxy ?_);have h5:=HXX.out;rw[e,HYY.out]at h5;cases h5;rfl
      clear d1 d2 e1 e2
      go_wp2
      go_ret;exact⟨rfl,HX2.out.drew⟩
    ·obtain rfl:k=na:=by omega
     have i1:¬(k:Int)<(k:Int):=by omega
     have hab:a=b:=by
      have h5:=HT.out
      rwa [List.take_of_length_le (by have:=HLA.out;omega),List.take_of_length_le (by have:=HLB.out;omega)]at h5
     have HAB:=hid hab;clear hab c1 c2
     go_wp2
     first
      |go_roundw
      |refine⟨?rel, ?measure⟩
     case rel=>exact⟨1,by omega,by go_num,HX2,hid (fun _=>HAB.out)⟩
     case measure=>simp [intOf]
set_option maxRecDepth 100000 in
set_option maxHeartbeats 4000000 in
theorem ints_any (w:World)(A B:Option Addr)(na ca nb cb:Nat)(a b:List Nat)(ha:Sl natR w All (.slice A na ca) a)(hb:Sl natR w All (.slice B nb cb) b):
  Calls Tryz.prog 24 #[.slice A na ca,.slice B nb cb] w (TBool w (decide (a=b))):=by
 obtain⟨W1,hW1⟩:∃W1,w.alloc (.cells #[.slice A na ca] 26)=W1:=⟨_,rfl⟩;obtain⟨W2,hW2⟩:∃W2,W1.alloc (.cells #[.slice B nb cb] 26)=W2:=⟨_,rfl⟩;have hE1:Ext w W1:=by rw[←hW1];exact(Ext.refl w).alloc _
 have hE2:Ext W1 W2:=by rw[←hW2];exact(Ext.refl _).alloc _
 have k1:W1.cell? ⟨w.heap.size,0,none⟩=some (.slice A na ca):=by rw[←hW1];simp[go_sem]
 have k2:W2.cell? ⟨W1.heap.size,0,none⟩=some (.slice B nb cb):=by rw[←hW2];simp[go_sem]
 have HE:=hid (hE1.trans hE2);have HC:=hid (lists1_any W2 w.heap.size W1.heap.size A B na ca nb cb a b (ha.ext (hE1.trans hE2)) (hb.ext (hE1.trans hE2)) (hE2.cell k1) k2);obtain⟨z,hz⟩:∃z,decide (a=b)=z:=⟨_,rfl⟩;rw[hz]at HC ⊢;clear ha hb hE1 hE2 k1 k2 hz;go_enter Tryz.func24,Tryz.ntmps24
 go_wp2_with fail
 refine HC.out.mono ?_;rintro e w5 ⟨rfl,hx5⟩;have HX5:=hid hx5;clear hx5 hW1 hW2
 go_wp2
 go_ret;exact⟨rfl,HE.out.trans HX5.out⟩
end Go.Proofs.YtlmipgdnlfjpaaaGreat
