/- Lemmas of mine, merged. -/
import Derived.Test.YtlmipgdnlfjpaaaGreatSoRm
set_option maxRecDepth 100000
set_option maxHeartbeats 8000000
set_option linter.unusedSimpArgs false
set_option linter.unusedVariables false
namespace Go.Proofs.YtlmipgdnlfjpaaaGreat
open Go.RowKit Go.Deco Go.Maps
theorem oK {e:List Ty}{i:Nat}{x:Ty}(h:e[i]? =some x):Q7 (e.take (i+1))=Q7 (e.take i)+QV x:=by
 have key:∀(a:List Ty),Q7 (a ++ [x])=Q7 a+QV x:=fun a=>by
  induction a with
  |nil=>simp [Q7]
  |cons b a ih=>rw [List.cons_append,Q7,Q7,ih];omega
 rw[List.take_add_one,h];exact key _
theorem fD {f:List (Int×Ty)}{i:Nat}{x:Int×Ty}(h:f[i]? =some x):cntF (f.take (i+1))=cntF (f.take i)+QV x.2:=by
 rw[List.take_add_one,h];exact jd _ x.1 x.2
theorem bm:∀(l:List Ty) (j:Nat),Q7 (l.take j)<=Q7 l
 |[],j=>by simp[Q7]
 |t :: l,0=>by simp[Q7]
 |t :: l,j+1=>by
  have:=bm l j;rw[List.take_succ_cons,Q7,Q7];omega
theorem pG:∀(l:List (Int×Ty)) (j:Nat),cntF (l.take j)<=cntF l
 |[],j=>by simp[cntF]
 |(o,t) :: l,0=>by simp[cntF]
 |(o,t) :: l,j+1=>by
  have:=pG l j;rw[List.take_succ_cons,cntF,cntF];omega
def gm (M:Nat)(t:Ty)(z:Int):Prop:=∀k:Nat,k<=64->Q0 t k=true->1<=z/\z<=((M * k+1:Nat):Int)/\z<=QV t/\(z<=M->z=QV t)
def Gd (M:Nat)(t:Ty)(w:World)(e:Ending)(w':World):Prop:=∃z:Int,e= .returned (.int .i64 z)/\Ext w w'/\gm M t z
def Vw (M:Nat)(t:Ty)(z:Int)(m:Nat):Prop:=∀k:Nat,k<=64->Q0 t k=true->1<=z/\z<=((M * k+1:Nat):Int)/\z<=((1+m:Nat):Int)/\(z<=M->z=((1+m:Nat):Int))
theorem Vw.step {M:Nat}(hM:M<=1000){t x:Ty}{z y:Int}{m:Nat}(h:Vw M t z m)(hz:z<=M)(hx:∀k:Nat,Q0 t k=true->∃k':Nat,k'+1=k/\Q0 x k'=true)(hy:gm M x y):Vw M t (IntKind.i64.wrap (z+y)) (m+QV x):=by
 intro k hk hs;obtain⟨k',hk',hs'⟩:=hx k hs;obtain⟨h1,h2,h3,h4⟩:=h k hk hs;obtain⟨g1,g2,g3,g4⟩:=hy k' (by omega) hs';have hb:M * k'<=1000 * 64:=Nat.mul_le_mul hM (by omega);have hc:M * k=M * k'+M:=by rw[<-hk',Nat.mul_succ]
 have e:IntKind.i64.wrap (z+y)=z+y:=IntWalk.i64_in _ (by omega);rw[e];refine⟨by omega,by omega,by omega,fun hle=>?_⟩;have a1:=h4 hz;have a2:=g4 (by omega);omega
theorem ej {t x:Ty}(hx:x∈t.elem)(k:Nat)(h:Q0 t k=true):∃k':Nat,k'+1=k/\Q0 x k'=true:=by
 rw[j9]at h;simp only[Bool.and_eq_true,decide_eq_true_eq,List.all_eq_true]at h;refine⟨k - 1,by omega, ?_⟩;have:=h.2.1 x hx
 rwa [show((k - 1:Nat):Int)=(k:Int) - 1 by omega]
theorem uf {t:Ty}{x:Int×Ty}(hx:x∈t.fields)(k:Nat)(h:Q0 t k=true):∃k':Nat,k'+1=k/\Q0 x.2 k'=true:=by
 rw[j9]at h;simp only[Bool.and_eq_true,decide_eq_true_eq,List.all_eq_true]at h;refine⟨k - 1,by omega, ?_⟩;have:=h.2.2 x hx
 rwa [show((k - 1:Nat):Int)=(k:Int) - 1 by omega]
theorem J2 (t:Ty):QV t=1+Q7 t.elem+cntF t.fields:=by cases t;rw[QV];rfl
theorem uD (M:Nat) (hM:M<=1000):∀(d:Nat) (w:World) (t:Ty) (v:Value),TyV d w All v t->Calls Tryz.prog 22 #[v,.int .i64 M] w (Gd M t w):=by
 have HHM:=hid hM;clear hM;intro d
 induction d using Nat.strongRecOn with
 | _ d ih=>
  intro w t v hv;obtain⟨A,na,ca,B,nb,cb,rfl,hA,hB, -⟩:=hv;have hla:=hA.len;have hlb:=hB.len;obtain⟨ha1,ha2⟩:=hA.cap;obtain⟨hb1,hb2⟩:=hB.cap;obtain⟨W0,hW0⟩:=Qg (w.alloc (.cells #[.int .i64 t.kind,.int .i64 t.size,.int .i64 t.count,.slice A na ca,.slice B nb cb] 42));have hE0:Ext w W0:=by rw[<-hW0];exact(Ext.refl w).alloc _
  have hP:Qm W0 w.heap.size (.int .i64 t.kind) (.int .i64 t.size) (.int .i64 t.count) (.slice A na ca) (.slice B nb cb):=by rw[<-hW0];exact Qm.new w _ _ _ _ _ _
  have HP:=hid hP;have HE0:=hid hE0;have HA:=hid (hA.ext hE0);have HB:=hid (hB.ext hE0);have HLA:=hid hla;have HLB:=hid hlb;have HIH:=hid ih;clear hA hB hla hlb ih hP hE0;go_enter Tryz.func22,Tryz.ntmps22
  go_wp2
  clear hW0
  go_loopw [5,6] (fun x5 i wr=>∃(j:Nat) (z:Int),j<=na/\i= .int .i64 j/\x5= .int .i64 z/\Hid (Ext W0 wr)/\Hid (Vw M t z (Q7 (t.elem.take j)))) (fun _ i _=>na - (intOf i).toNat)
  case atStart=>exact⟨0,1,by omega,rfl,rfl,hid (Ext.refl _),hid (fun k _ hs=>⟨by omega,by omega,by simp[Q7],fun _=>by simp[Q7]⟩)⟩
  case round=>
   obtain⟨j,z,hj,rfl,rfl,HX,HC⟩:=hrel;obtain⟨o0,o1,o2,o3,o4, -⟩:=HP.o.ext HX.o;by_cases h1:j<na
   ·by_cases h2:z<=M
    ·obtain⟨x,hx⟩:∃x,t.elem[j]? =some x:=⟨_,Qq (by have:=HLA.o;omega)⟩;obtain⟨d1,bx,ox,P1,np1,cp1,P2,np2,cp2,hd,rfl,hv1,x0,x1,x2,x3,x4⟩:=(HA.o.ext HX.o).ty_at hx;have HCC:=hid (HIH.o d1 (by omega) wr x _ hv1);have HXX:=hid hx;have i1:(j:Int)<(na:Int):=by omega
     clear hd hv1 hx
     go_wp2_with fail
     refine HCC.o.mono ?_;rintro e w5 ⟨y,rfl,hx5,hcy⟩;have HX5:=hid (HX.o.trans hx5);obtain⟨z',hz'⟩:∃z',IntKind.i64.wrap (z+y)=z':=⟨_,rfl⟩
     have HCZ:Hid (Vw M t z' (Q7 (t.elem.take (j+1)))):=hid (by
      rw[<-hz',oK HXX.o];exact HC.o.step HHM.o h2 (fun k hs=>ej (Qx HXX.o) k hs) hcy)
     clear hx5 hcy x0 x1 x2 x3 x4 o0 o1 o2 o3 o4
     go_wp2
     first
      |go_roundw
      |refine⟨?rel, ?measure⟩
     case rel=>exact⟨j+1,z',by omega,by go_num,rfl,HX5,HCZ⟩
     case measure=>simp [intOf];omega
    ·have i1:(j:Int)<(na:Int):=by omega
     have HCF:Hid (Vw M t z (Q7 t.elem)):=hid (fun k hk hs=>⟨(HC.o k hk hs).1,(HC.o k hk hs).2.1,by have:=(HC.o k hk hs).2.2.1;have:=bm t.elem j;omega,fun e=>absurd e h2⟩)
     go_wp2
     clear o0 o1 o2 o3 o4;obtain⟨V,hV⟩:∃V,V=wr:=⟨_,rfl⟩;obtain rfl:=hV
     go_loopw [5,7] (fun x5 i wr=>∃(j2:Nat) (z2:Int),j2<=nb/\i= .int .i64 j2/\x5= .int .i64 z2/\Hid (Ext W0 wr)/\Hid (Vw M t z2 (Q7 t.elem+cntF (t.fields.take j2)))) (fun _ i _=>nb - (intOf i).toNat)
     case atStart=>exact⟨0,z,by omega,rfl,rfl,HX,hid (by simpa [cntF] using HCF.o)⟩
     case round=>
      obtain⟨j2,z2,hj2,rfl,rfl,HX2,HC2⟩:=hrel;obtain⟨o0,o1,o2,o3,o4, -⟩:=HP.o.ext HX2.o;by_cases g1:j2<nb
      ·by_cases g2:z2<=M
       ·obtain⟨x,hx⟩:∃x,t.fields[j2]? =some x:=⟨_,Qq (by have:=HLB.o;omega)⟩;obtain⟨d1,bx,ox,P1,np1,cp1,P2,np2,cp2,hd,rfl,hv1,hi1,y0,x0,x1,x2,x3,x4⟩:=(HB.o.ext HX2.o).fd_at hx;have HCC:=hid (HIH.o d1 (by omega) wr x.2 _ hv1);have HXX:=hid hx;have k1:(j2:Int)<(nb:Int):=by omega
        clear hd hv1 hi1 hx
        go_wp2_with fail
        refine HCC.o.mono ?_;rintro e w5 ⟨y,rfl,hx5,hcy⟩;have HX5:=hid (HX2.o.trans hx5);obtain⟨z',hz'⟩:∃z',IntKind.i64.wrap (z2+y)=z':=⟨_,rfl⟩
        have HCZ:Hid (Vw M t z' (Q7 t.elem+cntF (t.fields.take (j2+1)))):=hid (by
         rw[<-hz',fD HXX.o,<-Nat.add_assoc];exact HC2.o.step HHM.o g2 (fun k hs=>uf (Qx HXX.o) k hs) hcy)
        clear hx5 hcy y0 x0 x1 x2 x3 x4 o0 o1 o2 o3 o4
        go_wp2
        first
         |go_roundw
         |refine⟨?rel, ?measure⟩
        case rel=>exact⟨j2+1,z',by omega,by go_num,rfl,HX5,HCZ⟩
        case measure=>simp [intOf];omega
       ·have k1:(j2:Int)<(nb:Int):=by omega
        have HCE:Hid (Vw M t z2 (Q7 t.elem+cntF t.fields)):=hid (fun k hk hs=>⟨(HC2.o k hk hs).1,(HC2.o k hk hs).2.1,by have:=(HC2.o k hk hs).2.2.1;have:=pG t.fields j2;omega,fun e=>absurd e g2⟩)
        go_wp2
        go_ret;exact⟨z2,rfl,HE0.o.trans HX2.o,fun k hk hs=>⟨(HCE.o k hk hs).1,(HCE.o k hk hs).2.1,by have:=(HCE.o k hk hs).2.2.1;rw[J2];omega,fun e=>by rw[(HCE.o k hk hs).2.2.2 e,J2];omega⟩⟩
      ·obtain rfl:j2=nb:=by omega
       have k1:¬(j2:Int)<(j2:Int):=by omega
       have HCE:Hid (Vw M t z2 (Q7 t.elem+cntF t.fields)):=hid (by have:=HC2.o;rwa [Qj (by have:=HLB.o;omega)]at this)
       go_wp2
       go_ret;exact⟨z2,rfl,HE0.o.trans HX2.o,fun k hk hs=>⟨(HCE.o k hk hs).1,(HCE.o k hk hs).2.1,by have:=(HCE.o k hk hs).2.2.1;rw[J2];omega,fun e=>by rw[(HCE.o k hk hs).2.2.2 e,J2];omega⟩⟩
   ·obtain rfl:j=na:=by omega
    have i1:¬(j:Int)<(j:Int):=by omega
    have HCF:Hid (Vw M t z (Q7 t.elem)):=hid (by have:=HC.o;rwa [Qj (by have:=HLA.o;omega)]at this)
    go_wp2
    clear o0 o1 o2 o3 o4;obtain⟨V,hV⟩:∃V,V=wr:=⟨_,rfl⟩;obtain rfl:=hV
    go_loopw [5,7] (fun x5 i wr=>∃(j2:Nat) (z2:Int),j2<=nb/\i= .int .i64 j2/\x5= .int .i64 z2/\Hid (Ext W0 wr)/\Hid (Vw M t z2 (Q7 t.elem+cntF (t.fields.take j2)))) (fun _ i _=>nb - (intOf i).toNat)
    case atStart=>exact⟨0,z,by omega,rfl,rfl,HX,hid (by simpa [cntF] using HCF.o)⟩
    case round=>
     obtain⟨j2,z2,hj2,rfl,rfl,HX2,HC2⟩:=hrel;obtain⟨o0,o1,o2,o3,o4, -⟩:=HP.o.ext HX2.o;by_cases g1:j2<nb
     ·by_cases g2:z2<=M
      ·obtain⟨x,hx⟩:∃x,t.fields[j2]? =some x:=⟨_,Qq (by have:=HLB.o;omega)⟩;obtain⟨d1,bx,ox,P1,np1,cp1,P2,np2,cp2,hd,rfl,hv1,hi1,y0,x0,x1,x2,x3,x4⟩:=(HB.o.ext HX2.o).fd_at hx;have HCC:=hid (HIH.o d1 (by omega) wr x.2 _ hv1);have HXX:=hid hx;have k1:(j2:Int)<(nb:Int):=by omega
       clear hd hv1 hi1 hx
       go_wp2_with fail
       refine HCC.o.mono ?_;rintro e w5 ⟨y,rfl,hx5,hcy⟩;have HX5:=hid (HX2.o.trans hx5);obtain⟨z',hz'⟩:∃z',IntKind.i64.wrap (z2+y)=z':=⟨_,rfl⟩
       have HCZ:Hid (Vw M t z' (Q7 t.elem+cntF (t.fields.take (j2+1)))):=hid (by
        rw[<-hz',fD HXX.o,<-Nat.add_assoc];exact HC2.o.step HHM.o g2 (fun k hs=>uf (Qx HXX.o) k hs) hcy)
       clear hx5 hcy y0 x0 x1 x2 x3 x4 o0 o1 o2 o3 o4
       go_wp2
       first
        |go_roundw
        |refine⟨?rel, ?measure⟩
       case rel=>exact⟨j2+1,z',by omega,by go_num,rfl,HX5,HCZ⟩
       case measure=>simp [intOf];omega
      ·have k1:(j2:Int)<(nb:Int):=by omega
       have HCE:Hid (Vw M t z2 (Q7 t.elem+cntF t.fields)):=hid (fun k hk hs=>⟨(HC2.o k hk hs).1,(HC2.o k hk hs).2.1,by have:=(HC2.o k hk hs).2.2.1;have:=pG t.fields j2;omega,fun e=>absurd e g2⟩)
       go_wp2
       go_ret;exact⟨z2,rfl,HE0.o.trans HX2.o,fun k hk hs=>⟨(HCE.o k hk hs).1,(HCE.o k hk hs).2.1,by have:=(HCE.o k hk hs).2.2.1;rw[J2];omega,fun e=>by rw[(HCE.o k hk hs).2.2.2 e,J2];omega⟩⟩
     ·obtain rfl:j2=nb:=by omega
      have k1:¬(j2:Int)<(j2:Int):=by omega
      have HCE:Hid (Vw M t z2 (Q7 t.elem+cntF t.fields)):=hid (by have:=HC2.o;rwa [Qj (by have:=HLB.o;omega)]at this)
      go_wp2
      go_ret;exact⟨z2,rfl,HE0.o.trans HX2.o,fun k hk hs=>⟨(HCE.o k hk hs).1,(HCE.o k hk hs).2.1,by have:=(HCE.o k hk hs).2.2.1;rw[J2];omega,fun e=>by rw[(HCE.o k hk hs).2.2.2 e,J2];omega⟩⟩
def D3 (l:List Con)(w:World)(e:Ending)(w':World):Prop:=∃b:Bool,e= .returned (.bool b)/\Ext w w'/\(b=true->l.length<=16/\∀c∈l,Q0 c.type 64=true->QV c.type<=40)
theorem GB (d:Nat)(w:World)(A:Option Addr)(m me:Nat)(l:List Con)(hs:Sl (Zf (tyR d)) w All (.slice A m me) l):Calls Tryz.prog 6 #[.slice A m me] w (D3 l w):=by
 have hln:=hs.len;obtain⟨hc1,hc2⟩:=hs.cap;have HS:=hid hs;have HL:=hid hln;clear hs hln;go_enter Tryz.func6,Tryz.ntmps6
 go_wp2
 go_loopw [3] (fun i wr=>∃j:Nat,j<=m/\j<=20/\i= .int .i64 j/\Hid (Ext w wr)/\Hid (∀c∈l.take j,Q0 c.type 64=true->QV c.type<=40)) (fun i _=>20 - (intOf i).toNat)
 case atStart=>exact⟨0,by omega,by omega,rfl,hid (Ext.refl _),hid (fun c hc=>by simp at hc)⟩
 case round=>
  obtain⟨j,hj,hj2,rfl,HX,HF⟩:=hrel;by_cases h1:j<m
  ·by_cases h2:j<20
   ·obtain⟨c,hc⟩:∃c,l[j]? =some c:=⟨_,Qq (by have:=HL.o;omega)⟩;obtain⟨d1,bx,ox,P1,np1,cp1,P2,np2,cp2,hd,rfl,hv1,hbx, -⟩:=(HS.o.ext HX.o).con_at hc;obtain⟨x0,x1,x2,x3,x4,x5,x6,x7,x8,x9⟩:=hbx;have HCC:=hid (uD 40 (by omega) d1 wr c.type _ (J3 hv1).2);have HCX:=hid hc;have i1:(j:Int)<(m:Int):=by omega
    have i2:(j:Int)<20:=by omega
    clear hd hv1 hc
    go_wp2_with fail
    refine HCC.o.mono ?_;rintro e w5 ⟨z,rfl,hx5,hcz⟩;have HX5:=hid (HX.o.trans hx5);have HCZ:=hid hcz;clear hx5 hcz x0 x1 x2 x3 x4 x5 x6 x7 x8 x9;by_cases h3:z > 40
    ·go_wp2
     go_ret;exact⟨false,rfl,HX5.o,fun e=>by cases e⟩
    ·go_wp2
     first
      |go_roundw
      |refine⟨?rel, ?measure⟩
     case rel=>
      refine⟨j+1,by omega,by omega,by go_num,HX5,hid (fun c' hc' hs=>?_)⟩;rw[List.take_add_one,HCX.o]at hc';rcases List.mem_append.1 hc' with h4|h4
      ·exact HF.o c' h4 hs
      ·obtain rfl:c'=c:=by simpa using h4
       have h5:=(HCZ.o 64 (Nat.le_refl _) hs).2.2.2 (by omega);omega
     case measure=>simp [intOf];omega
   ·obtain rfl:j=20:=by omega
    have i1:(20:Int)<(m:Int):=by omega
    have i2:¬(m:Int)<=16:=by omega
    go_wp2
    go_ret;exact⟨false,rfl,HX.o,fun e=>by cases e⟩
  ·obtain rfl:j=m:=by omega
   have i1:¬(j:Int)<(j:Int):=by omega
   have hf:=HF.o;rw[Qj (by have:=HL.o;omega)]at hf;have HFF:=hid hf;clear hf;by_cases h2:j<=16
   ·have i2:(j:Int)<=16:=by omega
    go_wp2
    go_ret;exact⟨true,rfl,HX.o,fun _=>⟨by have:=HL.o;omega,HFF.o⟩⟩
   ·have i2:¬(j:Int)<=16:=by omega
    go_wp2
    go_ret;exact⟨false,rfl,HX.o,fun e=>by cases e⟩
theorem lm:(Tryz.prog.info? 48).map (fun i=>(i.zero,i.size,i.bytes))=some (some (.agg #[.int .i64 0,.int .i64 0,.int .i64 0,.int .i64 0,.int .i64 0,.int .i64 0,.int .i64 0,.int .i64 0,.slice none 0 0,.slice none 0 0]),10,112):=by kernel_rfl
def Dj (d:Nat)(w:World)(l:List Con)(e:Ending)(w':World):Prop:=∃A c,e= .returned (.slice A l.length c)/\Sl (Zf (tyR d)) w' All (.slice A l.length c) l/\Ext w w'
theorem iq (d:Nat)(w:World)(A:Option Addr)(m me:Nat)(l:List Con)(hs:Sl (Zf (tyR d)) w All (.slice A m me) l)(hm:m<=1000):Calls Tryz.prog 9 #[.slice A m me] w (Dj d w l):=by
 have hln:=hs.len;obtain⟨hc1,hc2⟩:=hs.cap;have HS:=hid hs;have HL:=hid hln;obtain⟨i0,hi0,hz0,hz1,hz2⟩:=info_parts lm;have HI:=hid hi0;have HI0:=hid hz0;have HI1:=hid hz1;have HI2:=hid hz2;clear hs hln hi0 hz0 hz1 hz2;go_enter Tryz.func9,Tryz.ntmps9
 go_wp2
 go_loopw [3,4] (fun o i wr=>∃(j:Nat) (B:Option Addr) (cb:Nat),j<=m/\i= .int .i64 j/\o= .slice B j cb/\Hid (Qf (Zf (tyR d)) wr w.heap.size 48 (fun b=>b<w.heap.size) (.slice B j cb) (l.take j))/\Hid (Ext w wr)) (fun _ i _=>m - (intOf i).toNat)
 case atStart=>exact⟨0,none,0,by omega,rfl,rfl,hid (by simpa using Qf.nil),hid (Ext.refl _)⟩
 case round=>
  obtain⟨j,B,cb,hj,rfl,rfl,HO,HX⟩:=hrel;by_cases h1:j<m
  ·obtain⟨c,hc⟩:∃c,l[j]? =some c:=⟨_,Qq (by have:=HL.o;omega)⟩;have HCC:=hid hc;obtain⟨d',bx,ox,P1,np1,cp1,P2,np2,cp2,hd,rfl,hv1,hbx, -⟩:=((HS.o.ext HX.o)).con_at hc;have HCV:=hid hv1;obtain⟨x0,x1,x2,x3,x4,x5,x6,x7,x8,x9⟩:=hbx;obtain⟨W15,hW15⟩:=Qg ((wr).alloc (.cells #[.int .i64 0,.int .i64 0,.int .i64 0,.int .i64 0,.int .i64 0,.int .i64 0,.int .i64 0,.int .i64 0,.slice none 0 0,.slice none 0 0] 44));have hB1:Zg W15 (wr).heap.size ZW:=by rw[<-hW15];exact Zg.new wr ZW _
   have hE1:Ext wr W15:=by rw[<-hW15];exact(Ext.refl _).alloc _
   obtain⟨W25,hW2,hB2,hH2,hS2,hX2⟩:=Jj hB1 c P1 np1 cp1 P2 np2 cp2;have HXC5:=hid (hX2 wr hE1 (Nat.le_refl _));have HWC5:=hid hW2;have HBC5:=hid hB2;have z0:=hB1.1 0 _ rfl;have z1:=hB1.1 1 _ rfl;have z2:=hB1.1 2 _ rfl;have z3:=hB1.1 3 _ rfl;have z4:=hB1.1 4 _ rfl;have z5:=hB1.1 5 _ rfl;have z6:=hB1.1 6 _ rfl;have z7:=hB1.1 7 _ rfl;have z8:=hB1.1 8 _ rfl;have z9:=hB1.1 9 _ rfl;have y0:=hB1.2.1 0;have y1:=hB1.2.1 1;have y2:=hB1.2.1 2;have y3:=hB1.2.1 3;have y4:=hB1.2.1 4;have y5:=hB1.2.1 5;have y6:=hB1.2.1 6;have y7:=hB1.2.1 7;have y8:=hB1.2.1 8;have y9:=hB1.2.1 9;have HCV5:=hid (HCV.o.ext HXC5.o);clear hW2 hB2 hH2 hS2 hX2 hE1 hv1 HCV hB1;have HKL:=hid (show(l.take j).length=j by rw[List.length_take];have:=HL.o;omega)
   have hrel:(Zf (tyR d)).rel W25 (fun b=>b<w.heap.size/\some b≠(Value.slice B j cb).ownBlock) [.int .i64 c.kind,.int .i64 c.a,.int .i64 c.b,.int .i64 c.off,.int .i64 c.width,.int .i64 c.type.kind,.int .i64 c.type.size,.int .i64 c.type.count,.slice P1 np1 cp1,.slice P2 np2 cp2] c:=by
    subst hd;obtain⟨d1,b1,o1,Q1,nq1,cq1,Q2,nq2,cq2,hd1,he,hv1,hb1, -⟩:=HS.o.con_at hc;cases he;obtain rfl:d1=d':=by omega
    have e8:=HX.o.cell hb1.2.2.2.2.2.2.2.2.1;have e9:=HX.o.cell hb1.2.2.2.2.2.2.2.2.2;rw[x8]at e8;rw[x9]at e9;cases e8;cases e9;have:=(yc.2 hv1);refine(Zf (tyR (d1+1))).ext (HX.o.trans HXC5.o) ((Zf (tyR (d1+1))).mono (fun b _ hi=>⟨hi.lt,fun e=>?_⟩) this);have h6:=(HO.o.block b e.symm).1;have h7:=hi.lt;omega
   have HRL:=hid hrel;have HO5:=hid (HO.o.ext HXC5.o);have i1:(j:Int)<(m:Int):=by omega
   clear hc hrel hd;go_upto_region 6 with fail
   rw[HWC5.o];clear z0 z1 z2 z3 z4 z5 z6 z7 z8 z9 y0 y1 y2 y3 y4 y5 y6 y7 y8 y9 x0 x1 x2 x3 x4 x5 x6 x7 x8 x9 hW15;obtain⟨c0,c1,c2,c3,c4,c5,c6,c7,c8,c9⟩:=HBC5.o;rw[Nat.zero_add]at c1 c2 c3 c4 c5 c6 c7 c8 c9;have hsz:w.heap.size<=W25.heap.size:=(HX.o.trans HXC5.o).size
   go_wp2_with (first
    |(at_builtin;refine zq rfl (.tmp 16) (.tmp 30) 32 rfl w.heap.size 48 i0 _ 10 112 Tryz.underlying32 HI.o HI0.o HI1.o HI2.o rfl (Zf (tyR d)) (zd _) (.slice B j cb) (l.take j) rfl HO5.o W25.heap.size rfl c rfl HRL.o (by have:=HKL.o;omega) (by have:=HKL.o;omega) hsz ?_;intro A9 c9 w9 ho9 hg9 hl9;rw[HKL.o]at ho9;rw[HKL.o];have HO9:=hid ho9;have HG9:=hid hg9;clear ho9 hg9 hl9)
    |fail)
   first
    |go_roundw
    |refine⟨?rel, ?measure⟩
   case rel=>exact⟨j+1,A9,c9,by omega,by go_num,rfl,hid (by rw[VC HCC.o];exact HO9.o),hid (((HX.o.trans HXC5.o).alloc _).grown HG9.o (fun q hq=>(HO.o.block q hq).1))⟩
   case measure=>simp [intOf];omega
  ·obtain rfl:j=m:=by omega
   have i1:¬(j:Int)<(j:Int):=by omega
   have ho:=HO.o;rw[Qj (by have:=HL.o;omega)]at ho;have HOO:=hid ho;clear ho
   go_wp2
   go_ret;exact⟨B,cb,by rw[<-HL.o];rfl,by rw[<-HL.o];exact HOO.o.sl,HX.o⟩
theorem lX (w:World)(g1 g2:Nat)(A B:Option Addr)(na ca nb cb:Nat)(a b:List Nat)(ha:Sl QF w All (.slice A na ca) a)(hb:Sl QF w All (.slice B nb cb) b)(h1:w.cell? ⟨g1,0,none⟩=some (.slice A na ca))(h2:w.cell? ⟨g2,0,none⟩=some (.slice B nb cb)):
  Calls Tryz.prog 45 #[.slice (some ⟨g1,0,none⟩) 1 1,.slice (some ⟨g2,0,none⟩) 1 1] w (ZX w (decide (a=b))):=by
 have hla:=ha.len;have hlb:=hb.len;obtain⟨ha1,ha2⟩:=ha.cap;obtain⟨hb1,hb2⟩:=hb.cap;obtain⟨z,hz⟩:=Qg (decide (a=b));rw[hz];have HZ:=hid hz;have HA:=hid ha;have HB:=hid hb;have H1:=hid h1;have H2:=hid h2;have HLA:=hid hla;have HLB:=hid hlb;clear ha hb h1 h2 hla hlb hz;go_enter Tryz.func45,Tryz.ntmps45
 go_wp2
 go_loopw [5] (fun i wr=>∃j:Nat,j<=1/\i= .int .i64 j/\Hid (Ext w wr)/\Hid (j=1->a=b)) (fun i _=>1 - (intOf i).toNat)
 case atStart=>exact⟨0,by omega,rfl,hid (Ext.refl _),hid (fun e=>by cases e)⟩
 case round=>
  obtain⟨j,hj,rfl,HX,HE⟩:=hrel;obtain⟨V,hV⟩:∃V,V=wr:=⟨_,rfl⟩;obtain rfl:=hV;by_cases hj1:j=1
  ·subst hj1;have hab:=HE.o rfl;obtain rfl:z=true:=by rw[<-HZ.o,Qv hab]
   clear hab
   go_wp2
   go_ret;exact⟨rfl,HX.o⟩
  ·obtain rfl:j=0:=by omega
   have c1:=HX.o.cell H1.o;have c2:=HX.o.cell H2.o;go_upto_region 6 with fail
   refine rgH (Ext.hc2 c1 c2) (Ext.refl _).drew (fun hSg1q0=>?_);refine Qp 0 1 2 3 4 5 ?_;refine QB 6 7 8 9 ?_;refine rgT 10 ?_;refine wpAnyH_done (by kernel_rfl) ?_ _;by_cases hn:na=nb
   case neg=>
    have g1':((na:Int) != (nb:Int))=true:=by simp;omega
    obtain rfl:z=false:=by
     rw[<-HZ.o];exact Qw (fun e=>hn (by have:=HLA.o;have:=HLB.o;rw[e]at *;omega))
    go_wp2
    go_ret;exact⟨rfl,HX.o.drew⟩
   subst hn;have c1:=(Ext.refl V).drew.cell c1;have c2:=(Ext.refl V).drew.cell c2;have HXV:=hid HX.o.drew;obtain⟨V2,hV2⟩:=Qg (V.drew);rw[hV2]at c1 c2 HXV
   go_wp2
   go_loopw [6] (fun i wr=>∃k:Nat,k<=na/\i= .int .i64 k/\Hid (Ext w wr)/\Hid (a.take k=b.take k)) (fun i _=>na - (intOf i).toNat)
   case atStart=>exact⟨0,by omega,rfl,HX.o.drew |> hid,hid (by simp)⟩
   case round=>
    obtain⟨k,hk,rfl,HX2,HT⟩:=hrel;obtain⟨V3,hV3⟩:∃V3,V3=wr:=⟨_,rfl⟩;obtain rfl:=hV3;have d1:=HX2.o.cell H1.o;have d2:=HX2.o.cell H2.o;by_cases hk1:k<na
    ·obtain⟨x,hx⟩:∃x,a[k]? =some x:=⟨_,Qq (by have:=HLA.o;omega)⟩;obtain⟨y,hy⟩:∃y,b[k]? =some y:=⟨_,Qq (by have:=HLB.o;omega)⟩;obtain⟨bA,oA,rfl,e1, -⟩:=(HA.o.ext HX2.o).num_at hx;obtain⟨bB,oB,rfl,e2, -⟩:=(HB.o.ext HX2.o).num_at hy;have HXX:=hid hx;have HYY:=hid hy;have i1:(k:Int)<(na:Int):=by omega
     clear hx hy c1 c2;go_upto_region 11 with fail
     refine rgH (Ext.hc4 d1 d2 e1 e2) (Ext.refl _).drew (fun hSg2q0=>?_);refine Qp 0 1 2 3 4 5 ?_;refine Qp 6 7 8 9 10 11 ?_;refine Zd 12 13 14 ?_;refine wpAnyH_done (by kernel_rfl) ?_ _;by_cases hxy:x=y
     ·have g1':((x:Int) != (y:Int))=false:=by simp[hxy]
      have HXY:=hid hxy;clear d1 d2 e1 e2
      go_wp2
      first
       |go_roundw
       |refine⟨?rel, ?measure⟩
      case rel=>exact⟨k+1,by omega,by go_num,hid HX2.o.drew,hid (by rw[List.take_add_one,List.take_add_one,HXX.o,HYY.o,HT.o,HXY.o])⟩
      case measure=>simp [intOf];omega
     ·have g1':((x:Int) != (y:Int))=true:=by simp;omega
      obtain rfl:z=false:=by
       rw[<-HZ.o];refine Qw (fun e=>hxy ?_);have h5:=HXX.o;rw[e,HYY.o]at h5;cases h5;rfl
      clear d1 d2 e1 e2
      go_wp2
      go_ret;exact⟨rfl,HX2.o.drew⟩
    ·obtain rfl:k=na:=by omega
     have i1:¬(k:Int)<(k:Int):=by omega
     have hab:a=b:=by
      have h5:=HT.o
      rwa [Qj (by have:=HLA.o;omega),Qj (by have:=HLB.o;omega)]at h5
     have HAB:=hid hab;clear hab c1 c2
     go_wp2
     first
      |go_roundw
      |refine⟨?rel, ?measure⟩
     case rel=>exact⟨1,by omega,by go_num,HX2,hid (fun _=>HAB.o)⟩
     case measure=>simp [intOf]
theorem cq (w:World)(A B:Option Addr)(na ca nb cb:Nat)(a b:List Nat)(ha:Sl QF w All (.slice A na ca) a)(hb:Sl QF w All (.slice B nb cb) b):
  Calls Tryz.prog 24 #[.slice A na ca,.slice B nb cb] w (ZX w (decide (a=b))):=by
 obtain⟨W1,hW1⟩:=Qg (w.alloc (.cells #[.slice A na ca] 26));obtain⟨W2,hW2⟩:=Qg (W1.alloc (.cells #[.slice B nb cb] 26));have hE1:Ext w W1:=by rw[<-hW1];exact(Ext.refl w).alloc _
 have hE2:Ext W1 W2:=by rw[<-hW2];exact(Ext.refl _).alloc _
 have k1:W1.cell? ⟨w.heap.size,0,none⟩=some (.slice A na ca):=by rw[<-hW1];simp[go_sem]
 have k2:W2.cell? ⟨W1.heap.size,0,none⟩=some (.slice B nb cb):=by rw[<-hW2];simp[go_sem]
 have HE:=hid (hE1.trans hE2);have HC:=hid (lX W2 w.heap.size W1.heap.size A B na ca nb cb a b (ha.ext (hE1.trans hE2)) (hb.ext (hE1.trans hE2)) (hE2.cell k1) k2);obtain⟨z,hz⟩:=Qg (decide (a=b));rw[hz]at HC ⊢;clear ha hb hE1 hE2 k1 k2 hz;go_enter Tryz.func24,Tryz.ntmps24
 go_wp2_with fail
 refine HC.o.mono ?_;rintro e w5 ⟨rfl,hx5⟩;have HX5:=hid hx5;clear hx5 hW1 hW2
 go_wp2
 go_ret;exact⟨rfl,HE.o.trans HX5.o⟩
end Go.Proofs.YtlmipgdnlfjpaaaGreat
