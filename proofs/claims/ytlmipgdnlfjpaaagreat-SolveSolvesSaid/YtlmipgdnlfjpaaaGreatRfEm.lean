/- Lemmas of mine, merged. -/
import Derived.Test.YtlmipgdnlfjpaaaGreatTycm
set_option linter.unusedSimpArgs false
set_option linter.unusedVariables false
namespace Go.Proofs.YtlmipgdnlfjpaaaGreat
open Go.RowKit Go.Deco
def Fz (d:Nat):Prop:=∀(w:World) (a b:Ty) (va vb:Value),TyV d w All va a->TyV d w All vb b->Calls Tryz.prog 17 #[va,vb] w (ZX w (ZC a b))
theorem tQ {k s c k' s' c':Int}{e e':List Ty}{f f':List (Int×Ty)}:ZC (.mk k s c e f) (.mk k' s' c' e' f')=(decide (k=k') && decide (s=s') && decide (c=c') && decide (e=e') && decide (f=f')):=by
 rw[ZC];have h1:Kz e e'=decide (e=e'):=by rw[Bool.eq_iff_iff,zX,decide_eq_true_iff]
 have h2:Kq f f'=decide (f=f'):=by rw[Bool.eq_iff_iff,zK,decide_eq_true_iff]
 rw[h1,h2]
set_option maxRecDepth 100000 in
set_option maxHeartbeats 8000000 in
theorem jx:∀d,Fz d:=by
 intro d
 induction d using Nat.strongRecOn with
 | _ d ih=>
  intro w a b va vb ha hb;obtain⟨A1,n1,c1,B1,m1,e1,rfl,hE1,hF1, -⟩:=ha;obtain⟨A2,n2,c2,B2,m2,e2,rfl,hE2,hF2, -⟩:=hb;obtain⟨z,hz⟩:=Qg (ZC a b);rw[hz];obtain⟨k,s,c,e,f⟩:=a;obtain⟨k',s',c',e',f'⟩:=b;simp only[Ty.kind,Ty.size,Ty.count,Ty.elem,Ty.fields]at hE1 hF1 hE2 hF2 ⊢;rw[tQ]at hz;have HZ:=hid hz;have hl1:=hE1.len;have hl2:=hE2.len;have hl3:=hF1.len;have hl4:=hF2.len;obtain⟨ha1,ha2⟩:=hE1.cap;obtain⟨ha3,ha4⟩:=hE2.cap;obtain⟨ha5,ha6⟩:=hF1.cap;obtain⟨ha7,ha8⟩:=hF2.cap;have HE1:=hid hE1;have HE2:=hid hE2;have HF1:=hid hF1;have HF2:=hid hF2;have HL1:=hid hl1;have HL2:=hid hl2;have HL3:=hid hl3;have HL4:=hid hl4;have HIH:=hid ih;obtain⟨W0,hW0⟩:=Qg ((w.alloc (.cells #[.int .i64 k,.int .i64 s,.int .i64 c,.slice A1 n1 c1,.slice B1 m1 e1] 42)).alloc (.cells #[.int .i64 k',.int .i64 s',.int .i64 c',.slice A2 n2 c2,.slice B2 m2 e2] 42));have hE0:Ext w W0:=by rw[<-hW0];exact((Ext.refl w).alloc _).alloc _
  have HE0:=hid hE0;have a0:W0.cell? ⟨w.heap.size,0,none⟩=some (.int .i64 k):=by rw[<-hW0];simp[go_sem]
  have a1:W0.cell? ⟨w.heap.size,1,none⟩=some (.int .i64 s):=by rw[<-hW0];simp[go_sem]
  have a2:W0.cell? ⟨w.heap.size,2,none⟩=some (.int .i64 c):=by rw[<-hW0];simp[go_sem]
  have a3:W0.cell? ⟨w.heap.size,3,none⟩=some (.slice A1 n1 c1):=by rw[<-hW0];simp[go_sem]
  have b0:W0.cell? ⟨w.heap.size+1,0,none⟩=some (.int .i64 k'):=by rw[<-hW0];simp[go_sem]
  have b1:W0.cell? ⟨w.heap.size+1,1,none⟩=some (.int .i64 s'):=by rw[<-hW0];simp[go_sem]
  have b2:W0.cell? ⟨w.heap.size+1,2,none⟩=some (.int .i64 c'):=by rw[<-hW0];simp[go_sem]
  have b3:W0.cell? ⟨w.heap.size+1,3,none⟩=some (.slice A2 n2 c2):=by rw[<-hW0];simp[go_sem]
  have a4:W0.cell? ⟨w.heap.size,4,none⟩=some (.slice B1 m1 e1):=by rw[<-hW0];simp[go_sem]
  have b4:W0.cell? ⟨w.heap.size+1,4,none⟩=some (.slice B2 m2 e2):=by rw[<-hW0];simp[go_sem]
  clear hE0 hz hE1 hE2 hF1 hF2 hl1 hl2 hl3 hl4 ih;by_cases h1:k=k'
  case neg=>
   have g1:(k != k')=true:=by simp[h1]
   obtain rfl:z=false:=by rw[<-HZ.o,Qw h1];rfl
   clear h1;clear HIH;go_enter Tryz.func17,Tryz.ntmps17
   go_wp2
   go_ret;exact⟨rfl,HE0.o⟩
  subst h1;have g1:(k != k)=false:=by simp
  by_cases h2:s=s'
  case neg=>
   have g2:(s != s')=true:=by simp[h2]
   obtain rfl:z=false:=by rw[<-HZ.o,Qw h2];simp
   clear h2;clear HIH;go_enter Tryz.func17,Tryz.ntmps17
   go_wp2
   go_ret;exact⟨rfl,HE0.o⟩
  subst h2;have g2:(s != s)=false:=by simp
  by_cases h3:c=c'
  case neg=>
   have g3:(c != c')=true:=by simp[h3]
   obtain rfl:z=false:=by rw[<-HZ.o,Qw h3];simp
   clear h3;clear HIH;go_enter Tryz.func17,Tryz.ntmps17
   go_wp2
   go_ret;exact⟨rfl,HE0.o⟩
  subst h3;have g3:(c != c)=false:=by simp
  by_cases h4:n1=n2
  case neg=>
   have g4:((n1:Int) != (n2:Int))=true:=by simp;omega
   obtain rfl:z=false:=by rw[<-HZ.o,Qw (show ¬e=e' by intro h;exact h4 (by rw[HL1.o,HL2.o,h]))];simp
   clear h4;clear HIH;go_enter Tryz.func17,Tryz.ntmps17
   go_wp2
   go_ret;exact⟨rfl,HE0.o⟩
  subst h4;have g4:((n1:Int) != (n1:Int))=false:=by simp
  by_cases h5:m1=m2
  case neg=>
   have g5:((m1:Int) != (m2:Int))=true:=by simp;omega
   obtain rfl:z=false:=by rw[<-HZ.o,Qw (show ¬f=f' by intro h;exact h5 (by rw[HL3.o,HL4.o,h]))];simp
   clear h5;clear HIH;go_enter Tryz.func17,Tryz.ntmps17
   go_wp2
   go_ret;exact⟨rfl,HE0.o⟩
  subst h5;have g5:((m1:Int) != (m1:Int))=false:=by simp
  have HZ2:Hid ((decide (e=e') && decide (f=f'))=z):=hid (by rw[<-HZ.o];simp);have HA3:=hid a3;have HB3:=hid b3;have HA4:=hid a4;have HB4:=hid b4;go_enter Tryz.func17,Tryz.ntmps17
  go_wp2
  clear hW0 a0 a1 a2 a3 a4 b0 b1 b2 b3 b4 g1 g2 g3 g4 g5
  go_loopw [5] (fun i wr=>∃j:Nat,j<=n1/\i= .int .i64 j/\Hid (Ext W0 wr)/\Hid (e.take j=e'.take j)) (fun i _=>n1 - (intOf i).toNat)
  case atStart=>exact⟨0,by omega,rfl,hid (Ext.refl _),hid rfl⟩
  case round=>
   obtain⟨j,hj,rfl,HX,HT⟩:=hrel;have a3:=HX.o.c HA3.o;have b3:=HX.o.c HB3.o;by_cases h1:j<n1
   ·obtain⟨x,hx⟩:∃x,e[j]? =some x:=⟨_,Qq (by have:=HL1.o;omega)⟩;obtain⟨y,hy⟩:∃y,e'[j]? =some y:=⟨_,Qq (by have:=HL2.o;omega)⟩;obtain⟨d',bx,ox,P1,p1,q1,P2,p2,q2,hd,rfl,hv1,x0,x1,x2,x3,x4⟩:=(HE1.o.ext (HE0.o.trans HX.o)).ty_at hx;obtain⟨d2,by_,oy,Q1,r1,s1,Q2,r2,s2,hd2,rfl,hv2,y0,y1,y2,y3,y4⟩:=(HE2.o.ext (HE0.o.trans HX.o)).ty_at hy;obtain rfl:d'=d2:=by omega
    have HC:=hid (fun w' (hw:Ext wr w')=>HIH.o d' (by omega) w' x y _ _ (hv1.ext hw) (hv2.ext hw));have HXX:=hid hx;have HYY:=hid hy;obtain⟨q,hq⟩:=Qg (ZC x y);rw[hq]at HC;have HQ:=hid hq;clear hd hd2 hv1 hv2 hx hy hq
    go_wp2_with fail
    refine rgH (Ext.hc12 a3 b3 x0 x1 x2 x3 x4 y0 y1 y2 y3 y4) (Ext.refl _).drew (fun hSg1q0=>?_);refine Qp 0 1 2 3 4 5 ?_;refine QB 6 7 8 9 ?_;refine rgC 10 (fun K hK=>?_);go_simp;go_at_call 17;refine(HC.o _ (Ext.refl wr).drew).mono ?_;rintro e w5 ⟨rfl,hx5⟩;have HX5:=hid hx5.drew_left;clear hx5;refine rgK hK ⟨HX5.o.c a3,HX5.o.c b3,HX5.o.c x0,HX5.o.c x1,HX5.o.c x2,HX5.o.c x3,HX5.o.c x4,HX5.o.c y0,HX5.o.c y1,HX5.o.c y2,HX5.o.c y3,HX5.o.c y4⟩ (fun hSg1q1=>?_);clear hK K;refine rgT 11 ?_;refine wpAnyH_done (by kernel_rfl) ?_ _;clear a3 b3 x0 x1 x2 x3 x4 y0 y1 y2 y3 y4
    cases q with
    |true=>
     go_wp2
     go_roundw
     case rel=>exact⟨j+1,by omega,by go_num,hid (HX.o.trans HX5.o),hid (xB HXX.o HYY.o ((Vp x y).1 HQ.o) HT.o)⟩
     case measure=>simp [intOf];omega
    |false=>
     obtain rfl:z=false:=by rw[<-HZ2.o,Qw (zb HXX.o HYY.o (jk HQ.o))];rfl
     go_wp2
     go_ret;exact⟨rfl,HE0.o.trans (HX.o.trans HX5.o)⟩
   ·obtain rfl:j=n1:=by omega
    have HEE:Hid (e=e'):=hid (xM HT.o HL1.o HL2.o);clear HT
    go_wp2
    clear a3 b3
    go_loopw [6] (fun i wr=>∃j:Nat,j<=m1/\i= .int .i64 j/\Hid (Ext W0 wr)/\Hid (f.take j=f'.take j)) (fun i _=>m1 - (intOf i).toNat)
    case atStart=>exact⟨0,by omega,rfl,HX,hid rfl⟩
    case round=>
     obtain⟨j,hj,rfl,HX2,HT⟩:=hrel;have a4:=HX2.o.c HA4.o;have b4:=HX2.o.c HB4.o;by_cases h1:j<m1
     ·obtain⟨x,hx⟩:∃x,f[j]? =some x:=⟨_,Qq (by have:=HL3.o;omega)⟩;obtain⟨y,hy⟩:∃y,f'[j]? =some y:=⟨_,Qq (by have:=HL4.o;omega)⟩;obtain⟨d',bx,ox,P1,p1,q1,P2,p2,q2,hd,rfl,hv1,hi1,x0,x1,x2,x3,x4,x5⟩:=(HF1.o.ext (HE0.o.trans HX2.o)).fd_at hx;obtain⟨d2,by_,oy,Q1,r1,s1,Q2,r2,s2,hd2,rfl,hv2,hi2,y0,y1,y2,y3,y4,y5⟩:=(HF2.o.ext (HE0.o.trans HX2.o)).fd_at hy;obtain rfl:d'=d2:=by omega
      have HC:=hid (fun w' (hw:Ext wr w')=>HIH.o d' (by omega) w' x.2 y.2 _ _ (hv1.ext hw) (hv2.ext hw));have HXX:=hid hx;have HYY:=hid hy;obtain⟨q,hq⟩:=Qg (ZC x.2 y.2);rw[hq]at HC;have HQ:=hid hq;clear hd hd2 hv1 hv2 hx hy hq hi1 hi2;by_cases h2:x.1=y.1
      ·have HOE:=hid h2;obtain⟨o,ho⟩:=Qg (x.1);rw[ho]at x0;rw[<-h2,ho]at y0;have g2:(o != o)=false:=by simp
       clear h2 ho
       go_wp2_with fail
       refine wp_region_held_drew (S:=(fun w'=>w'.cell? ⟨w.heap.size,4,none⟩=some (.slice (some ⟨bx,ox,none⟩) m1 e1)/\w'.cell? ⟨w.heap.size+1,4,none⟩=some (.slice (some ⟨by_,oy,none⟩) m1 e2)/\w'.cell? ⟨bx,ox+j * 6,none⟩=some (.int .i64 o)/\w'.cell? ⟨bx,ox+j * 6+1,none⟩=some (.int .i64 x.2.kind)/\w'.cell? ⟨bx,ox+j * 6+2,none⟩=some (.int .i64 x.2.size)/\w'.cell? ⟨bx,ox+j * 6+3,none⟩=some (.int .i64 x.2.count)/\w'.cell? ⟨bx,ox+j * 6+4,none⟩=some (.slice P1 p1 q1)/\w'.cell? ⟨bx,ox+j * 6+5,none⟩=some (.slice P2 p2 q2)/\w'.cell? ⟨by_,oy+j * 6,none⟩=some (.int .i64 o)/\w'.cell? ⟨by_,oy+j * 6+1,none⟩=some (.int .i64 y.2.kind)/\w'.cell? ⟨by_,oy+j * 6+2,none⟩=some (.int .i64 y.2.size)/\w'.cell? ⟨by_,oy+j * 6+3,none⟩=some (.int .i64 y.2.count)/\w'.cell? ⟨by_,oy+j * 6+4,none⟩=some (.slice Q1 r1 s1)/\w'.cell? ⟨by_,oy+j * 6+5,none⟩=some (.slice Q2 r2 s2))) (by kernel_rfl) ⟨a4,b4,x0,x1,x2,x3,x4,x5,y0,y1,y2,y3,y4,y5⟩ (fun hSg2q0=>?_);refine Qp 0 1 2 3 4 5 ?_;refine Qp 6 7 8 9 10 11 ?_;refine Qp 12 13 14 15 16 17 ?_;refine Qp 18 19 20 21 22 23 ?_;refine QJ 24 25 ?_;refine rgC 26 (fun K hK=>?_);go_simp;go_at_call 17;refine(HC.o _ (Ext.refl wr).drew).mono ?_;rintro e w5 ⟨rfl,hx5⟩;have HX5:=hid hx5.drew_left;clear hx5;refine rgK hK ⟨HX5.o.c a4,HX5.o.c b4,HX5.o.c x0,HX5.o.c x1,HX5.o.c x2,HX5.o.c x3,HX5.o.c x4,HX5.o.c x5,HX5.o.c y0,HX5.o.c y1,HX5.o.c y2,HX5.o.c y3,HX5.o.c y4,HX5.o.c y5⟩ (fun hSg2q1=>?_);clear hK K;refine QJ 27 28 ?_;refine wpAnyH_done (by kernel_rfl) ?_ _;clear a4 b4 x0 x1 x2 x3 x4 x5 y0 y1 y2 y3 y4 y5
       cases q with
       |true=>
        go_wp2
        go_roundw
        case rel=>exact⟨j+1,by omega,by go_num,hid (HX2.o.trans HX5.o),hid (xB HXX.o HYY.o (Prod.ext HOE.o ((Vp x.2 y.2).1 HQ.o)) HT.o)⟩
        case measure=>simp [intOf];omega
       |false=>
        obtain rfl:z=false:=by rw[<-HZ2.o,Qw (show ¬f=f' from zb HXX.o HYY.o (fun h=>jk HQ.o (by rw[h])))];simp
        go_wp2
        go_ret;exact⟨rfl,HE0.o.trans (HX2.o.trans HX5.o)⟩
      ·have g2:(x.1 != y.1)=true:=by simp[h2]
       obtain rfl:z=false:=by rw[<-HZ2.o,Qw (show ¬f=f' from zb HXX.o HYY.o (fun h=>h2 (by rw[h])))];simp
       clear h2
       go_wp2_with fail
       refine rgH (Ext.hc4 a4 b4 x0 y0) (Ext.refl _).drew (fun hSg3q0=>?_);refine Qp 0 1 2 3 4 5 ?_;refine Qp 6 7 8 9 10 11 ?_;refine QJ 12 13 ?_;refine Qc 14 15 16 17 ?_;refine Qc 18 19 20 21 ?_;refine Qc 22 23 24 25 ?_;refine rgC 26 (fun K hK=>?_);refine cast (if_neg (fun h=>Bool.noConfusion (show false=true from h))).symm ?_;refine rgK hK (by assumption) (fun hSg3q1=>?_);clear hK K;refine rgU 27 ?_;refine rgT 28 ?_;refine wpAnyH_done (by kernel_rfl) ?_ _;clear a4 b4 x0 x1 x2 x3 x4 x5 y0 y1 y2 y3 y4 y5
       go_wp2
       go_ret;exact⟨rfl,HE0.o.trans HX2.o.drew⟩
     ·obtain rfl:j=m1:=by omega
      have HFF:Hid (f=f'):=hid (xM HT.o HL3.o HL4.o);obtain rfl:z=true:=by rw[<-HZ2.o,Qv HEE.o,Qv HFF.o];rfl
      go_wp2
      go_ret;exact⟨rfl,HE0.o.trans HX2.o⟩
end Go.Proofs.YtlmipgdnlfjpaaaGreat
