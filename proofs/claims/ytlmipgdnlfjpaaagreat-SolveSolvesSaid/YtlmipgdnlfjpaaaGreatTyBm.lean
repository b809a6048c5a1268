/- Lemmas of mine, merged. -/
import Derived.Test.YtlmipgdnlfjpaaaGreatTyAm
import Derived.Test.YtlmipgdnlfjpaaaGreatSptm
import Derived.Deep.CutRange
import Derived.Deep.QuietTactic
set_option linter.unusedSimpArgs false
set_option linter.unusedVariables false
namespace Go.Proofs.YtlmipgdnlfjpaaaGreat
open Go.RowKit Go.Deco
theorem dk {l:List (Int×Ty)}{k:Nat}{f:Int×Ty}(hk:l[k]? =some f):szF 0 (l.take (k+1))=max (szF 0 (l.take k)) (f.1+szT f.2):=by
 rw[VC hk,Gf]
set_option maxRecDepth 100000 in
set_option maxHeartbeats 4000000 in
theorem kq:∀(d:Nat) (w:World) (t:Ty) (v:Value),TyV d w All v t->Qd t=true->Calls Tryz.prog 91 #[v] w (gQ w (szT t)):=by
 intro d
 induction d using Nat.strongRecOn with
 | _ d ih=>
  intro w t v hv hform;obtain⟨A,na,ca,B,nb,cb,rfl,hE,hF,hk,hs,hc⟩:=hv;have hla:=hE.len;have hlb:=hF.len;obtain⟨hac,ham⟩:=hE.cap;obtain⟨hbc,hbm⟩:=hF.cap;obtain⟨W0,hW0⟩:=Qg (w.alloc (.cells #[.int .i64 t.kind,.int .i64 t.size,.int .i64 t.count,.slice A na ca,.slice B nb cb] 42));have hE0:Ext w W0:=by rw[<-hW0];exact(Ext.refl w).alloc _
  have o0:W0.cell? ⟨w.heap.size,0,none⟩=some (.int .i64 t.kind):=by rw[<-hW0];simp[go_sem]
  have o1:W0.cell? ⟨w.heap.size,1,none⟩=some (.int .i64 t.size):=by rw[<-hW0];simp[go_sem]
  have o2:W0.cell? ⟨w.heap.size,2,none⟩=some (.int .i64 t.count):=by rw[<-hW0];simp[go_sem]
  have o3:W0.cell? ⟨w.heap.size,3,none⟩=some (.slice A na ca):=by rw[<-hW0];simp[go_sem]
  have o4:W0.cell? ⟨w.heap.size,4,none⟩=some (.slice B nb cb):=by rw[<-hW0];simp[go_sem]
  have HE:=hid hE;have HF:=hid hF;have HLA:=hid hla;have HLB:=hid hlb;have HE0:=hid hE0;have HIH:=hid ih;clear hE hF hla hlb hE0 ih hk hs hc;rcases Z1 hform with(rfl|rfl)|⟨s,hs,(rfl|rfl)⟩|⟨x,rfl,hx⟩|⟨x,m,rfl,hm1,hm2,hx⟩|⟨l,rfl,hl⟩
  ·simp only[Ty.kind,Ty.size,Ty.count,Ty.unk]at *;go_enter Tryz.func91,Tryz.ntmps91
   go_wp2
   go_ret;exact⟨rfl,HE0.o⟩
  ·simp only[Ty.kind,Ty.size,Ty.count,Ty.any]at *;go_enter Tryz.func91,Tryz.ntmps91
   go_wp2
   go_ret;exact⟨rfl,HE0.o⟩
  ·simp only[Ty.kind,Ty.size,Ty.count,Ty.int]at *;have HS:=hid (nV s hs);rcases hs with rfl|rfl|rfl
   all_goals
    go_enter Tryz.func91,Tryz.ntmps91
    go_wp2
    go_ret;exact⟨Kf HS.o.symm,HE0.o⟩
  ·simp only[Ty.kind,Ty.size,Ty.count,Ty.uint]at *;have HS:=hid (dj s hs);rcases hs with rfl|rfl|rfl
   all_goals
    go_enter Tryz.func91,Tryz.ntmps91
    go_wp2
    go_ret;exact⟨Kf HS.o.symm,HE0.o⟩
  ·simp only[Ty.kind,Ty.size,Ty.count,Ty.ptr]at *;go_enter Tryz.func91,Tryz.ntmps91
   go_wp2
   go_ret;exact⟨Kf (by rw[szT];simp;omega),HE0.o⟩
  ·simp only[Ty.kind,Ty.size,Ty.count,Ty.arr]at *;have HS:=hid (Kw x hx);have HS2:=hid (qB x);have hna:na=1:=by have:=HLA.o;simpa [Ty.elem] using this
   subst hna;obtain⟨d',b,off,A1,n1,c1,B1,m1,e1,hd,rfl,hv1,c0,c1',c2,c3,c4⟩:=(HE.o.ext HE0.o).ty_at (k:=0) (t:=x) rfl;have HC:=hid (fun w' (hw:Ext W0 w')=>HIH.o d' (by omega) w' x _ (hv1.ext hw) hx);simp only[Nat.zero_mul,Nat.add_zero]at c0 c1' c2 c3 c4;obtain⟨z,hz⟩:=Qg (szT x);have HR:Hid (szT (.mk 4 0 m [x] [])=min (m * z) 65537):=hid (by rw[<-hz];simp[szT,szE]);rw[hz]at HC HS HS2
   have w1:IntKind.i64.wrap (m * z)=m * z:=IntWalk.i64_in _ (by
    have h1:=Int.mul_nonneg (show 0<=m by omega) HS.o;have h2:=Int.mul_le_mul hm2 HS2.o HS.o (by omega:(0:Int)<=65536);omega)
   clear hd hv1 hz hform hx;go_enter Tryz.func91,Tryz.ntmps91
   go_wp2_with fail
   refine rgH (Ext.hc7 o2 o3 c0 c1' c2 c3 c4) (Ext.refl _).drew (fun hSg1q0=>?_);refine Qp 0 1 2 3 4 5 ?_;refine rgC 6 (fun K hK=>?_);go_simp;go_at_call 91;refine(HC.o _ (Ext.refl W0).drew).mono ?_;rintro e w5 ⟨rfl,hx5⟩;have HX5:=hid hx5.drew_left;clear hx5;refine rgK hK ⟨HX5.o.c o2,HX5.o.c o3,HX5.o.c c0,HX5.o.c c1',HX5.o.c c2,HX5.o.c c3,HX5.o.c c4⟩ (fun hSg1q1=>?_);clear hK K;refine QJ 7 8 ?_;refine wpAnyH_done (by kernel_rfl) ?_ _;clear w1
   go_wp2
   all_goals
    go_ret;exact⟨Kf (by rw[HR.o];omega),HE0.o.trans HX5.o⟩
  ·simp only[Ty.kind,Ty.size,Ty.count,Ty.str]at *;have HFL:=hid hl;have HR:Hid (szT (.mk 5 0 0 [] l)=min (szF 0 l) 65537):=hid (by simp[szT]);clear hl hform;go_enter Tryz.func91,Tryz.ntmps91
   go_wp2
   go_loopw [30,3] (fun i s wr=>∃(k:Nat) (n:Int),k<=nb/\i= .int .i64 k/\s= .int .i64 n/\0<=n/\n<=131072/\Hid (n=szF 0 (l.take k))/\Hid (Ext W0 wr)) (fun i _ _=>nb - (intOf i).toNat)
   case atStart=>exact⟨0,0,by omega,rfl,rfl,by omega,by omega,hid rfl,hid (Ext.refl _)⟩
   case round=>
    obtain⟨k,n,hk,rfl,rfl,hn0,hn1,HN,HX⟩:=hrel;by_cases h1:k<nb
    ·obtain⟨x,hx⟩:∃x,l[k]? =some x:=⟨_,Qq (by have:=HLB.o;simp[Ty.fields]at this;omega)⟩;obtain⟨d',b,off,A1,n1,c1,B1,m1,e1,hd,rfl,hv1, -,c0,c1',c2,c3,c4,c5⟩:=(HF.o.ext (HE0.o.trans HX.o)).fd_at hx;have hxf:=XF HFL.o x (Qx hx);have HC:=hid (fun w' (hw:Ext wr w')=>HIH.o d' (by omega) w' x.2 _ (hv1.ext hw) hxf.2.2);have hz0:=Kw x.2 hxf.2.2;have hz1:=qB x.2;have HST:=hid (dk hx);obtain⟨z,hz⟩:=Qg (szT x.2);rw[hz]at HC hz0 hz1 HST;have w1:IntKind.i64.wrap (x.1+z)=x.1+z:=IntWalk.i64_in _ (by omega);have w2:IntKind.i64.wrap ((k:Int)+1)=(k:Int)+1:=IntWalk.i64_in _ (by omega);have HB:Hid (x.1+z<=131072):=hid (by omega);obtain⟨W1,hW1⟩:=Qg (wr.alloc (.cells #[.int .i64 x.1,.int .i64 x.2.kind,.int .i64 x.2.size,.int .i64 x.2.count,.slice A1 n1 c1,.slice B1 m1 e1] 59));have p0:W1.cell? ⟨wr.heap.size,0,none⟩=some (.int .i64 x.1):=by rw[<-hW1];simp[go_sem]
     have p1:W1.cell? ⟨wr.heap.size,1,none⟩=some (.int .i64 x.2.kind):=by rw[<-hW1];simp[go_sem]
     have p2:W1.cell? ⟨wr.heap.size,2,none⟩=some (.int .i64 x.2.size):=by rw[<-hW1];simp[go_sem]
     have p3:W1.cell? ⟨wr.heap.size,3,none⟩=some (.int .i64 x.2.count):=by rw[<-hW1];simp[go_sem]
     have p4:W1.cell? ⟨wr.heap.size,4,none⟩=some (.slice A1 n1 c1):=by rw[<-hW1];simp[go_sem]
     have p5:W1.cell? ⟨wr.heap.size,5,none⟩=some (.slice B1 m1 e1):=by rw[<-hW1];simp[go_sem]
     have HX1:Hid (Ext wr W1):=hid (by rw[<-hW1];exact(Ext.refl _).alloc _);clear hd hv1 hx hz hxf
     go_wp2_with fail
     refine rgH (Ext.hc6 p0 p1 p2 p3 p4 p5) (Ext.refl _).drew (fun hSg2q0=>?_);refine QB 0 1 2 3 ?_;refine rgT 4 ?_;refine rgC 5 (fun K hK=>?_);go_simp;go_at_call 91;refine(HC.o _ HX1.o.drew).mono ?_;rintro e w5 ⟨rfl,hx5⟩;have HX5:=hid hx5.drew_left;clear hx5;refine rgK hK ⟨HX5.o.c p0,HX5.o.c p1,HX5.o.c p2,HX5.o.c p3,HX5.o.c p4,HX5.o.c p5⟩ (fun hSg2q1=>?_);clear hK K;refine Zd 6 7 8 ?_;refine wpAnyH_done (by kernel_rfl) ?_ _;clear w1 w2
     go_wp2
     go_roundw
     case rel=>exact⟨k+1,_,by omega,by go_num,rfl,by omega,by have:=HB.o;omega,hid (by rw[HST.o];have:=HN.o;omega),hid (HX.o.trans (HX1.o.trans HX5.o))⟩
     case measure=>simp [intOf];omega
    ·obtain rfl:k=nb:=by omega
     have hn:n=szF 0 l:=by rw[HN.o,Qj (by have:=HLB.o;simp[Ty.fields]at this;omega)]
     have HN2:=hid hn;clear hn
     go_wp2
     all_goals
      go_ret;exact⟨Kf (by rw[HR.o,<-HN2.o];omega),HE0.o.trans HX.o⟩
end Go.Proofs.YtlmipgdnlfjpaaaGreat
