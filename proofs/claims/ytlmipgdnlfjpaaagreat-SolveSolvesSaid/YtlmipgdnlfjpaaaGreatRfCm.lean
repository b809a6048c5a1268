/- Lemmas of mine, merged. -/
import Derived.Test.YtlmipgdnlfjpaaaGreatTycm
set_option maxRecDepth 100000
set_option maxHeartbeats 8000000
set_option linter.unusedSimpArgs false
set_option linter.unusedVariables false
namespace Go.Proofs.YtlmipgdnlfjpaaaGreat
open Go.RowKit Go.Deco
def nG (d:Nat):Prop:=∀(w:World) (t:Ty) (v:Value),TyV d w All v t->Calls Tryz.prog 86 #[v] w (ZX w (Qd t))
theorem YV {α:Type}(l:List α):l.isEmpty=decide (l.length=0):=by cases l <;> simp
theorem az {k s c:Int}{e:List Ty}{f:List (Int×Ty)}(h:k=0\/k=6):Qd (.mk k s c e f)=((decide (c=0) && (decide (e.length=0) && decide (f.length=0))) && decide (s=0)):=by
 rw[Qd,if_pos h,YV,YV];cases decide (s=0) <;> cases decide (c=0) <;> cases decide (e.length=0) <;> cases decide (f.length=0) <;> rfl
theorem ip {k s c:Int}{e:List Ty}{f:List (Int×Ty)}(h:k=1\/k=2):Qd (.mk k s c e f)=((decide (c=0) && (decide (e.length=0) && decide (f.length=0))) && decide (s=1\/s=2\/s=4)):=by
 rw[Qd,if_neg (by omega),if_pos h,YV,YV];cases decide (s=1\/s=2\/s=4) <;> cases decide (c=0) <;> cases decide (e.length=0) <;> cases decide (f.length=0) <;> rfl
theorem u9 (e:List Ty):Xd e=(decide (e.length=1) && e.all Qd):=by
 match e with
 |[]=>rfl
 |[x]=>simp [Xd]
 |x :: y :: l=>simp [Xd]
theorem Kg {s c:Int}{e:List Ty}{f:List (Int×Ty)}:Qd (.mk 3 s c e f)=(decide (s=0) && (decide (c=0) && (decide (f.length=0) && (decide (e.length=1) && e.all Qd)))):=by
 rw[Qd,if_neg (by omega),if_neg (by omega),if_pos rfl,YV,u9];cases decide (s=0) <;> cases decide (c=0) <;> cases decide (e.length=1) <;> cases decide (f.length=0) <;> rfl
theorem V0 {s c:Int}{e:List Ty}{f:List (Int×Ty)}:Qd (.mk 4 s c e f)=(decide (s=0) && (decide (1<=c) && (decide (c<=65536) && (decide (f.length=0) && (decide (e.length=1) && e.all Qd))))):=by
 rw[Qd,if_neg (by omega),if_neg (by omega),if_neg (by omega),if_pos rfl,YV,u9];cases decide (s=0) <;> cases decide (1<=c) <;> cases decide (c<=65536) <;> cases decide (e.length=1) <;> cases decide (f.length=0) <;> rfl
theorem V4 {s c:Int}{e:List Ty}{f:List (Int×Ty)}:Qd (.mk 5 s c e f)=(decide (s=0) && (decide (c=0) && (decide (e.length=0) && Zk (-1) f))):=by
 rw[Qd,if_neg (by omega),if_neg (by omega),if_neg (by omega),if_neg (by omega),if_pos rfl,YV];cases decide (s=0) <;> cases decide (c=0) <;> cases decide (e.length=0) <;> rfl
theorem ax {k s c:Int}{e:List Ty}{f:List (Int×Ty)}(h:¬(0<=k/\k<=6)):Qd (.mk k s c e f)=false:=by
 rw[Qd,if_neg (by omega),if_neg (by omega),if_neg (by omega),if_neg (by omega),if_neg (by omega)]
theorem eP (d:Nat)(ih:∀d',d'<d->nG d')(w:World)(A:Option Addr)(n c:Nat)(l:List (Int×Ty))(hl:Sl (fdR (tyR d)) w All (.slice A n c) l):
  Calls Tryz.prog 110 #[.slice A n c] w (ZX w (Zk (-1) l)):=by
 have hln:=hl.len;obtain⟨hnc,hcm⟩:=hl.cap;obtain⟨z,hz⟩:=Qg (Zk (-1) l);rw[hz];have HZ:=hid hz;have HL:=hid hl;have HLN:=hid hln;have HIH:=hid ih;clear hz hl hln ih;go_enter Tryz.func110,Tryz.ntmps110
 go_wp2
 go_loopw [3] (fun i wr=>∃k:Nat,k<=n/\i= .int .i64 k/\Hid (Ext w wr)/\Hid (Zk (-1) (l.take k)=true)) (fun i _=>n - (intOf i).toNat)
 case atStart=>exact⟨0,by omega,rfl,hid (Ext.refl w),hid (by simp[Zk])⟩
 case round=>
  obtain⟨k,hk,rfl,HX,HFT⟩:=hrel;by_cases h1:k<n
  ·obtain⟨x,hx⟩:∃x,l[k]? =some x:=⟨_,Qq (by have:=HLN.o;omega)⟩;obtain⟨d',b,off,A1,m1,c1,B1,m2,e1,hd,rfl,hv1,hi1,c0,c1',c2,c3,c4,c5⟩:=(HL.o.ext HX.o).fd_at hx;obtain⟨g,hg⟩:∃g,l[k - 1]? =some g:=⟨_,Qq (by have:=HLN.o;omega)⟩;obtain⟨d2,b2,off2,A2,m12,c12,B2,m22,e12,hd2,hbo, -, -,q0, -⟩:=(HL.o.ext HX.o).fd_at hg;obtain⟨rfl,rfl⟩:b=b2/\off=off2:=by simpa using hbo
   have HC:=hid (fun w' (hw:Ext wr w')=>HIH.o d' (by omega) w' x.2 _ (hv1.ext hw));have HXX:=hid hx;have HGG:=hid hg;have HST:=hid (wJ l k x hx HFT.o);have HND:=hid (fun ho=>zF hx HFT.o ho);obtain⟨r,hr⟩:=Qg (Qd x.2);rw[hr]at HC;have HR:=hid hr;obtain⟨go,hgo⟩:=Qg (g.1);rw[hgo]at q0;have HGO:=hid hgo;have hkn:(k:Int)<(n:Int):=by omega
   have w1:IntKind.i64.wrap ((k:Int) - 1)=(k:Int) - 1:=IntWalk.i64_in _ (by omega);have hk1:0<k->(k:Int) - 1=((k - 1:Nat):Int):=fun h=>by omega
   have HK1:=hid hk1;clear hd hd2 hbo hv1 hi1 hx hg hr hgo hk1;by_cases h2:x.1<0
   ·have g1:decide (x.1<0)=true:=Qv h2
    go_wp2_with fail
    refine rgH (Ext.hc1 c0) (Ext.refl _).drew (fun hSg1q0=>?_);refine Qp 0 1 2 3 4 5 ?_;refine rgT 6 ?_;refine Qc 7 8 9 10 ?_;refine ZM 11 12 ?_;refine QJ 13 14 ?_;refine Qc 15 16 17 18 ?_;refine Qc 19 20 21 22 ?_;refine Qc 23 24 25 26 ?_;refine Qc 27 28 29 30 ?_;refine QJ 31 32 ?_;refine Qc 33 34 35 36 ?_;refine rgU 37 ?_;refine rgC 38 (fun K hK=>?_);refine cast (if_neg (fun h=>Bool.noConfusion (show false=true from h))).symm ?_;refine rgK hK (by assumption) (fun hSg1q1=>?_);clear hK K;refine rgU 39 ?_;refine rgT 40 ?_;refine wpAnyH_done (by kernel_rfl) ?_ _;have hxx:=h2;have HFL:=hid (zF HXX.o HFT.o (qw HXX.o (.inl h2)));obtain rfl:z=false:=by rw[<-HZ.o,HFL.o]
    clear hxx
    go_wp2
    go_ret;exact⟨rfl,HX.o.drew⟩
   have g1:decide (x.1<0)=false:=Qw h2;by_cases h3:65536<=x.1
   ·have g2:decide (x.1>=65536)=true:=Qv h3
    go_wp2_with fail
    refine rgH (Ext.hc1 c0) (Ext.refl _).drew (fun hSg2q0=>?_);refine Qp 0 1 2 3 4 5 ?_;refine Qp 6 7 8 9 10 11 ?_;refine Zd 12 13 14 ?_;refine Qc 15 16 17 18 ?_;refine Qc 19 20 21 22 ?_;refine Qc 23 24 25 26 ?_;refine Qc 27 28 29 30 ?_;refine QJ 31 32 ?_;refine Qc 33 34 35 36 ?_;refine rgU 37 ?_;refine rgC 38 (fun K hK=>?_);refine cast (if_neg (fun h=>Bool.noConfusion (show false=true from h))).symm ?_;refine rgK hK (by assumption) (fun hSg2q1=>?_);clear hK K;refine rgU 39 ?_;refine rgT 40 ?_;refine wpAnyH_done (by kernel_rfl) ?_ _;have hxx:=h2;have HFL:=hid (zF HXX.o HFT.o (qw HXX.o (.inr (.inl h3))));obtain rfl:z=false:=by rw[<-HZ.o,HFL.o]
    clear hxx
    go_wp2
    go_ret;exact⟨rfl,HX.o.drew⟩
   have g2:decide (x.1>=65536)=false:=Qw h3;by_cases h4:k=0
   ·have g3:decide ((k:Int) > 0)=false:=Qw (by omega);have g3':¬(k:Int) > 0:=by omega
    have g3n:¬0<k:=by omega
    have g3d:decide (0<k)=false:=Qw g3n;have HOK:Hid (okF l k=r):=hid (by rw[j8 HXX.o (by omega) (by omega) (.inl h4)];exact HR.o);clear h4
    go_wp2_with fail
    refine rgH (Ext.hc7 c0 c1' c2 c3 c4 c5 q0) (Ext.refl _).drew (fun hSg3q0=>?_);refine Qp 0 1 2 3 4 5 ?_;refine Qp 6 7 8 9 10 11 ?_;refine Qp 12 13 14 15 16 17 ?_;refine Qc 18 19 20 21 ?_;refine Qc 22 23 24 25 ?_;refine Qc 26 27 28 29 ?_;refine Qp 30 31 32 33 34 35 ?_;refine QJ 36 37 ?_;refine rgC 38 (fun K hK=>?_);go_simp;go_at_call 86;refine(HC.o _ (Ext.refl wr).drew).mono ?_;rintro e w5 ⟨rfl,hx5⟩;have HX5:=hid hx5.drew_left;clear hx5;refine rgK hK ⟨HX5.o.c c0,HX5.o.c c1',HX5.o.c c2,HX5.o.c c3,HX5.o.c c4,HX5.o.c c5,HX5.o.c q0⟩ (fun hSg3q1=>?_);clear hK K;refine QJ 39 40 ?_;refine wpAnyH_done (by kernel_rfl) ?_ _;clear c0 c1' c2 c3 c4 c5 q0
    cases r with
    |true=>
     go_wp2
     go_roundw
     case rel=>exact⟨k+1,by omega,by go_num,hid (HX.o.trans HX5.o),hid (by rw[HST.o,HOK.o])⟩
     case measure=>simp [intOf];omega
    |false=>
     have HFL:=hid (HND.o HOK.o);obtain rfl:z=false:=by rw[<-HZ.o,HFL.o]
     go_wp2
     go_ret;exact⟨rfl,HX.o.trans HX5.o⟩
   ·have h5:0<k:=by omega
    have g3:decide ((k:Int) > 0)=true:=Qv (by omega);have hk0:(k:Int) > 0:=by omega
    have hk1:=HK1.o h5;have hk2:((k - 1:Nat):Int)<(n:Int):=by omega
    have hkj:k - 1+1=k:=by omega
    have HPV:Hid (k=k - 1+1/\l[k - 1]? =some g/\g.1=go):=hid ⟨by omega,HGG.o,HGO.o⟩;rw[hk1]at w1;by_cases h6:x.1<=go
    ·have g4:decide (x.1<=go)=true:=Qv h6
     go_wp2_with fail
     refine rgH (Ext.hc2 c0 q0) (Ext.refl _).drew (fun hSg4q0=>?_);refine Qp 0 1 2 3 4 5 ?_;refine Qp 6 7 8 9 10 11 ?_;refine Qp 12 13 14 15 16 17 ?_;refine Qp 18 19 20 21 22 23 ?_;refine Qp 24 25 26 27 28 29 ?_;refine Zd 30 31 32 ?_;refine Qc 33 34 35 36 ?_;refine rgU 37 ?_;refine rgC 38 (fun K hK=>?_);refine cast (if_neg (fun h=>Bool.noConfusion (show false=true from h))).symm ?_;refine rgK hK (by assumption) (fun hSg4q1=>?_);clear hK K;refine rgU 39 ?_;refine rgT 40 ?_;refine wpAnyH_done (by kernel_rfl) ?_ _;have hxx:=h2;have HFL:=hid (zF HXX.o HFT.o (qw HXX.o (.inr (.inr (.inl ⟨k - 1,g,HPV.o.1,HPV.o.2.1,by have:=HPV.o.2.2;omega⟩)))));obtain rfl:z=false:=by rw[<-HZ.o,HFL.o]
     clear hxx
     go_wp2
     go_ret;exact⟨rfl,HX.o.drew⟩
    ·have g4:decide (x.1<=go)=false:=Qw h6
     have HOK:Hid (okF l k=r):=hid (by
      rw[j8 HXX.o (by omega) (by omega) (.inr ⟨k - 1,g,HPV.o.1,HPV.o.2.1,by have:=HPV.o.2.2;omega⟩)];exact HR.o)
     go_wp2_with fail
     refine rgH (Ext.hc7 c0 c1' c2 c3 c4 c5 q0) (Ext.refl _).drew (fun hSg5q0=>?_);refine Qp 0 1 2 3 4 5 ?_;refine Qp 6 7 8 9 10 11 ?_;refine Qp 12 13 14 15 16 17 ?_;refine Qp 18 19 20 21 22 23 ?_;refine Qp 24 25 26 27 28 29 ?_;refine Qp 30 31 32 33 34 35 ?_;refine QJ 36 37 ?_;refine rgC 38 (fun K hK=>?_);go_simp;go_at_call 86;refine(HC.o _ (Ext.refl wr).drew).mono ?_;rintro e w5 ⟨rfl,hx5⟩;have HX5:=hid hx5.drew_left;clear hx5;refine rgK hK ⟨HX5.o.c c0,HX5.o.c c1',HX5.o.c c2,HX5.o.c c3,HX5.o.c c4,HX5.o.c c5,HX5.o.c q0⟩ (fun hSg5q1=>?_);clear hK K;refine QJ 39 40 ?_;refine wpAnyH_done (by kernel_rfl) ?_ _;clear c0 c1' c2 c3 c4 c5 q0
     cases r with
     |true=>
      go_wp2
      go_roundw
      case rel=>exact⟨k+1,by omega,by go_num,hid (HX.o.trans HX5.o),hid (by rw[HST.o,HOK.o])⟩
      case measure=>simp [intOf];omega
     |false=>
      have HFL:=hid (HND.o HOK.o);obtain rfl:z=false:=by rw[<-HZ.o,HFL.o]
      go_wp2
      go_ret;exact⟨rfl,HX.o.trans HX5.o⟩
  ·obtain rfl:k=n:=by omega
   obtain rfl:z=true:=by
    rw[<-HZ.o,<-HFT.o,Qj (by have:=HLN.o;omega)]
   go_wp2
   go_ret;exact⟨rfl,HX.o⟩
theorem sY:∀d,nG d:=by
 intro d
 induction d using Nat.strongRecOn with
 | _ d ih=>
  intro w t v hv;obtain⟨A,na,ca,B,nb,cb,rfl,hE,hF,hk,hs,hc⟩:=hv;have hla:=hE.len;have hlb:=hF.len;obtain⟨hac,ham⟩:=hE.cap;obtain⟨hbc,hbm⟩:=hF.cap;have HAC:=hid (fun w' (hw:Ext w w')=>eP d ih w' B nb cb _ (hF.ext hw));obtain⟨z,hz⟩:=Qg (Qd t);rw[hz];obtain⟨tk,ts,tc,te,tf⟩:=t;simp only[Ty.kind,Ty.size,Ty.count,Ty.elem,Ty.fields]at hz hE hF hla hlb HAC ⊢;obtain⟨zf,hzf⟩:=Qg (Zk (-1) tf);rw[hzf]at HAC;have HZF:=hid hzf;obtain⟨W0,hW0⟩:=Qg (w.alloc (.cells #[.int .i64 tk,.int .i64 ts,.int .i64 tc,.slice A na ca,.slice B nb cb] 42));have hE0:Ext w W0:=by rw[<-hW0];exact(Ext.refl w).alloc _
  have o0:W0.cell? ⟨w.heap.size,0,none⟩=some (.int .i64 tk):=by rw[<-hW0];simp[go_sem]
  have o1:W0.cell? ⟨w.heap.size,1,none⟩=some (.int .i64 ts):=by rw[<-hW0];simp[go_sem]
  have o2:W0.cell? ⟨w.heap.size,2,none⟩=some (.int .i64 tc):=by rw[<-hW0];simp[go_sem]
  have o3:W0.cell? ⟨w.heap.size,3,none⟩=some (.slice A na ca):=by rw[<-hW0];simp[go_sem]
  have o4:W0.cell? ⟨w.heap.size,4,none⟩=some (.slice B nb cb):=by rw[<-hW0];simp[go_sem]
  have HZ:=hid hz;have HE:=hid hE;have HLA:=hid hla;have HLB:=hid hlb;have HE0:=hid hE0;have HIH:=hid ih;clear hz hE hF hla hlb hE0 ih hk hs hc hzf;obtain⟨br,hbr⟩:=Qg ((decide (tc=0) && (decide (na=0) && decide (nb=0))));have HBR:=hid hbr;clear hbr;go_enter Tryz.func86,Tryz.ntmps86;go_upto_region 1 with fail
  clear hW0
  go_cut [3] from 4 to 18 (fun s wx=>s= .bool br/\W0=wx)
  case first=>
   by_cases h1:tc=0
   ·subst h1;by_cases h2:na=0
    ·subst h2;by_cases h3:nb=0
     ·subst h3
      go_wp2
      go_meet;exact⟨by rw[<-HBR.o];rfl,rfl⟩
     ·have g3:((nb:Int) == 0)=false:=by simp;omega
      go_wp2
      go_meet;exact⟨by rw[<-HBR.o];simp[h3],rfl⟩
    ·have g2:((na:Int) == 0)=false:=by simp;omega
     go_wp2
     go_meet;exact⟨by rw[<-HBR.o];simp[h2],rfl⟩
   ·have g1:(tc == 0)=false:=by simp[h1]
    go_wp2
    go_meet;exact⟨by rw[<-HBR.o];simp[h1],rfl⟩
  case rest=>
   obtain⟨rfl,rfl⟩:=hcut;by_cases k06:tk=0\/tk=6
   ·have HZ2:Hid ((br && decide (ts=0))=z):=hid (by rw[<-HZ.o,az k06,<-HBR.o,HLA.o,HLB.o])
    cases br with
    | false=>
     obtain rfl:z=false:=by rw[<-HZ2.o];rfl
     rcases k06 with rfl|rfl
     all_goals
      go_wp2
      go_ret;exact⟨rfl,HE0.o⟩
    | true=>
     by_cases h4:ts=0
     ·obtain rfl:z=true:=by rw[<-HZ2.o];simp[h4]
      subst h4;rcases k06 with rfl|rfl
      all_goals
       go_wp2
       go_ret;exact⟨rfl,HE0.o⟩
     ·obtain rfl:z=false:=by rw[<-HZ2.o];simp[h4]
      have g4:(ts == 0)=false:=by simp[h4]
      rcases k06 with rfl|rfl
      all_goals
       go_wp2
       go_ret;exact⟨rfl,HE0.o⟩
   by_cases k12:tk=1\/tk=2
   ·have HZ2:Hid ((br && decide (ts=1\/ts=2\/ts=4))=z):=hid (by rw[<-HZ.o,ip k12,<-HBR.o,HLA.o,HLB.o]);clear k06
    cases br with
    | false=>
     obtain rfl:z=false:=by rw[<-HZ2.o];rfl
     rcases k12 with rfl|rfl
     all_goals
      go_wp2
      go_ret;exact⟨rfl,HE0.o⟩
    | true=>
     by_cases h4:ts=1\/ts=2\/ts=4
     ·obtain rfl:z=true:=by rw[<-HZ2.o];simp[h4]
      rcases k12 with rfl|rfl
      all_goals
       rcases h4 with rfl|rfl|rfl
       all_goals
        go_wp2
        go_ret;exact⟨rfl,HE0.o⟩
     ·obtain rfl:z=false:=by rw[<-HZ2.o];simp[h4]
      have g4:(ts == 1)=false:=by simp;omega
      have g5:(ts == 2)=false:=by simp;omega
      have g6:(ts == 4)=false:=by simp;omega
      clear h4;rcases k12 with rfl|rfl
      all_goals
       go_wp2
       go_ret;exact⟨rfl,HE0.o⟩
   by_cases k3:tk=3
   ·subst k3;have HZ2:Hid ((decide (ts=0) && (decide (tc=0) && (decide (nb=0) && (decide (na=1) && te.all Qd))))=z):=hid (by rw[<-HZ.o,Kg,HLA.o,HLB.o]);clear k06 k12;by_cases h1:ts=0
    case neg=>
     have g1:(ts == 0)=false:=by simp[h1]
     obtain rfl:z=false:=by rw[<-HZ2.o];simp[*]
     go_wp2
     go_ret;exact⟨rfl,HE0.o⟩
    subst h1;by_cases h2:tc=0
    case neg=>
     have g2:(tc == 0)=false:=by simp[h2]
     obtain rfl:z=false:=by rw[<-HZ2.o];simp[*]
     go_wp2
     go_ret;exact⟨rfl,HE0.o⟩
    subst h2;by_cases h3:nb=0
    case neg=>
     have g3:((nb:Int) == 0)=false:=by simp;omega
     obtain rfl:z=false:=by rw[<-HZ2.o];simp[*]
     go_wp2
     go_ret;exact⟨rfl,HE0.o⟩
    subst h3;by_cases h4:na=1
    case neg=>
     have g4:((na:Int) == 1)=false:=by simp;omega
     obtain rfl:z=false:=by rw[<-HZ2.o];simp[*]
     go_wp2
     go_ret;exact⟨rfl,HE0.o⟩
    subst h4;obtain⟨x,hx⟩:∃x,te[0]? =some x:=⟨_,Qq (by have:=HLA.o;omega)⟩
    have HTE:Hid (te.all Qd=Qd x):=hid (by
     match te,HLA.o,hx with
     |[y],_,hx=>simp at hx;subst hx;simp)
    obtain⟨d',b,off,A1,n1,c1,B1,m1,e1,hd,rfl,hv1,c0,c1',c2,c3,c4⟩:=(HE.o.ext HE0.o).ty_at hx;have HC:=hid (fun w' (hw:Ext W0 w')=>HIH.o d' (by omega) w' x _ (hv1.ext hw));simp only[Nat.zero_mul,Nat.add_zero]at c0 c1' c2 c3 c4;obtain⟨r,hr⟩:=Qg (Qd x);rw[hr]at HC HTE;clear hd hv1 hr hx
    go_wp2_with fail
    refine(HC.o _ (Ext.refl W0)).mono ?_;rintro e w5 ⟨rfl,hx5⟩;have HX5:=hid (HE0.o.trans hx5);clear hx5 c0 c1' c2 c3 c4 o0 o1 o2 o3 o4
    go_wp2
    go_ret;refine⟨XP ?_,HX5.o⟩;rw[<-HZ2.o,HTE.o];simp[*]
   by_cases k4:tk=4
   ·subst k4;have HZ2:Hid ((decide (ts=0) && (decide (1<=tc) && (decide (tc<=65536) && (decide (nb=0) && (decide (na=1) && te.all Qd)))))=z):=hid (by rw[<-HZ.o,V0,HLA.o,HLB.o]);clear k06 k12 k3;by_cases h1:ts=0
    case neg=>
     have g1:(ts == 0)=false:=by simp[h1]
     obtain rfl:z=false:=by rw[<-HZ2.o];simp[*]
     go_wp2
     go_ret;exact⟨rfl,HE0.o⟩
    subst h1;by_cases h2:1<=tc
    case neg=>
     have g2:decide (tc>=1)=false:=Qw h2;obtain rfl:z=false:=by rw[<-HZ2.o];simp[*]
     go_wp2
     go_ret;exact⟨rfl,HE0.o⟩
    have g2:decide (tc>=1)=true:=Qv h2;by_cases h5:tc<=65536
    case neg=>
     have g5:decide (tc<=65536)=false:=Qw h5;obtain rfl:z=false:=by rw[<-HZ2.o];simp[*]
     go_wp2
     go_ret;exact⟨rfl,HE0.o⟩
    have g5:decide (tc<=65536)=true:=Qv h5;by_cases h3:nb=0
    case neg=>
     have g3:((nb:Int) == 0)=false:=by simp;omega
     obtain rfl:z=false:=by rw[<-HZ2.o];simp[*]
     go_wp2
     go_ret;exact⟨rfl,HE0.o⟩
    subst h3;by_cases h4:na=1
    case neg=>
     have g4:((na:Int) == 1)=false:=by simp;omega
     obtain rfl:z=false:=by rw[<-HZ2.o];simp[*]
     go_wp2
     go_ret;exact⟨rfl,HE0.o⟩
    subst h4;obtain⟨x,hx⟩:∃x,te[0]? =some x:=⟨_,Qq (by have:=HLA.o;omega)⟩
    have HTE:Hid (te.all Qd=Qd x):=hid (by
     match te,HLA.o,hx with
     |[y],_,hx=>simp at hx;subst hx;simp)
    obtain⟨d',b,off,A1,n1,c1,B1,m1,e1,hd,rfl,hv1,c0,c1',c2,c3,c4⟩:=(HE.o.ext HE0.o).ty_at hx;have HC:=hid (fun w' (hw:Ext W0 w')=>HIH.o d' (by omega) w' x _ (hv1.ext hw));simp only[Nat.zero_mul,Nat.add_zero]at c0 c1' c2 c3 c4;obtain⟨r,hr⟩:=Qg (Qd x);rw[hr]at HC HTE;clear hd hv1 hr hx
    go_wp2_with fail
    refine(HC.o _ (Ext.refl W0)).mono ?_;rintro e w5 ⟨rfl,hx5⟩;have HX5:=hid (HE0.o.trans hx5);clear hx5 c0 c1' c2 c3 c4 o0 o1 o2 o3 o4
    go_wp2
    go_ret;refine⟨XP ?_,HX5.o⟩;rw[<-HZ2.o,HTE.o];simp[*]
   by_cases k5:tk=5
   ·subst k5;have HZ2:Hid ((decide (ts=0) && (decide (tc=0) && (decide (na=0) && zf)))=z):=hid (by rw[<-HZ.o,V4,HLA.o,HZF.o]);clear k06 k12 k3 k4;by_cases h1:ts=0
    case neg=>
     have g1:(ts == 0)=false:=by simp[h1]
     obtain rfl:z=false:=by rw[<-HZ2.o];simp[*]
     go_wp2
     go_ret;exact⟨rfl,HE0.o⟩
    subst h1;by_cases h2:tc=0
    case neg=>
     have g2:(tc == 0)=false:=by simp[h2]
     obtain rfl:z=false:=by rw[<-HZ2.o];simp[*]
     go_wp2
     go_ret;exact⟨rfl,HE0.o⟩
    subst h2;by_cases h3:na=0
    case neg=>
     have g3:((na:Int) == 0)=false:=by simp;omega
     obtain rfl:z=false:=by rw[<-HZ2.o];simp[*]
     go_wp2
     go_ret;exact⟨rfl,HE0.o⟩
    subst h3
    go_wp2_with fail
    refine(HAC.o _ HE0.o).mono ?_;rintro e w5 ⟨rfl,hx5⟩;have HX5:=hid (HE0.o.trans hx5);clear hx5 o0 o1 o2 o3 o4
    go_wp2
    go_ret;refine⟨XP ?_,HX5.o⟩;rw[<-HZ2.o];simp
   ·obtain rfl:z=false:=by rw[<-HZ.o,ax (by omega)]
    have n0:(tk == 0)=false:=by simp;omega
    have n1:(tk == 1)=false:=by simp;omega
    have n2:(tk == 2)=false:=by simp;omega
    have n3:(tk == 3)=false:=by simp;omega
    have n4:(tk == 4)=false:=by simp;omega
    have n5:(tk == 5)=false:=by simp;omega
    have n6:(tk == 6)=false:=by simp;omega
    clear k06 k12 k3 k4 k5
    go_wp2
    go_ret;exact⟨rfl,HE0.o⟩
end Go.Proofs.YtlmipgdnlfjpaaaGreat
