/- Merged by program from texts of my own. -/
import Derived.Test.YtlmipgdnlfjpaaaGreatTycm
namespace Go.Proofs.YtlmipgdnlfjpaaaGreat
open Go.RowKit Go.Deco
set_option linter.unusedSimpArgs false
set_option linter.unusedVariables false
def FormOk (d:Nat):Prop:=∀(w:World) (t:Ty) (v:Value),TyV d w All v t→Calls Tryz.prog 86 #[v] w (TBool w (formT t))
theorem emp_len {α:Type}(l:List α):l.isEmpty=decide (l.length=0):=by cases l <;> simp
theorem form_bare {k s c:Int}{e:List Ty}{f:List (Int×Ty)}(h:k=0∨k=6):formT (.mk k s c e f)=((decide (c=0) && (decide (e.length=0) && decide (f.length=0))) && decide (s=0)):=by
 rw[formT,if_pos h,emp_len,emp_len];cases decide (s=0) <;> cases decide (c=0) <;> cases decide (e.length=0) <;> cases decide (f.length=0) <;> rfl
theorem form_int {k s c:Int}{e:List Ty}{f:List (Int×Ty)}(h:k=1∨k=2):formT (.mk k s c e f)=((decide (c=0) && (decide (e.length=0) && decide (f.length=0))) && decide (s=1∨s=2∨s=4)):=by
 rw[formT,if_neg (by omega),if_pos h,emp_len,emp_len];cases decide (s=1∨s=2∨s=4) <;> cases decide (c=0) <;> cases decide (e.length=0) <;> cases decide (f.length=0) <;> rfl
theorem formE_len (e:List Ty):formE e=(decide (e.length=1) && e.all formT):=by
 match e with
 |[]=>rfl
 |[x]=>simp [formE]
 |x :: y :: l=>simp [formE]
theorem form_ptr {s c:Int}{e:List Ty}{f:List (Int×Ty)}:formT (.mk 3 s c e f)=(decide (s=0) && (decide (c=0) && (decide (f.length=0) && (decide (e.length=1) && e.all formT)))):=by
 rw[formT,if_neg (by omega),if_neg (by omega),if_pos rfl,emp_len,formE_len];cases decide (s=0) <;> cases decide (c=0) <;> cases decide (e.length=1) <;> cases decide (f.length=0) <;> rfl
theorem form_arr {s c:Int}{e:List Ty}{f:List (Int×Ty)}:formT (.mk 4 s c e f)=(decide (s=0) && (decide (1≤c) && (decide (c≤65536) && (decide (f.length=0) && (decide (e.length=1) && e.all formT))))):=by
 rw[formT,if_neg (by omega),if_neg (by omega),if_neg (by omega),if_pos rfl,emp_len,formE_len];cases decide (s=0) <;> cases decide (1≤c) <;> cases decide (c≤65536) <;> cases decide (e.length=1) <;> cases decide (f.length=0) <;> rfl
theorem form_str {s c:Int}{e:List Ty}{f:List (Int×Ty)}:formT (.mk 5 s c e f)=(decide (s=0) && (decide (c=0) && (decide (e.length=0) && formF (-1) f))):=by
 rw[formT,if_neg (by omega),if_neg (by omega),if_neg (by omega),if_neg (by omega),if_pos rfl,emp_len];cases decide (s=0) <;> cases decide (c=0) <;> cases decide (e.length=0) <;> rfl
theorem form_else {k s c:Int}{e:List Ty}{f:List (Int×Ty)}(h:¬(0≤k∧k≤6)):formT (.mk k s c e f)=false:=by
 rw[formT,if_neg (by omega),if_neg (by omega),if_neg (by omega),if_neg (by omega),if_neg (by omega)]
set_option maxRecDepth 100000 in
set_option maxHeartbeats 8000000 in
theorem areF_any (d:Nat)(ih:∀d',d'<d→FormOk d')(w:World)(A:Option Addr)(n c:Nat)(l:List (Int×Ty))(hl:Sl (fdR (tyR d)) w All (.slice A n c) l):
  Calls Tryz.prog 110 #[.slice A n c] w (TBool w (formF (-1) l)):=by
 have hln:=hl.len;obtain⟨hnc,hcm⟩:=hl.cap;obtain⟨z,hz⟩:∃z,formF (-1) l=z:=⟨_,rfl⟩;rw[hz];have HZ:=hid hz;have HL:=hid hl;have HLN:=hid hln;have HIH:=hid ih;clear hz hl hln ih;go_enter Tryz.func110,Tryz.ntmps110
 go_wp2
 go_loopw [3] (fun i wr=>∃k:Nat,k≤n∧i= .int .i64 k∧Hid (Ext w wr)∧Hid (formF (-1) (l.take k)=true)) (fun i _=>n - (intOf i).toNat)
 case atStart=>exact⟨0,by omega,rfl,hid (Ext.refl w),hid (by simp[formF])⟩
 case round=>
  obtain⟨k,hk,rfl,HX,HFT⟩:=hrel;by_cases h1:k<n
  ·obtain⟨x,hx⟩:∃x,l[k]? =some x:=⟨_,List.getElem?_eq_getElem (by have:=HLN.out;omega)⟩;obtain⟨d',b,off,A1,m1,c1,B1,m2,e1,hd,rfl,hv1,hi1,c0,c1',c2,c3,c4,c5⟩:=(HL.out.ext HX.out).fd_at hx;obtain⟨g,hg⟩:∃g,l[k - 1]? =some g:=⟨_,List.getElem?_eq_getElem (by have:=HLN.out;omega)⟩;obtain⟨d2,b2,off2,A2,m12,c12,B2,m22,e12,hd2,hbo, -, -,q0, -⟩:=(HL.out.ext HX.out).fd_at hg;obtain⟨rfl,rfl⟩:b=b2∧off=off2:=by simpa using hbo
   have HC:=hid (fun w' (hw:Ext wr w')=>HIH.out d' (by omega) w' x.2 _ (hv1.ext hw));have HXX:=hid hx;have HGG:=hid hg;have HST:=hid (formF_snoc l k x hx HFT.out);have HND:=hid (fun ho=>formF_no hx HFT.out ho);obtain⟨r,hr⟩:∃r,formT x.2=r:=⟨_,rfl⟩;rw[hr]at HC;have HR:=hid hr;obtain⟨go,hgo⟩:∃go,g.1=go:=⟨_,rfl⟩;rw[hgo]at q0;have HGO:=hid hgo;have hkn:(k:Int)<(n:Int):=by omega
   have w1:IntKind.i64.wrap ((k:Int) - 1)=(k:Int) - 1:=IntWalk.i64_in _ (by omega);have hk1:0<k→(k:Int) - 1=((k - 1:Nat):Int):=fun h=>by omega
   have HK1:=hid hk1;clear hd hd2 hbo hv1 hi1 hx hg hr hgo hk1;by_cases h2:x.1<0
   ·have g1:decide (x.1<0)=true:=decide_eq_true h2
    go_wp2_with fail
    refine wp_region_held_drew (S:=(fun w'=>w'.cell? ⟨b,off+k * 6,none⟩=some (.int .i64 x.1))) (by kernel_rfl) c0 (fun hSg1q0=>?_);refine rgT6 0 1 2 3 4 5 ?_;refine rgT 6 ?_;refine rgU4 7 8 9 10 ?_;refine rgU2 11 12 ?_;refine rgT2 13 14 ?_;refine rgU4 15 16 17 18 ?_;refine rgU4 19 20 21 22 ?_;refine rgU4 23 24 25 26 ?_;refine rgU4 27 28 29 30 ?_;refine rgT2 31 32 ?_;refine rgU4 33 34 35 36 ?_;refine rgU 37 ?_;refine rgC 38 (fun K hK=>?_);refine cast (if_neg (fun h=>Bool.noConfusion (show false=true from h))).symm ?_;refine rgK hK (by assumption) (fun hSg1q1=>?_);clear hK K;refine rgU 39 ?_;refine rgT 40 ?_;refine wpAnyH_done (by kernel_rfl) ?_ _;have hxx:=h2;have HFL:=hid (formF_no HXX.out HFT.out (okF_false HXX.out (.inl h2)));obtain rfl:z=false:=by rw[←HZ.out,HFL.out]
    clear hxx
    go_wp2
    go_ret;exact⟨rfl,HX.out.drew⟩
   have g1:decide (x.1<0)=false:=decide_eq_false h2;by_cases h3:65536≤x.1
   ·have g2:decide (x.1≥65536)=true:=decide_eq_true h3
    go_wp2_with fail
    refine wp_region_held_drew (S:=(fun w'=>w'.cell? ⟨b,off+k * 6,none⟩=some (.int .i64 x.1))) (by kernel_rfl) c0 (fun hSg2q0=>?_);refine rgT6 0 1 2 3 4 5 ?_;refine rgT6 6 7 8 9 10 11 ?_;refine rgT3 12 13 14 ?_;refine rgU4 15 16 17 18 ?_;refine rgU4 19 20 21 22 ?_;refine rgU4 23 24 25 26 ?_;refine rgU4 27 28 29 30 ?_;refine rgT2 31 32 ?_;refine rgU4 33 34 35 36 ?_;refine rgU 37 ?_;refine rgC 38 (fun K hK=>?_);refine cast (if_neg (fun h=>Bool.noConfusion (show false=true from h))).symm ?_;refine rgK hK (by assumption) (fun hSg2q1=>?_);clear hK K;refine rgU 39 ?_;refine rgT 40 ?_;refine wpAnyH_done (by kernel_rfl) ?_ _;have hxx:=h2;have HFL:=hid (formF_no HXX.out HFT.out (okF_false HXX.out (.inr (.inl h3))));obtain rfl:z=false:=by rw[←HZ.out,HFL.out]
    clear hxx
    go_wp2
    go_ret;exact⟨rfl,HX.out.drew⟩
   have g2:decide (x.1≥65536)=false:=decide_eq_false h3;by_cases h4:k=0
   ·have g3:decide ((k:Int) > 0)=false:=decide_eq_false (by omega);have g3':¬(k:Int) > 0:=by omega
    have g3n:¬0<k:=by omega
    have g3d:decide (0<k)=false:=decide_eq_false g3n;have HOK:Hid (okF l k=r):=hid (by rw[okF_true HXX.out (by omega) (by omega) (.inl h4)];exact HR.out);clear h4
    go_wp2_with fail
    refine wp_region_held_drew (S:=(fun w'=>w'.cell? ⟨b,off+k * 6,none⟩=some (.int .i64 x.1)∧w'.cell? ⟨b,off+k * 6+1,none⟩=some (.int .i64 x.2.kind)∧w'.cell? ⟨b,off+k * 6+2,none⟩=some (.int .i64 x.2.size)∧w'.cell? ⟨b,off+k * 6+3,none⟩=some (.int .i64 x.2.count)∧w'.cell? ⟨b,off+k * 6+4,none⟩=some (.slice A1 m1 c1)∧w'.cell? ⟨b,off+k * 6+5,none⟩=some (.slice B1 m2 e1)∧w'.cell? ⟨b,off+(k - 1) * 6,none⟩=some (.int .i64 go))) (by kernel_rfl) ⟨c0,c1',c2,c3,c4,c5,q0⟩ (fun hSg3q0=>?_);refine rgT6 0 1 2 3 4 5 ?_;refine rgT6 6 7 8 9 10 11 ?_;refine rgT6 12 13 14 15 16 17 ?_;refine rgU4 18 19 20 21 ?_;refine rgU4 22 23 24 25 ?_;refine rgU4 26 27 28 29 ?_;refine rgT6 30 31 32 33 34 35 ?_;refine rgT2 36 37 ?_;refine rgC 38 (fun K hK=>?_);go_simp;go_at_call 86;refine(HC.out _ (Ext.refl wr).drew).mono ?_;rintro e w5 ⟨rfl,hx5⟩;have HX5:=hid hx5.drew_left;clear hx5;refine rgK hK ⟨HX5.out.cell c0,HX5.out.cell c1',HX5.out.cell c2,HX5.out.cell c3,HX5.out.cell c4,HX5.out.cell c5,HX5.out.cell q0⟩ (fun hSg3q1=>?_);clear hK K;refine rgT2 39 40 ?_;refine wpAnyH_done (by kernel_rfl) ?_ _;clear c0 c1' c2 c3 c4 c5 q0
    cases r with
    |true=>
     go_wp2
     go_roundw
     case rel=>exact⟨k+1,by omega,by go_num,hid (HX.out.trans HX5.out),hid (by rw[HST.out,HOK.out])⟩
     case measure=>simp [intOf];omega
    |false=>
     have HFL:=hid (HND.out HOK.out);obtain rfl:z=false:=by rw[←HZ.out,HFL.out]
     go_wp2
     go_ret;exact⟨rfl,HX.out.trans HX5.out⟩
   ·have h5:0<k:=by omega
    have g3:decide ((k:Int) > 0)=true:=decide_eq_true (by omega);have hk0:(k:Int) > 0:=by omega
    have hk1:=HK1.out h5;have hk2:((k - 1:Nat):Int)<(n:Int):=by omega
    have hkj:k - 1+1=k:=by omega
    have HPV:Hid (k=k - 1+1∧l[k - 1]? =some g∧g.1=go):=hid ⟨by omega,HGG.out,HGO.out⟩;rw[hk1]at w1;by_cases h6:x.1≤go
    ·have g4:decide (x.1≤go)=true:=decide_eq_true h6
     go_wp2_with fail
     refine wp_region_held_drew (S:=(fun w'=>w'.cell? ⟨b,off+k * 6,none⟩=some (.int .i64 x.1)∧w'.cell? ⟨b,off+(k - 1) * 6,none⟩=some (.int .i64 go))) (by kernel_rfl) ⟨c0,q0⟩ (fun hSg4q0=>?_);refine rgT6 0 1 2 3 4 5 ?_;refine rgT6 6 7 8 9 10 11 ?_;refine rgT6 12 13 14 15 16 17 ?_;refine rgT6 18 19 20 21 22 23 ?_;refine rgT6 24 25 26 27 28 29 ?_;refine rgT3 30 31 32 ?_;refine rgU4 33 34 35 36 ?_;refine rgU 37 ?_;refine rgC 38 (fun K hK=>?_);refine cast (if_neg (fun h=>Bool.noConfusion (show false=true from h))).symm ?_;refine rgK hK (by assumption) (fun hSg4q1=>?_);clear hK K;refine rgU 39 ?_;refine rgT 40 ?_;refine wpAnyH_done (by kernel_rfl) ?_ _;have hxx:=h2;have HFL:=hid (formF_no HXX.out HFT.out (okF_false HXX.out (.inr (.inr (.inl ⟨k - 1,g,HPV.out.1,HPV.out.2.1,by have:=HPV.out.2.2;omega⟩)))));obtain rfl:z=false:=by rw[←HZ.out,HFL.out]
     clear hxx
     go_wp2
     go_ret;exact⟨rfl,HX.out.drew⟩
    ·have g4:decide (x.1≤go)=false:=decide_eq_false h6
     have HOK:Hid (okF l k=r):=hid (by
      rw[okF_true HXX.out (by omega) (by omega) (.inr ⟨k - 1,g,HPV.out.1,HPV.out.2.1,by have:=HPV.out.2.2;omega⟩)];exact HR.out)
     go_wp2_with fail
     refine wp_region_held_drew (S:=(fun w'=>w'.cell? ⟨b,off+k * 6,none⟩=some (.int .i64 x.1)∧w'.cell? ⟨b,off+k * 6+1,none⟩=some (.int .i64 x.2.kind)∧w'.cell? ⟨b,off+k * 6+2,none⟩=some (.int .i64 x.2.size)∧w'.cell? ⟨b,off+k * 6+3,none⟩=some (.int .i64 x.2.count)∧w'.cell? ⟨b,off+k * 6+4,none⟩=some (.slice A1 m1 c1)∧w'.cell? ⟨b,off+k * 6+5,none⟩=some (.slice B1 m2 e1)∧w'.cell? ⟨b,off+(k - 1) * 6,none⟩=some (.int .i64 go))) (by kernel_rfl) ⟨c0,c1',c2,c3,c4,c5,q0⟩ (fun hSg5q0=>?_);refine rgT6 0 1 2 3 4 5 ?_;refine rgT6 6 7 8 9 10 11 ?_;refine rgT6 12 13 14 15 16 17 ?_;refine rgT6 18 19 20 21 22 23 ?_;refine rgT6 24 25 26 27 28 29 ?_;refine rgT6 30 31 32 33 34 35 ?_;refine rgT2 36 37 ?_;refine rgC 38 (fun K hK=>?_);go_simp;go_at_call 86;refine(HC.out _ (Ext.refl wr).drew).mono ?_;rintro e w5 ⟨rfl,hx5⟩;have HX5:=hid hx5.drew_left;clear hx5;refine rgK hK ⟨HX5.out.cell c0,HX5.out.cell c1',HX5.out.cell c2,HX5.out.cell c3,HX5.out.cell c4,HX5.out.cell c5,HX5.out.cell q0⟩ (fun hSg5q1=>?_);clear hK K;refine rgT2 39 40 ?_;refine wpAnyH_done (by kernel_rfl) ?_ _;clear c0 c1' c2 c3 c4 c5 q0
     cases r with
     |true=>
      go_wp2
      go_roundw
      case rel=>exact⟨k+1,by omega,by go_num,hid (HX.out.trans HX5.out),hid (by rw[HST.out,HOK.out])⟩
      case measure=>simp [intOf];omega
     |false=>
      have HFL:=hid (HND.out HOK.out);obtain rfl:z=false:=by rw[←HZ.out,HFL.out]
      go_wp2
      go_ret;exact⟨rfl,HX.out.trans HX5.out⟩
  ·obtain rfl:k=n:=by omega
   obtain rfl:z=true:=by
    rw[←HZ.out,←HFT.out,List.take_of_length_le (by have:=HLN.out;omega)]
   go_wp2
   go_ret;exact⟨rfl,HX.out⟩
set_option maxRecDepth 100000 in
set_option maxHeartbeats 8000000 in
theorem isformed_any:∀d,FormOk d:=by
 intro d
 induction d using Nat.strongRecOn with
 | _ d ih=>
  intro w t v hv;obtain⟨A,na,ca,B,nb,cb,rfl,hE,hF,hk,hs,hc⟩:=hv;have hla:=hE.len;have hlb:=hF.len;obtain⟨hac,ham⟩:=hE.cap;obtain⟨hbc,hbm⟩:=hF.cap;have HAC:=hid (fun w' (hw:Ext w w')=>areF_any d ih w' B nb cb _ (hF.ext hw));obtain⟨z,hz⟩:∃z,formT t=z:=⟨_,rfl⟩;rw[hz];obtain⟨tk,ts,tc,te,tf⟩:=t;simp only[Ty.kind,Ty.size,Ty.count,Ty.elem,Ty.fields]at hz hE hF hla hlb HAC ⊢;obtain⟨zf,hzf⟩:∃zf,formF (-1) tf=zf:=⟨_,rfl⟩;rw[hzf]at HAC;have HZF:=hid hzf;obtain⟨W0,hW0⟩:∃W0,w.alloc (.cells #[.int .i64 tk,.int .i64 ts,.int .i64 tc,.slice A na ca,.slice B nb cb] 42)=W0:=⟨_,rfl⟩;have hE0:Ext w W0:=by rw[←hW0];exact(Ext.refl w).alloc _
  have o0:W0.cell? ⟨w.heap.size,0,none⟩=some (.int .i64 tk):=by rw[←hW0];simp[go_sem]
  have o1:W0.cell? ⟨w.heap.size,1,none⟩=some (.int .i64 ts):=by rw[←hW0];simp[go_sem]
  have o2:W0.cell? ⟨w.heap.size,2,none⟩=some (.int .i64 tc):=by rw[←hW0];simp[go_sem]
  have o3:W0.cell? ⟨w.heap.size,3,none⟩=some (.slice A na ca):=by rw[←hW0];simp[go_sem]
  have o4:W0.cell? ⟨w.heap.size,4,none⟩=some (.slice B nb cb):=by rw[←hW0];simp[go_sem]
  have HZ:=hid hz;have HE:=hid hE;have HLA:=hid hla;have HLB:=hid hlb;have HE0:=hid hE0;have HIH:=hid ih;clear hz hE hF hla hlb hE0 ih hk hs hc hzf;obtain⟨br,hbr⟩:∃br,(decide (tc=0) && (decide (na=0) && decide (nb=0)))=br:=⟨_,rfl⟩;have HBR:=hid hbr;clear hbr;go_enter Tryz.func86,Tryz.ntmps86;go_upto_region 1 with fail
  clear hW0
  go_cut [3] from 4 to 18 (fun s wx=>s= .bool br∧W0=wx)
  case first=>
   by_cases h1:tc=0
   ·subst h1;by_cases h2:na=0
    ·subst h2;by_cases h3:nb=0
     ·subst h3
      go_wp2
      go_meet;exact⟨by rw[←HBR.out];rfl,rfl⟩
     ·have g3:((nb:Int) == 0)=false:=by simp;omega
      go_wp2
      go_meet;exact⟨by rw[←HBR.out];simp[h3],rfl⟩
    ·have g2:((na:Int) == 0)=false:=by simp;omega
     go_wp2
     go_meet;exact⟨by rw[←HBR.out];simp[h2],rfl⟩
   ·have g1:(tc == 0)=false:=by simp[h1]
    go_wp2
    go_meet;exact⟨by rw[←HBR.out];simp[h1],rfl⟩
  case rest=>
   obtain⟨rfl,rfl⟩:=hcut;by_cases k06:tk=0∨tk=6
   ·have HZ2:Hid ((br && decide (ts=0))=z):=hid (by rw[←HZ.out,form_bare k06,←HBR.out,HLA.out,HLB.out])
    cases br with
    | false=>
     obtain rfl:z=false:=by rw[←HZ2.out];rfl
     rcases k06 with rfl|rfl
     all_goals
      go_wp2
      go_ret;exact⟨rfl,HE0.out⟩
    | true=>
     by_cases h4:ts=0
     ·obtain rfl:z=true:=by rw[←HZ2.out];simp[h4]
      subst h4;rcases k06 with rfl|rfl
      all_goals
       go_wp2
       go_ret;exact⟨rfl,HE0.out⟩
     ·obtain rfl:z=false:=by rw[←HZ2.out];simp[h4]
      have g4:(ts == 0)=false:=by simp[h4]
      rcases k06 with rfl|rfl
      all_goals
       go_wp2
       go_ret;exact⟨rfl,HE0.out⟩
   by_cases k12:tk=1∨tk=2
   ·have HZ2:Hid ((br && decide (ts=1∨ts=2∨ts=4))=z):=hid (by rw[←HZ.out,form_int k12,←HBR.out,HLA.out,HLB.out]);clear k06
    cases br with
    | false=>
     obtain rfl:z=false:=by rw[←HZ2.out];rfl
     rcases k12 with rfl|rfl
     all_goals
      go_wp2
      go_ret;exact⟨rfl,HE0.out⟩
    | true=>
     by_cases h4:ts=1∨ts=2∨ts=4
     ·obtain rfl:z=true:=by rw[←HZ2.out];simp[h4]
      rcases k12 with rfl|rfl
      all_goals
       rcases h4 with rfl|rfl|rfl
       all_goals
        go_wp2
        go_ret;exact⟨rfl,HE0.out⟩
     ·obtain rfl:z=false:=by rw[←HZ2.out];simp[h4]
      have g4:(ts == 1)=false:=by simp;omega
      have g5:(ts == 2)=false:=by simp;omega
      have g6:(ts == 4)=false:=by simp;omega
      clear h4;rcases k12 with rfl|rfl
      all_goals
       go_wp2
       go_ret;exact⟨rfl,HE0.out⟩
   by_cases k3:tk=3
   ·subst k3;have HZ2:Hid ((decide (ts=0) && (decide (tc=0) && (decide (nb=0) && (decide (na=1) && te.all formT))))=z):=hid (by rw[←HZ.out,form_ptr,HLA.out,HLB.out]);clear k06 k12;by_cases h1:ts=0
    case neg=>
     have g1:(ts == 0)=false:=by simp[h1]
     obtain rfl:z=false:=by rw[←HZ2.out];simp[*]
     go_wp2
     go_ret;exact⟨rfl,HE0.out⟩
    subst h1;by_cases h2:tc=0
    case neg=>
     have g2:(tc == 0)=false:=by simp[h2]
     obtain rfl:z=false:=by rw[←HZ2.out];simp[*]
     go_wp2
     go_ret;exact⟨rfl,HE0.out⟩
    subst h2;by_cases h3:nb=0
    case neg=>
     have g3:((nb:Int) == 0)=false:=by simp;omega
     obtain rfl:z=false:=by rw[←HZ2.out];simp[*]
     go_wp2
     go_ret;exact⟨rfl,HE0.out⟩
    subst h3;by_cases h4:na=1
    case neg=>
     have g4:((na:Int) == 1)=false:=by simp;omega
     obtain rfl:z=false:=by rw[←HZ2.out];simp[*]
     go_wp2
     go_ret;exact⟨rfl,HE0.out⟩
    subst h4;obtain⟨x,hx⟩:∃x,te[0]? =some x:=⟨_,List.getElem?_eq_getElem (by have:=HLA.out;omega)⟩
    have HTE:Hid (te.all formT=formT x):=hid (by
     match te,HLA.out,hx with
     |[y],_,hx=>simp at hx;subst hx;simp)
    obtain⟨d',b,off,A1,n1,c1,B1,m1,e1,hd,rfl,hv1,c0,c1',c2,c3,c4⟩:=(HE.out.ext HE0.out).ty_at hx;have HC:=hid (fun w' (hw:Ext W0 w')=>HIH.out d' (by omega) w' x _ (hv1.ext hw));simp only[Nat.zero_mul,Nat.add_zero]at c0 c1' c2 c3 c4;obtain⟨r,hr⟩:∃r,formT x=r:=⟨_,rfl⟩;rw[hr]at HC HTE;clear hd hv1 hr hx
    go_wp2_with fail
    refine(HC.out _ (Ext.refl W0)).mono ?_;rintro e w5 ⟨rfl,hx5⟩;have HX5:=hid (HE0.out.trans hx5);clear hx5 c0 c1' c2 c3 c4 o0 o1 o2 o3 o4
    go_wp2
    go_ret;refine⟨ret_bool ?_,HX5.out⟩;rw[←HZ2.out,HTE.out];simp[*]
   by_cases k4:tk=4
   ·subst k4;have HZ2:Hid ((decide (ts=0) && (decide (1≤tc) && (decide (tc≤65536) && (decide (nb=0) && (decide (na=1) && te.all formT)))))=z):=hid (by rw[←HZ.out,form_arr,HLA.out,HLB.out]);clear k06 k12 k3;by_cases h1:ts=0
    case neg=>
     have g1:(ts == 0)=false:=by simp[h1]
     obtain rfl:z=false:=by rw[←HZ2.out];simp[*]
     go_wp2
     go_ret;exact⟨rfl,HE0.out⟩
    subst h1;by_cases h2:1≤tc
    case neg=>
     have g2:decide (tc≥1)=false:=decide_eq_false h2;obtain rfl:z=false:=by rw[←HZ2.out];simp[*]
     go_wp2
     go_ret;exact⟨rfl,HE0.out⟩
    have g2:decide (tc≥1)=true:=decide_eq_true h2;by_cases h5:tc≤65536
    case neg=>
     have g5:decide (tc≤65536)=false:=decide_eq_false h5;obtain rfl:z=false:=by rw[←HZ2.out];simp[*]
     go_wp2
     go_ret;exact⟨rfl,HE0.out⟩
    have g5:decide (tc≤65536)=true:=decide_eq_true h5;by_cases h3:nb=0
    case neg=>
     have g3:((nb:Int) == 0)=false:=by simp;omega
     obtain rfl:z=false:=by rw[←HZ2.out];simp[*]
     go_wp2
     go_ret;exact⟨rfl,HE0.out⟩
    subst h3;by_cases h4:na=1
    case neg=>
     have g4:((na:Int) == 1)=false:=by simp;omega
     obtain rfl:z=false:=by rw[←HZ2.out];simp[*]
     go_wp2
     go_ret;exact⟨rfl,HE0.out⟩
    subst h4;obtain⟨x,hx⟩:∃x,te[0]? =some x:=⟨_,List.getElem?_eq_getElem (by have:=HLA.out;omega)⟩
    have HTE:Hid (te.all formT=formT x):=hid (by
     match te,HLA.out,hx with
     |[y],_,hx=>simp at hx;subst hx;simp)
    obtain⟨d',b,off,A1,n1,c1,B1,m1,e1,hd,rfl,hv1,c0,c1',c2,c3,c4⟩:=(HE.out.ext HE0.out).ty_at hx;have HC:=hid (fun w' (hw:Ext W0 w')=>HIH.out d' (by omega) w' x _ (hv1.ext hw));simp only[Nat.zero_mul,Nat.add_zero]at c0 c1' c2 c3 c4;obtain⟨r,hr⟩:∃r,formT x=r:=⟨_,rfl⟩;rw[hr]at HC HTE;clear hd hv1 hr hx
    go_wp2_with fail
    refine(HC.out _ (Ext.refl W0)).mono ?_;rintro e w5 ⟨rfl,hx5⟩;have HX5:=hid (HE0.out.trans hx5);clear hx5 c0 c1' c2 c3 c4 o0 o1 o2 o3 o4
    go_wp2
    go_ret;refine⟨ret_bool ?_,HX5.out⟩;rw[←HZ2.out,HTE.out];simp[*]
   by_cases k5:tk=5
   ·subst k5;have HZ2:Hid ((decide (ts=0) && (decide (tc=0) && (decide (na=0) && zf)))=z):=hid (by rw[←HZ.out,form_str,HLA.out,HZF.out]);clear k06 k12 k3 k4;by_cases h1:ts=0
    case neg=>
     have g1:(ts == 0)=false:=by simp[h1]
     obtain rfl:z=false:=by rw[←HZ2.out];simp[*]
     go_wp2
     go_ret;exact⟨rfl,HE0.out⟩
    subst h1;by_cases h2:tc=0
    case neg=>
     have g2:(tc == 0)=false:=by simp[h2]
     obtain rfl:z=false:=by rw[←HZ2.out];simp[*]
     go_wp2
     go_ret;exact⟨rfl,HE0.out⟩
    subst h2;by_cases h3:na=0
    case neg=>
     have g3:((na:Int) == 0)=false:=by simp;omega
     obtain rfl:z=false:=by rw[←HZ2.out];simp[*]
     go_wp2
     go_ret;exact⟨rfl,HE0.out⟩
    subst h3
    go_wp2_with fail
    refine(HAC.out _ HE0.out).mono ?_;rintro e w5 ⟨rfl,hx5⟩;have HX5:=hid (HE0.out.trans hx5);clear hx5 o0 o1 o2 o3 o4
    go_wp2
    go_ret;refine⟨ret_bool ?_,HX5.out⟩;rw[←HZ2.out];simp
   ·obtain rfl:z=false:=by rw[←HZ.out,form_else (by omega)]
    have n0:(tk == 0)=false:=by simp;omega
    have n1:(tk == 1)=false:=by simp;omega
    have n2:(tk == 2)=false:=by simp;omega
    have n3:(tk == 3)=false:=by simp;omega
    have n4:(tk == 4)=false:=by simp;omega
    have n5:(tk == 5)=false:=by simp;omega
    have n6:(tk == 6)=false:=by simp;omega
    clear k06 k12 k3 k4 k5
    go_wp2
    go_ret;exact⟨rfl,HE0.out⟩
end Go.Proofs.YtlmipgdnlfjpaaaGreat
