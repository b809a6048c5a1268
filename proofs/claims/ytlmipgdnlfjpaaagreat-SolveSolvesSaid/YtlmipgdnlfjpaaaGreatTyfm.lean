/- Lemmas of mine, merged. -/
import Derived.Test.YtlmipgdnlfjpaaaGreatTycm
import Derived.Lib.SliceRun
import Derived.OwnWalk
import Derived.Test.YtlmipgdnlfjpaaaGreatTymm
import Derived.Test.YtlmipgdnlfjpaaaGreatBasm
set_option maxRecDepth 100000
set_option maxHeartbeats 8000000
set_option linter.unusedSimpArgs false
set_option linter.unusedVariables false
namespace Go.Proofs.YtlmipgdnlfjpaaaGreat
open Go.RowKit Go.Deco
def Qm (w:World)(b:Nat)(v0 v1 v2 v3 v4:Value):Prop:=
 w.cell? ⟨b,0,none⟩=some v0/\w.cell? ⟨b,1,none⟩=some v1/\w.cell? ⟨b,2,none⟩=some v2/\w.cell? ⟨b,3,none⟩=some v3/\w.cell? ⟨b,4,none⟩=some v4/\∀i,w.frozen? ⟨b,i,none⟩=false
theorem Qm.lt {w:World}{b:Nat}{v0 v1 v2 v3 v4:Value}(h:Qm w b v0 v1 v2 v3 v4):b<w.heap.size:=World.block_lt_of_cell? _ _ h.1
theorem Qm.ext {w w':World}{b:Nat}{v0 v1 v2 v3 v4:Value}(h:Qm w b v0 v1 v2 v3 v4)(he:Ext w w'):Qm w' b v0 v1 v2 v3 v4:=
 ⟨he.cell h.1,he.cell h.2.1,he.cell h.2.2.1,he.cell h.2.2.2.1,he.cell h.2.2.2.2.1,fun i=>(he.frozen (p:=⟨b,i,none⟩) h.lt).trans (h.2.2.2.2.2 i)⟩
theorem Qm.far {w:World}{b:Nat}{v0 v1 v2 v3 v4:Value}(h:Qm w b v0 v1 v2 v3 v4){p:Addr}{u:Value}(hp:p.block≠b):Qm (w.setCell p u) b v0 v1 v2 v3 v4:=by
 obtain⟨h0,h1,h2,h3,h4,hf⟩:=h
 have e:∀i v,w.cell? ⟨b,i,none⟩=some v->(w.setCell p u).cell? ⟨b,i,none⟩=some v:=fun i v hv=>by
  rw[World.cell?_of_block (w:=w) (w':=w.setCell p u) (a:=⟨b,i,none⟩) (Below.heap_setCell _ _ _ b (fun e=>hp e.symm))];exact hv
 exact⟨e 0 _ h0,e 1 _ h1,e 2 _ h2,e 3 _ h3,e 4 _ h4,fun i=>by rw[World.frozen?_setCell];exact hf i⟩
theorem Qm.row {w:World}{b:Nat}{v0 v1 v2 v3 v4:Value}(h:Qm w b v0 v1 v2 v3 v4):∀{g:Nat} (cs:List Value) (off:Nat),g≠b->Qm (setRow w g off cs) b v0 v1 v2 v3 v4:=by
 intro g cs
 induction cs generalizing w with
 |nil=>exact fun _ _=>h
 |cons c cs ih=>exact fun off hg=>ih (h.far (p:=⟨g,off,none⟩) (u:=c) hg) (off+1) hg
theorem Qm.put0 {w:World}{b:Nat}{v0 v1 v2 v3 v4:Value}(h:Qm w b v0 v1 v2 v3 v4)(u:Value):Qm (w.setCell ⟨b,0,none⟩ u) b u v1 v2 v3 v4:=by
 obtain⟨h0,h1,h2,h3,h4,hf⟩:=h;exact⟨by simp[World.cell?_setCell_same,h0],by simp[World.cell?_setCell_other,h1],by simp[World.cell?_setCell_other,h2],by simp[World.cell?_setCell_other,h3],by simp[World.cell?_setCell_other,h4],fun i=>by rw[World.frozen?_setCell];exact hf i⟩
theorem Qm.put1 {w:World}{b:Nat}{v0 v1 v2 v3 v4:Value}(h:Qm w b v0 v1 v2 v3 v4)(u:Value):Qm (w.setCell ⟨b,1,none⟩ u) b v0 u v2 v3 v4:=by
 obtain⟨h0,h1,h2,h3,h4,hf⟩:=h;exact⟨by simp[World.cell?_setCell_other,h0],by simp[World.cell?_setCell_same,h1],by simp[World.cell?_setCell_other,h2],by simp[World.cell?_setCell_other,h3],by simp[World.cell?_setCell_other,h4],fun i=>by rw[World.frozen?_setCell];exact hf i⟩
theorem Qm.put2 {w:World}{b:Nat}{v0 v1 v2 v3 v4:Value}(h:Qm w b v0 v1 v2 v3 v4)(u:Value):Qm (w.setCell ⟨b,2,none⟩ u) b v0 v1 u v3 v4:=by
 obtain⟨h0,h1,h2,h3,h4,hf⟩:=h;exact⟨by simp[World.cell?_setCell_other,h0],by simp[World.cell?_setCell_other,h1],by simp[World.cell?_setCell_same,h2],by simp[World.cell?_setCell_other,h3],by simp[World.cell?_setCell_other,h4],fun i=>by rw[World.frozen?_setCell];exact hf i⟩
theorem Qm.put3 {w:World}{b:Nat}{v0 v1 v2 v3 v4:Value}(h:Qm w b v0 v1 v2 v3 v4)(u:Value):Qm (w.setCell ⟨b,3,none⟩ u) b v0 v1 v2 u v4:=by
 obtain⟨h0,h1,h2,h3,h4,hf⟩:=h;exact⟨by simp[World.cell?_setCell_other,h0],by simp[World.cell?_setCell_other,h1],by simp[World.cell?_setCell_other,h2],by simp[World.cell?_setCell_same,h3],by simp[World.cell?_setCell_other,h4],fun i=>by rw[World.frozen?_setCell];exact hf i⟩
theorem Qm.put4 {w:World}{b:Nat}{v0 v1 v2 v3 v4:Value}(h:Qm w b v0 v1 v2 v3 v4)(u:Value):Qm (w.setCell ⟨b,4,none⟩ u) b v0 v1 v2 v3 u:=by
 obtain⟨h0,h1,h2,h3,h4,hf⟩:=h;exact⟨by simp[World.cell?_setCell_other,h0],by simp[World.cell?_setCell_other,h1],by simp[World.cell?_setCell_other,h2],by simp[World.cell?_setCell_other,h3],by simp[World.cell?_setCell_same,h4],fun i=>by rw[World.frozen?_setCell];exact hf i⟩
theorem Qm.new (w:World)(v0 v1 v2 v3 v4:Value)(t:TypeId):Qm (w.alloc (.cells #[v0,v1,v2,v3,v4] t)) w.heap.size v0 v1 v2 v3 v4:=⟨by simp[go_sem],by simp[go_sem],by simp[go_sem],by simp[go_sem],by simp[go_sem],fun i=>by simp[go_sem]⟩
def dy {E:Type}(R:Rep E)(t:TypeId)(w:World)(S:Nat->Prop)(n:Nat)(l:List E)(e:Ending)(w':World):Prop:=∃A c,e= .returned (.slice A n c)/\Qf R w' w.heap.size t S (.slice A n c) l/\Ext w w'
theorem GC:(Tryz.prog.info? 42).map (fun i=>(i.zero,i.size,i.bytes))=some (some (.agg #[.int .i64 0,.int .i64 0,.int .i64 0,.slice none 0 0,.slice none 0 0]),5,72):=by kernel_rfl
theorem qX:(Tryz.prog.info? 59).map (fun i=>(i.zero,i.size,i.bytes))=some (some (.agg #[.int .i64 0,.int .i64 0,.int .i64 0,.int .i64 0,.slice none 0 0,.slice none 0 0]),6,80):=by kernel_rfl
theorem fk (d:Nat)(w:World)(S:Nat->Prop)(A:Option Addr)(n c:Nat)(l:List Ty)(hl:Sl (tyR d) w S (.slice A n c) l)(hn:n<=1954687338211):
  Calls Tryz.prog 52 #[.slice A n c] w (dy (tyR d) 42 w S n l):=by
 have hz:=fun(w:World) (a:Option Addr) (n c:Nat)=>Lib.run_eql_slice_nil (P:=Tryz.prog) w 25 42 a n c 0 0 Tryz.underlying25;obtain⟨i0,hi,hz0,hz1,hz2⟩:=info_parts GC;have HL:=hid hl;clear hl;rcases A with _|a
 ·obtain rfl:l=[]:=by
   cases l with
   |nil=>rfl
   |cons y ys=>
    obtain⟨b,off,h⟩:=HL.o.at0 (by rw[HL.o.len];simp);cases h
  obtain rfl:n=0:=HL.o.len;go_enter Tryz.func52,Tryz.ntmps52
  go_wp2
  go_ret;exact⟨none,0,rfl,Qf.nil,Ext.refl w⟩
 ·go_enter Tryz.func52,Tryz.ntmps52
  go_wp2_with (at_builtin;refine Yy rfl (.tmp 5) (.tmp 6) 25 rfl w.heap.size 42 i0 _ 5 72 Tryz.underlying25 hi hz0 hz1 hz2 rfl (tyR d) (ZY d) _ [] rfl (Qf.fresh0 (T:=S) w (Nat.le_refl _)) (some a) n c l (fun b=>S b/\b<w.heap.size) rfl ((HL.o.mono (fun b hb h=>⟨hb,h.lt⟩)).ext ((Ext.refl w).alloc _)) (fun _ hb _=>⟨hb.1,Jf hb.2⟩) (by simp;omega) (by simp;omega) (by simp) ?_;intro A' c' W' hown hg hloc;have HO:=hid hown;clear hown;have HG:=hid hg;clear hg;clear hloc)
  go_ret;exact⟨A',c',by simp,by simpa using HO.o,((Ext.refl w).alloc _).grown HG.o (fun k hk=>by rw[xX hk];simp)⟩
theorem fq (d:Nat)(w:World)(S:Nat->Prop)(A:Option Addr)(n c:Nat)(l:List (Int×Ty))(hl:Sl (fdR (tyR d)) w S (.slice A n c) l)(hn:n<=1759218604390):
  Calls Tryz.prog 53 #[.slice A n c] w (dy (fdR (tyR d)) 59 w S n l):=by
 have hz:=fun(w:World) (a:Option Addr) (n c:Nat)=>Lib.run_eql_slice_nil (P:=Tryz.prog) w 40 59 a n c 0 0 Tryz.underlying40;obtain⟨i0,hi,hz0,hz1,hz2⟩:=info_parts qX;have HL:=hid hl;clear hl;rcases A with _|a
 ·obtain rfl:l=[]:=by
   cases l with
   |nil=>rfl
   |cons y ys=>
    obtain⟨b,off,h⟩:=HL.o.at0 (by rw[HL.o.len];simp);cases h
  obtain rfl:n=0:=HL.o.len;go_enter Tryz.func53,Tryz.ntmps53
  go_wp2
  go_ret;exact⟨none,0,rfl,Qf.nil,Ext.refl w⟩
 ·go_enter Tryz.func53,Tryz.ntmps53
  go_wp2_with (at_builtin;refine Yy rfl (.tmp 5) (.tmp 6) 40 rfl w.heap.size 59 i0 _ 6 80 Tryz.underlying40 hi hz0 hz1 hz2 rfl (fdR (tyR d)) (ZJ d) _ [] rfl (Qf.fresh0 (T:=S) w (Nat.le_refl _)) (some a) n c l (fun b=>S b/\b<w.heap.size) rfl ((HL.o.mono (fun b hb h=>⟨hb,h.lt⟩)).ext ((Ext.refl w).alloc _)) (fun _ hb _=>⟨hb.1,Jf hb.2⟩) (by simp;omega) (by simp;omega) (by simp) ?_;intro A' c' W' hown hg hloc;have HO:=hid hown;clear hown;have HG:=hid hg;clear hg;clear hloc)
  go_ret;exact⟨A',c',by simp,by simpa using HO.o,((Ext.refl w).alloc _).grown HG.o (fun k hk=>by rw[xX hk];simp)⟩
def KM (d:Nat)(w:World)(t:Ty)(e:Ending)(w':World):Prop:=∃v,e= .returned v/\TyV d w' (fun b=>w.heap.size<=b) v t/\Ext w w'
theorem qV:∀(d:Nat) (w:World) (t:Ty) (v:Value),TyV d w All v t->bnT t=true->Calls Tryz.prog 68 #[v] w (KM d w t):=by
 intro d
 induction d using Nat.strongRecOn with
 | _ d ih=>
  intro w t v hv hbn;obtain⟨A,na,ca,B,nb,cb,rfl,hE,hF,hb1,hb2,hb3⟩:=hv;have hla:=hE.len;have hlb:=hF.len;obtain⟨hac,ham⟩:=hE.cap;obtain⟨hbc,hbm⟩:=hF.cap;obtain⟨hn1,hn2,hn3,hn4⟩:=uP hbn;have HBD:=hid (And.intro hb1 (And.intro hb2 hb3));obtain⟨tk,ts,tc,te,tf⟩:=t;simp only[Ty.kind,Ty.size,Ty.count,Ty.elem,Ty.fields]at hE hF hla hlb hn1 hn2 hn3 hn4 HBD ⊢;obtain⟨W0,hW0⟩:=Qg ((w.alloc (.cells #[.int .i64 tk,.int .i64 ts,.int .i64 tc,.slice A na ca,.slice B nb cb] 42)).alloc (.cells #[.int .i64 0,.int .i64 0,.int .i64 0,.slice none 0 0,.slice none 0 0] 42));have hE0:Ext w W0:=by rw[<-hW0];exact((Ext.refl w).alloc _).alloc _
  have hs0:W0.heap.size=w.heap.size+2:=by rw[<-hW0];simp
  have hB0:Qm W0 w.heap.size (.int .i64 tk) (.int .i64 ts) (.int .i64 tc) (.slice A na ca) (.slice B nb cb):=by
   rw[<-hW0];exact(Qm.new w _ _ _ _ _ _).ext ((Ext.refl _).alloc _)
  have hR0:Qm W0 (w.heap.size+1) (.int .i64 0) (.int .i64 0) (.int .i64 0) (.slice none 0 0) (.slice none 0 0):=by
   rw[<-hW0];have:=Qm.new (w.alloc (.cells #[.int .i64 tk,.int .i64 ts,.int .i64 tc,.slice A na ca,.slice B nb cb] 42)) (.int .i64 0) (.int .i64 0) (.int .i64 0) (.slice none 0 0) (.slice none 0 0) 42
   rwa [show(w.alloc (.cells #[.int .i64 tk,.int .i64 ts,.int .i64 tc,.slice A na ca,.slice B nb cb] 42)).heap.size=w.heap.size+1 by simp]at this
  have HE:=hid ((hE.mono (S':=fun b=>b<w.heap.size) (fun b _ h=>h.lt)).ext hE0);have HF:=hid (hF.mono (S':=fun b=>b<w.heap.size) (fun b _ h=>h.lt));have HLA:=hid hla;have HLB:=hid hlb;have HE0:=hid hE0;have HS0:=hid hs0;have HIH:=hid ih;have HN3:=hid hn3;have HN4:=hid hn4;have hna6:na<=1954687338211:=by omega
  have hnb6:nb<=1759218604390:=by omega
  have HB0:=hid hB0;have HR0:=hid hR0;obtain⟨q0,q1,q2,q3,q4,qf⟩:=hB0;have f3:=qf 3;have f4:=qf 4;clear hE hF hla hlb hE0 hs0 ih hn1 hn2 hn3 hn4 hbn hb1 hb2 hb3 hR0 qf;go_enter Tryz.func68,Tryz.ntmps68
  go_wp2_with fail
  refine(fk d W0 _ A na ca te HE.o hna6).mono ?_;rintro e w1 ⟨A1,c1,rfl,ho1,hx1⟩;have HX1:=hid hx1;have hT:∀b,(fun b=>b<w.heap.size) b->Z2 w1 b->(fun b=>b<w.heap.size\/w.heap.size+2<=b) b:=fun b hb _=> .inl hb;have HO1:=hid ((ho1.monoT hT).flag (b0:=w.heap.size+2));have HOB:=hid (fun(k:Nat) hk=>(HO1.o.block k hk));have HB1:=hid ((HB0.o.ext hx1).put3 (.slice A1 na c1));have HR1:=hid ((HR0.o.ext hx1).far (p:=⟨w.heap.size,3,none⟩) (u:= .slice A1 na c1) (by simp));have HX2:=hid ((HE0.o.trans hx1).setCell (p:=⟨w.heap.size,3,none⟩) (Nat.le_refl _) (.slice A1 na c1));have HO2:=hid (HO1.o.set_far (p:=⟨w.heap.size,3,none⟩) (u:= .slice A1 na c1) (fun e=>by have h1:W0.heap.size<=w.heap.size:=(HO1.o.block _ e).1;have:=HS0.o;omega) (fun b hb=>by have hb':b<w.heap.size\/w.heap.size+2<=b:=hb;show b≠w.heap.size;omega));have f3:=(hx1.frozen (p:=⟨w.heap.size,3,none⟩) HB0.o.lt).trans f3;have q3:=hx1.cell q3;have q4:=hx1.cell q4;clear hx1 ho1 hT q0 q1 q2 hW0;obtain⟨W2,hW2⟩:=Qg (w1.setCell ⟨w.heap.size,3,none⟩ (.slice A1 na c1));rw[hW2]at HB1 HR1 HX2 HO2;have hsz2:W2.heap.size=w1.heap.size:=by rw[<-hW2];simp
  have HSZ2:=hid hsz2;have HW2:=hid hW2;clear hsz2 hW2 f4;go_upto_region 2 with fail
  rw[HW2.o];clear f3 q3 q4;obtain⟨q0,q1,q2,q3,q4,qf⟩:=HB1.o
  go_wp2
  clear q0 q1 q2 q3 q4
  go_loopw [12] (fun i wr=>∃k:Nat,k<=na/\i= .int .i64 k/\Hid (Qf (flR (tyR d) (w.heap.size+2)) wr W0.heap.size 42 (fun b=>b<w.heap.size\/w.heap.size+2<=b) (.slice A1 na c1) (Vj te k))/\Hid (Ext w wr)/\
   Hid (Qm wr w.heap.size (.int .i64 tk) (.int .i64 ts) (.int .i64 tc) (.slice A1 na c1) (.slice B nb cb))/\Hid (Qm wr (w.heap.size+1) (.int .i64 0) (.int .i64 0) (.int .i64 0) (.slice none 0 0) (.slice none 0 0))) (fun i _=>na - (intOf i).toNat)
  case atStart=>exact⟨0,by omega,rfl,HO2,HX2,HB1,HR1⟩
  case round=>
   obtain⟨k,hk,rfl,HO,HX,HB,HR⟩:=hrel;by_cases h1:k<na
   ·obtain⟨x,hx⟩:∃x,te[k]? =some x:=⟨_,Qq (by have:=HLA.o;omega)⟩;obtain⟨g,rfl,hg1,hg2⟩:=HO.o.at0 (by omega);obtain⟨cs,hr,hcs⟩:=HO.o.cells (JM hx);have hr0:(tyR d).rel wr All cs x:=(tyR d).mono (fun _ _ _=>trivial) hr;rw[show(flR (tyR d) (w.heap.size+2)).size=5 from ZY d]at hcs
    obtain⟨d',hd⟩:∃d',d=d'+1:=by
     cases d with
     |zero=>exact hr0.elim
     |succ d'=>exact⟨d',rfl⟩
    rw[hd]at hr0;obtain⟨_,hv0,hveq⟩:=Xb.1 hr0;obtain⟨A3,n3,c3,B3,m3,e3,rfl,hv0'⟩:=hv0;injection hveq with hveq
    have hcs':cs=[.int .i64 x.kind,.int .i64 x.size,.int .i64 x.count,.slice A3 n3 c3,.slice B3 m3 e3]:=by
     have:=congrArg Array.toList hveq;simpa using this.symm
    subst hcs';have hv1:TyV d' wr All _ x:=⟨A3,n3,c3,B3,m3,e3,rfl,hv0'⟩;obtain⟨y0,g0⟩:=hcs 0 _ rfl;rw[Nat.add_zero]at y0 g0;obtain⟨y1,g1⟩:=hcs 1 _ rfl;obtain⟨y2,g2⟩:=hcs 2 _ rfl;obtain⟨y3,g3⟩:=hcs 3 _ rfl;obtain⟨y4,g4⟩:=hcs 4 _ rfl;have HC:=hid (fun w' (hw:Ext wr w')=>HIH.o d' (by omega) w' x _ (hv1.ext hw) (HN3.o x (Qx hx)));have HXX:=hid hx;have HD:=hid hd;obtain⟨q0,q1,q2,q3,q4,qf⟩:=HB.o;have i1:(0:Int)<=(k:Int):=by omega
    have i2:(k:Int)<(na:Int):=by omega
    have HG:=hid (And.intro hg1 hg2);have hne1:w.heap.size≠g:=by have:=HS0.o;omega
    have hne2:g≠w.heap.size:=by have:=HS0.o;omega
    clear hr hcs hr0 hd hv0' hv1 hx hg1 hg2 hveq qf
    go_wp2_with fail
    refine rgS 10 rfl rfl (Ext.hc6 q3 y0 y1 y2 y3 y4) (Ext.refl _).drew (fun hSg1q0=>?_);refine Qp 0 1 2 3 4 5 ?_;refine QJ 6 7 ?_;refine rgC 8 (fun K hK=>?_);go_simp;go_at_call 68;refine(HC.o _ (Ext.refl wr).drew).mono ?_;rintro e w5 ⟨_,rfl,⟨A5,n5,c5,B5,m5,e5,rfl,hv5⟩,hx5⟩;have HX5:=hid hx5.drew_left;have HV5:=hid hv5;clear hx5 hv5;refine rgK hK ⟨HX5.o.c q3,HX5.o.c y0,HX5.o.c y1,HX5.o.c y2,HX5.o.c y3,HX5.o.c y4⟩ (fun hSg1q1=>?_);clear hK K;refine rgT 9 ?_;refine wpAnyH_done (by kernel_rfl) ?_ _;change wpList _ _ _ _ _ _;have HGE:Hid (w.heap.size+2<=wr.heap.size):=hid (by have:=HG.o;have:=HS0.o;omega)
    have hput:=Qf.put (HO.o.ext HX5.o) (JM HXX.o) (cs:=[.int .i64 x.kind,.int .i64 x.size,.int .i64 x.count,.slice A5 n5 c5,.slice B5 m5 e5]) (e':=(x,true)) (by
     show(tyR d).rel w5 _ _ x;rw[HD.o]
     exact Xb.2 ⟨_,TyV.mono (fun b hb _=>by
      have hb':wr.heap.size<=b:=hb;have:=HG.o;have:=HGE.o;exact⟨⟨.inr (by omega),by omega⟩,fun _=>by omega⟩) ⟨A5,n5,c5,B5,m5,e5,rfl,HV5.o⟩,rfl⟩)
    rw[show(flR (tyR d) (w.heap.size+2)).size=5 from ZY d,jQ HXX.o]at hput;have HPUT:=hid hput;have HXP:=hid (Yf [.int .i64 x.kind,.int .i64 x.size,.int .i64 x.count,.slice A5 n5 c5,.slice B5 m5 e5] g (k * 5) (HX.o.trans HX5.o) (by have:=HG.o;have:=HS0.o;omega));have HBP:=hid ((HB.o.ext HX5.o).row [.int .i64 x.kind,.int .i64 x.size,.int .i64 x.count,.slice A5 n5 c5,.slice B5 m5 e5] (k * 5) hne2);have HRP:=hid ((HR.o.ext HX5.o).row (g:=g) [.int .i64 x.kind,.int .i64 x.size,.int .i64 x.count,.slice A5 n5 c5,.slice B5 m5 e5] (k * 5) (by have:=HG.o;have:=HS0.o;omega));have HFR:Hid (∀(w':World),Ext wr w'->∀i,w'.frozen? ⟨g,i,none⟩=wr.frozen? ⟨g,i,none⟩):=hid (fun w' hw i=>hw.frozen (p:=⟨g,i,none⟩) HG.o.2);have g0:=(HFR.o _ HX5.o _).trans g0;have g1:=(HFR.o _ HX5.o _).trans g1;have g2:=(HFR.o _ HX5.o _).trans g2;have g3:=(HFR.o _ HX5.o _).trans g3;have g4:=(HFR.o _ HX5.o _).trans g4;have y0:=HX5.o.c y0;have y1:=HX5.o.c y1;have y2:=HX5.o.c y2;have y3:=HX5.o.c y3;have y4:=HX5.o.c y4;clear hput q0 q1 q2 q3 q4
    go_wp2
    first
     |go_roundw
     |refine⟨?rel, ?measure⟩
    case rel=>exact⟨k+1,by omega,by go_num,HPUT,HXP,HBP,HRP⟩
    case measure=>simp [intOf];omega
   ·obtain rfl:k=na:=by omega
    have hse:=(HO.o.unflag (b0:=w.heap.size+2) (by have:=HLA.o;omega)).slT (S:=fun b=>w.heap.size+2<=b) (fun b hb=>hb.2) (fun b hb=>by have:=(HO.o.block b hb).1;have:=HS0.o;omega);have HSE:=hid (hse.mono (S':=fun b=>w.heap.size+2<=b/\b<wr.heap.size) fun b hb hi=>⟨hb,hi.lt⟩);have HWS:Hid (w.heap.size+2<=wr.heap.size):=hid (by have:=HR.o.lt;omega);obtain⟨q0,q1,q2,q3,q4,qf⟩:=HB.o;have f4:=qf 4;clear hse qf HO
    go_wp2_with fail
    refine(fq d wr _ B nb cb tf (HF.o.ext HX.o) hnb6).mono ?_;rintro e w6 ⟨A2,c2,rfl,ho6,hx6⟩;have HX6:=hid hx6;have hT:∀b,(fun b=>b<w.heap.size) b->Z2 w6 b->(fun b=>b<w.heap.size\/w.heap.size+2<=b) b:=fun b hb _=> .inl hb;have HO6:=hid ((ho6.monoT hT).flag (b0:=w.heap.size+2));have HB7:=hid ((HB.o.ext hx6).put4 (.slice A2 nb c2));have HR7:=hid ((HR.o.ext hx6).far (p:=⟨w.heap.size,4,none⟩) (u:= .slice A2 nb c2) (by simp));have HX7:=hid ((HX.o.trans hx6).setCell (p:=⟨w.heap.size,4,none⟩) (Nat.le_refl _) (.slice A2 nb c2));have HO7:=hid (HO6.o.set_far (p:=⟨w.heap.size,4,none⟩) (u:= .slice A2 nb c2) (fun e=>by have h1:wr.heap.size<=w.heap.size:=(HO6.o.block _ e).1;have:=HWS.o;omega) (fun b hb=>by have hb':b<w.heap.size\/w.heap.size+2<=b:=hb;show b≠w.heap.size;omega))
    have HK7:Hid (∀b,w.heap.size+2<=b->b<wr.heap.size->(w6.setCell ⟨w.heap.size,4,none⟩ (.slice A2 nb c2)).heap[b]? =wr.heap[b]?):=hid (fun b h1 h2=>by
     rw[Below.heap_setCell _ _ _ _ (by show b≠w.heap.size;omega)];exact hx6.block h2)
    have q3:=hx6.cell q3;have q4:=hx6.cell q4;have f4:=(hx6.frozen (p:=⟨w.heap.size,4,none⟩) HB.o.lt).trans f4;clear hx6 ho6 hT q0 q1 q2;obtain⟨W7,hW7⟩:=Qg (w6.setCell ⟨w.heap.size,4,none⟩ (.slice A2 nb c2));rw[hW7]at HB7 HR7 HX7 HO7 HK7;have HW7:=hid hW7;clear hW7;go_upto_region 8 with fail
    rw[HW7.o];clear f4 q3 q4;obtain⟨q0,q1,q2,q3,q4,qf⟩:=HB7.o
    go_wp2
    clear q0 q1 q2 q3 q4 qf;obtain⟨V,hV⟩:∃V,V=wr:=⟨_,rfl⟩;obtain rfl:=hV
    go_loopw [33] (fun i wr=>∃j:Nat,j<=nb/\i= .int .i64 j/\Hid (Qf (flR (fdR (tyR d)) (w.heap.size+2)) wr V.heap.size 59 (fun b=>b<w.heap.size\/w.heap.size+2<=b) (.slice A2 nb c2) (Vj tf j))/\Hid (Ext w wr)/\
     Hid (Qm wr w.heap.size (.int .i64 tk) (.int .i64 ts) (.int .i64 tc) (.slice A1 k c1) (.slice A2 nb c2))/\Hid (Qm wr (w.heap.size+1) (.int .i64 0) (.int .i64 0) (.int .i64 0) (.slice none 0 0) (.slice none 0 0))/\Hid (∀b,w.heap.size+2<=b->b<V.heap.size->wr.heap[b]? =V.heap[b]?)) (fun i _=>nb - (intOf i).toNat)
    case atStart=>exact⟨0,by omega,rfl,HO7,HX7,HB7,HR7,HK7⟩
    case round=>
     obtain⟨j,hj,rfl,HO,HX,HB,HR,HK⟩:=hrel;by_cases h2:j<nb
     ·obtain⟨x,hx⟩:∃x,tf[j]? =some x:=⟨_,Qq (by have:=HLB.o;omega)⟩;obtain⟨g,rfl,hg1,hg2⟩:=HO.o.at0 (by omega);obtain⟨cs,hr,hcs⟩:=HO.o.cells (JM hx);have hr0:(fdR (tyR d)).rel wr All cs x:=(fdR (tyR d)).mono (fun _ _ _=>trivial) hr;rw[show(flR (fdR (tyR d)) (w.heap.size+2)).size=6 from ZJ d]at hcs
      obtain⟨d',hd⟩:∃d',d=d'+1:=by
       cases d with
       |zero=>obtain⟨r,_,h,_⟩:=hr0;exact h.elim
       |succ d'=>exact⟨d',rfl⟩
      rw[hd]at hr0;obtain⟨A3,n3,c3,B3,m3,e3,hveq,hi0,hv1⟩:=VG.1 hr0;injection hveq with hveq
      have hcs':cs=[.int .i64 x.1,.int .i64 x.2.kind,.int .i64 x.2.size,.int .i64 x.2.count,.slice A3 n3 c3,.slice B3 m3 e3]:=by
       have:=congrArg Array.toList hveq;simpa using this
      subst hcs';obtain⟨yo,go⟩:=hcs 0 _ rfl;rw[Nat.add_zero]at yo go;obtain⟨y0,g0⟩:=hcs 1 _ rfl;obtain⟨y1,g1⟩:=hcs 2 _ rfl;obtain⟨y2,g2⟩:=hcs 3 _ rfl;obtain⟨y3,g3⟩:=hcs 4 _ rfl;obtain⟨y4,g4⟩:=hcs 5 _ rfl;have HC:=hid (fun w' (hw:Ext wr w')=>HIH.o d' (by omega) w' x.2 _ (hv1.ext hw) (HN4.o x (Qx hx)));have HXX:=hid hx;have HD:=hid hd;have HI0:=hid hi0;have HYO:=hid yo;obtain⟨q0,q1,q2,q3,q4,qf⟩:=HB.o;have i1:(0:Int)<=(j:Int):=by omega
      have i2:(j:Int)<(nb:Int):=by omega
      have HG:=hid (And.intro hg1 hg2);have hne1:w.heap.size≠g:=by have:=HWS.o;omega
      have hne2:g≠w.heap.size:=by have:=HWS.o;omega
      clear hr hcs hr0 hd hv1 hx hg1 hg2 hveq qf hi0 yo go
      go_wp2_with fail
      refine rgS 12 rfl rfl (Ext.hc6 q4 y0 y1 y2 y3 y4) (Ext.refl _).drew (fun hSg2q0=>?_);refine Qp 0 1 2 3 4 5 ?_;refine Zd 6 7 8 ?_;refine rgC 9 (fun K hK=>?_);go_simp;go_at_call 68;refine(HC.o _ (Ext.refl wr).drew).mono ?_;rintro e w8 ⟨_,rfl,⟨A5,n5,c5,B5,m5,e5,rfl,hv5⟩,hx8⟩;have HX8:=hid hx8.drew_left;have HV8:=hid hv5;clear hx8 hv5;refine rgK hK ⟨HX8.o.c q4,HX8.o.c y0,HX8.o.c y1,HX8.o.c y2,HX8.o.c y3,HX8.o.c y4⟩ (fun hSg2q1=>?_);clear hK K;refine QJ 10 11 ?_;refine wpAnyH_done (by kernel_rfl) ?_ _;change wpList _ _ _ _ _ _;have HGE:Hid (w.heap.size+2<=wr.heap.size):=hid (by have:=HR.o.lt;omega)
      have hput:=Qf.put2 (HO.o.ext HX8.o) (JM HXX.o) (pre:=[.int .i64 x.1]) (cs:=[.int .i64 x.2.kind,.int .i64 x.2.size,.int .i64 x.2.count,.slice A5 n5 c5,.slice B5 m5 e5]) (e':=(x,true)) (by
       show(fdR (tyR d)).rel w8 _ [.int .i64 x.1,.int .i64 x.2.kind,.int .i64 x.2.size,.int .i64 x.2.count,.slice A5 n5 c5,.slice B5 m5 e5] x;rw[HD.o]
       exact VG.2 ⟨A5,n5,c5,B5,m5,e5,rfl,HI0.o,TyV.mono (fun b hb _=>by
        have hb':wr.heap.size<=b:=hb;have:=HG.o;have:=HGE.o;exact⟨⟨.inr (by omega),by omega⟩,fun _=>by omega⟩) ⟨A5,n5,c5,B5,m5,e5,rfl,HV8.o⟩⟩) (fun i u hu=>by
       have hi:i=0:=by have:=(Qz hu).1;simp at this;omega
       subst hi;simp only[List.getElem?_cons_zero,Option.some.injEq]at hu;subst hu;rw[show(flR (fdR (tyR d)) (w.heap.size+2)).size=6 from ZJ d,Nat.add_zero];exact HX8.o.c HYO.o)
      rw[show(flR (fdR (tyR d)) (w.heap.size+2)).size=6 from ZJ d,jQ HXX.o]at hput;have HPUT:=hid hput;have HXP:=hid (Yf [.int .i64 x.2.kind,.int .i64 x.2.size,.int .i64 x.2.count,.slice A5 n5 c5,.slice B5 m5 e5] g (j * 6+1) (HX.o.trans HX8.o) (by have:=HG.o;have:=HWS.o;omega));have HBP:=hid ((HB.o.ext HX8.o).row [.int .i64 x.2.kind,.int .i64 x.2.size,.int .i64 x.2.count,.slice A5 n5 c5,.slice B5 m5 e5] (j * 6+1) hne2);have HRP:=hid ((HR.o.ext HX8.o).row (g:=g) [.int .i64 x.2.kind,.int .i64 x.2.size,.int .i64 x.2.count,.slice A5 n5 c5,.slice B5 m5 e5] (j * 6+1) (by have:=HG.o;have:=HWS.o;omega))
      have HKP:Hid (∀b,w.heap.size+2<=b->b<V.heap.size->(setRow w8 g (j * 6+1) [.int .i64 x.2.kind,.int .i64 x.2.size,.int .i64 x.2.count,.slice A5 n5 c5,.slice B5 m5 e5]).heap[b]? =V.heap[b]?):=hid (fun b h1 h2=>by
       have:=HG.o;rw[Go.Deco.setRow_heap _ w8 g _ b (by omega),HX8.o.block (by omega)];exact HK.o b h1 h2)
      have HFR:Hid (∀(w':World),Ext wr w'->∀i,w'.frozen? ⟨g,i,none⟩=wr.frozen? ⟨g,i,none⟩):=hid (fun w' hw i=>hw.frozen (p:=⟨g,i,none⟩) HG.o.2);have g0:=(HFR.o _ HX8.o _).trans g0;have g1:=(HFR.o _ HX8.o _).trans g1;have g2:=(HFR.o _ HX8.o _).trans g2;have g3:=(HFR.o _ HX8.o _).trans g3;have g4:=(HFR.o _ HX8.o _).trans g4;have y0:=HX8.o.c y0;have y1:=HX8.o.c y1;have y2:=HX8.o.c y2;have y3:=HX8.o.c y3;have y4:=HX8.o.c y4;clear hput q0 q1 q2 q3 q4
      go_wp2
      first
       |go_roundw
       |refine⟨?rel, ?measure⟩
      case rel=>exact⟨j+1,by omega,by go_num,HPUT,HXP,HBP,HRP,HKP⟩
      case measure=>simp [intOf];omega
     ·obtain rfl:j=nb:=by omega
      have hsf:=(HO.o.unflag (b0:=w.heap.size+2) (by have:=HLB.o;omega)).slT (S:=fun b=>w.heap.size+2<=b) (fun b hb=>hb.2) (fun b hb=>by have:=(HO.o.block b hb).1;have:=HWS.o;omega);have hse:=HSE.o.keep (w':=wr) (fun b hb _=>HK.o b hb.1 hb.2);have HSF:=hid hsf;have HSE2:=hid hse;obtain⟨q0,q1,q2,q3,q4,qf⟩:=HB.o;obtain⟨r0,r1,r2,r3,r4,rf⟩:=HR.o;have u0:=rf 0;have u1:=rf 1;have u2:=rf 2;have u3:=rf 3;have u4:=rf 4;clear hsf hse qf rf
      go_wp2
      refine bodyPost_ret (v:= .agg #[.int .i64 tk,.int .i64 ts,.int .i64 tc,.slice A1 k c1,.slice A2 j c2]) (by simp[results,Tryz.results68,go_sem,World.cell?_setCell_same,World.cell?_setCell_other,r0,r1,r2,r3,r4]) rfl ?_;refine⟨_,rfl,⟨A1,k,c1,A2,j,c2,rfl, ?_, ?_,HBD.o.1,HBD.o.2.1,HBD.o.2.2⟩, ?_⟩
      ·refine(HSE2.o.mono (S':=fun b=>w.heap.size+2<=b) fun b hb _=>hb.1).keep (fun b hb _=>?_) |>.mono (fun b hb _=>by have hb':w.heap.size+2<=b:=hb;show w.heap.size<=b;omega)
       have hb':w.heap.size+2<=b:=hb
       repeat rw[Below.heap_setCell _ _ _ _ (by simp;omega)]
      ·refine HSF.o.keep (fun b hb _=>?_) |>.mono (fun b hb _=>by have hb':w.heap.size+2<=b:=hb;show w.heap.size<=b;omega)
       have hb':w.heap.size+2<=b:=hb
       repeat rw[Below.heap_setCell _ _ _ _ (by simp;omega)]
      ·repeat (first|exact HX.o|refine Ext.setCell ?_ (by simp) _)
theorem Gc (d:Nat)(w:World)(t:Ty)(v:Value)(hv:TyV d w All v t)(hb:bnT t=true)(m:Int)(hm:Qy m):Calls Tryz.prog 95 #[v,.int .i64 m] w (KM (d+1) w (Ty.arr t m)):=by
 have HV:=hid hv;obtain⟨A,na,ca,B,nb,cb,rfl, -⟩:=hv;obtain⟨W0,hW0⟩:=Qg ((w.alloc (.cells #[.int .i64 t.kind,.int .i64 t.size,.int .i64 t.count,.slice A na ca,.slice B nb cb] 42)).alloc (.cells #[.int .i64 0,.int .i64 0,.int .i64 0,.slice none 0 0,.slice none 0 0] 42));have hE0:Ext w W0:=by rw[<-hW0];exact((Ext.refl w).alloc _).alloc _
 have o0:W0.cell? ⟨w.heap.size,0,none⟩=some (.int .i64 t.kind):=by rw[<-hW0];simp[go_sem]
 have o1:W0.cell? ⟨w.heap.size,1,none⟩=some (.int .i64 t.size):=by rw[<-hW0];simp[go_sem]
 have o2:W0.cell? ⟨w.heap.size,2,none⟩=some (.int .i64 t.count):=by rw[<-hW0];simp[go_sem]
 have o3:W0.cell? ⟨w.heap.size,3,none⟩=some (.slice A na ca):=by rw[<-hW0];simp[go_sem]
 have o4:W0.cell? ⟨w.heap.size,4,none⟩=some (.slice B nb cb):=by rw[<-hW0];simp[go_sem]
 have hR0:Qm W0 (w.heap.size+1) (.int .i64 0) (.int .i64 0) (.int .i64 0) (.slice none 0 0) (.slice none 0 0):=by
  rw[<-hW0];have:=Qm.new (w.alloc (.cells #[.int .i64 t.kind,.int .i64 t.size,.int .i64 t.count,.slice A na ca,.slice B nb cb] 42)) (.int .i64 0) (.int .i64 0) (.int .i64 0) (.slice none 0 0) (.slice none 0 0) 42
  rwa [show(w.alloc (.cells #[.int .i64 t.kind,.int .i64 t.size,.int .i64 t.count,.slice A na ca,.slice B nb cb] 42)).heap.size=w.heap.size+1 by simp]at this
 have HE0:=hid hE0;have HR0:=hid hR0;have HC:=hid (qV d W0 t _ (HV.o.ext hE0) hb);have HM:=hid hm;clear hE0 hR0 hm hb;go_enter Tryz.func95,Tryz.ntmps95
 go_wp2_with fail
 refine(HC.o).mono ?_;rintro e w1 ⟨_,rfl,⟨A1,n1,c1,B1,m1,e1,rfl,hv1⟩,hx1⟩;have HX1:=hid hx1;obtain⟨W2,hW2⟩:=Qg (w1.alloc (.cells #[.int .i64 t.kind,.int .i64 t.size,.int .i64 t.count,.slice A1 n1 c1,.slice B1 m1 e1] 42));have hE2:Ext w1 W2:=by rw[<-hW2];exact(Ext.refl _).alloc _
 have hlit:Sl (tyR (d+1)) W2 (fun b=>w.heap.size+2<=b) (.slice (some ⟨w1.heap.size,0,none⟩) 1 1) [t]:=by
  have hsz:w.heap.size+2<=w1.heap.size:=by have:=(HR0.o.ext hx1).lt;omega
  have hrel:(tyR (d+1)).rel w1 (fun b=>W0.heap.size<=b) [.int .i64 t.kind,.int .i64 t.size,.int .i64 t.count,.slice A1 n1 c1,.slice B1 m1 e1] t:=Xb.2 ⟨_,⟨A1,n1,c1,B1,m1,e1,rfl,hv1⟩,rfl⟩;have hs0:w.heap.size+2<=W0.heap.size:=by have:=HR0.o.lt;omega
  rw[<-hW2]
  have ho:Qf (tyR (d+1)) (w1.alloc (.cells #[.int .i64 t.kind,.int .i64 t.size,.int .i64 t.count,.slice A1 n1 c1,.slice B1 m1 e1] 42)) (w.heap.size+2) 42 (fun b=>w.heap.size+2<=b) (.slice (some ⟨w1.heap.size,0,none⟩) 1 1) [t]:=by
   have hl:=World.ownsRow_lit (size:=(tyR (d+1)).size) (e:=42) w1 #[.int .i64 t.kind,.int .i64 t.size,.int .i64 t.count,.slice A1 n1 c1,.slice B1 m1 e1] 1 hsz (by simp[maxLen]) (by rw[ZY];rfl);exact⟨_,by simpa using hl,QD.single ((tyR (d+1)).mono (fun b hb hi=>⟨by have hb':W0.heap.size<=b:=hb.1;omega,Jf hb.2⟩) ((tyR (d+1)).ext ((Ext.refl w1).alloc _) ((tyR (d+1)).mono (S':=fun b=>W0.heap.size<=b/\b<w1.heap.size) (fun b hb hi=>⟨hb,hi.lt⟩) hrel)))⟩
  exact ho.slT (fun b hb=>hb) (fun b hb=>(ho.block b hb).1)
 have HLIT:=hid hlit;have HX2:=hid (HE0.o.trans (hx1.trans hE2));obtain⟨r0,r1,r2,r3,r4,rf⟩:=(HR0.o.ext hx1).ext hE2;have u0:=rf 0;have u1:=rf 1;have u2:=rf 2;have u3:=rf 3;have u4:=rf 4;clear hx1 hE2 hlit rf o0 o1 o2 o3 o4;have hc:=jj r0 r1 r2 r3 r4 (.int .i64 4) (.int .i64 0) (.int .i64 m) (.slice (some ⟨w1.heap.size,0,none⟩) 1 1) (.slice none 0 0);have hh:=fun {k:Nat} (hk:k≠w.heap.size+1)=>Jv W2 (w.heap.size+1) (.int .i64 4) (.int .i64 0) (.int .i64 m) (.slice (some ⟨w1.heap.size,0,none⟩) 1 1) (.slice none 0 0) hk;have hx:=ZD HX2.o (b:=w.heap.size+1) (by omega) (.int .i64 4) (.int .i64 0) (.int .i64 m) (.slice (some ⟨w1.heap.size,0,none⟩) 1 1) (.slice none 0 0);obtain⟨W3,hW3⟩:=Qg (((((W2.setCell ⟨w.heap.size+1,0,none⟩ (.int .i64 4)).setCell ⟨w.heap.size+1,1,none⟩ (.int .i64 0)).setCell ⟨w.heap.size+1,2,none⟩ (.int .i64 m)).setCell ⟨w.heap.size+1,3,none⟩ (.slice (some ⟨w1.heap.size,0,none⟩) 1 1)).setCell ⟨w.heap.size+1,4,none⟩ (.slice none 0 0));rw[hW3]at hc hx;have HH:Hid (∀k,k≠w.heap.size+1->W3.heap[k]? =W2.heap[k]?):=hid (fun k hk=>by rw[<-hW3];exact hh hk);obtain⟨t0,t1,t2,t3,t4⟩:=hc;have HX3:=hid hx;have HW3:=hid hW3;clear hx hW3 hh
 go_wp2
 rw[HW3.o];clear hW2 hW0 r0 r1 r2 r3 r4;refine bodyPost_ret (v:= .agg #[.int .i64 4,.int .i64 0,.int .i64 m,.slice (some ⟨w1.heap.size,0,none⟩) 1 1,.slice none 0 0]) (by simp[results,Tryz.results95,go_sem,t0,t1,t2,t3,t4]) rfl ?_;refine⟨_,rfl,⟨some ⟨w1.heap.size,0,none⟩,1,1,none,0,0,rfl, ?_,Sl.nil,by show Qy 4;unfold Qy;omega,by show Qy 0;unfold Qy;omega,HM.o⟩,HX3.o⟩;exact(HLIT.o.keep (fun b hb _=>HH.o b (by have hb':w.heap.size+2<=b:=hb;omega))).mono fun b hb _=>by have hb':w.heap.size+2<=b:=hb;show w.heap.size<=b;omega
theorem nQ (d:Nat)(w:World)(t:Ty)(v:Value)(hv:TyV d w All v t)(hb:bnT t=true):Calls Tryz.prog 81 #[v] w (KM (d+1) w (Ty.ptr t)):=by
 have HV:=hid hv;obtain⟨A,na,ca,B,nb,cb,rfl, -⟩:=hv;obtain⟨W0,hW0⟩:=Qg ((w.alloc (.cells #[.int .i64 t.kind,.int .i64 t.size,.int .i64 t.count,.slice A na ca,.slice B nb cb] 42)).alloc (.cells #[.int .i64 0,.int .i64 0,.int .i64 0,.slice none 0 0,.slice none 0 0] 42));have hE0:Ext w W0:=by rw[<-hW0];exact((Ext.refl w).alloc _).alloc _
 have o0:W0.cell? ⟨w.heap.size,0,none⟩=some (.int .i64 t.kind):=by rw[<-hW0];simp[go_sem]
 have o1:W0.cell? ⟨w.heap.size,1,none⟩=some (.int .i64 t.size):=by rw[<-hW0];simp[go_sem]
 have o2:W0.cell? ⟨w.heap.size,2,none⟩=some (.int .i64 t.count):=by rw[<-hW0];simp[go_sem]
 have o3:W0.cell? ⟨w.heap.size,3,none⟩=some (.slice A na ca):=by rw[<-hW0];simp[go_sem]
 have o4:W0.cell? ⟨w.heap.size,4,none⟩=some (.slice B nb cb):=by rw[<-hW0];simp[go_sem]
 have hR0:Qm W0 (w.heap.size+1) (.int .i64 0) (.int .i64 0) (.int .i64 0) (.slice none 0 0) (.slice none 0 0):=by
  rw[<-hW0];have:=Qm.new (w.alloc (.cells #[.int .i64 t.kind,.int .i64 t.size,.int .i64 t.count,.slice A na ca,.slice B nb cb] 42)) (.int .i64 0) (.int .i64 0) (.int .i64 0) (.slice none 0 0) (.slice none 0 0) 42
  rwa [show(w.alloc (.cells #[.int .i64 t.kind,.int .i64 t.size,.int .i64 t.count,.slice A na ca,.slice B nb cb] 42)).heap.size=w.heap.size+1 by simp]at this
 have HE0:=hid hE0;have HR0:=hid hR0;have HC:=hid (qV d W0 t _ (HV.o.ext hE0) hb);clear hE0 hR0 hb;go_enter Tryz.func81,Tryz.ntmps81
 go_wp2_with fail
 refine(HC.o).mono ?_;rintro e w1 ⟨_,rfl,⟨A1,n1,c1,B1,m1,e1,rfl,hv1⟩,hx1⟩;have HX1:=hid hx1;obtain⟨W2,hW2⟩:=Qg (w1.alloc (.cells #[.int .i64 t.kind,.int .i64 t.size,.int .i64 t.count,.slice A1 n1 c1,.slice B1 m1 e1] 42));have hE2:Ext w1 W2:=by rw[<-hW2];exact(Ext.refl _).alloc _
 have hlit:Sl (tyR (d+1)) W2 (fun b=>w.heap.size+2<=b) (.slice (some ⟨w1.heap.size,0,none⟩) 1 1) [t]:=by
  have hsz:w.heap.size+2<=w1.heap.size:=by have:=(HR0.o.ext hx1).lt;omega
  have hrel:(tyR (d+1)).rel w1 (fun b=>W0.heap.size<=b) [.int .i64 t.kind,.int .i64 t.size,.int .i64 t.count,.slice A1 n1 c1,.slice B1 m1 e1] t:=Xb.2 ⟨_,⟨A1,n1,c1,B1,m1,e1,rfl,hv1⟩,rfl⟩;have hs0:w.heap.size+2<=W0.heap.size:=by have:=HR0.o.lt;omega
  rw[<-hW2]
  have ho:Qf (tyR (d+1)) (w1.alloc (.cells #[.int .i64 t.kind,.int .i64 t.size,.int .i64 t.count,.slice A1 n1 c1,.slice B1 m1 e1] 42)) (w.heap.size+2) 42 (fun b=>w.heap.size+2<=b) (.slice (some ⟨w1.heap.size,0,none⟩) 1 1) [t]:=by
   have hl:=World.ownsRow_lit (size:=(tyR (d+1)).size) (e:=42) w1 #[.int .i64 t.kind,.int .i64 t.size,.int .i64 t.count,.slice A1 n1 c1,.slice B1 m1 e1] 1 hsz (by simp[maxLen]) (by rw[ZY];rfl);exact⟨_,by simpa using hl,QD.single ((tyR (d+1)).mono (fun b hb hi=>⟨by have hb':W0.heap.size<=b:=hb.1;omega,Jf hb.2⟩) ((tyR (d+1)).ext ((Ext.refl w1).alloc _) ((tyR (d+1)).mono (S':=fun b=>W0.heap.size<=b/\b<w1.heap.size) (fun b hb hi=>⟨hb,hi.lt⟩) hrel)))⟩
  exact ho.slT (fun b hb=>hb) (fun b hb=>(ho.block b hb).1)
 have HLIT:=hid hlit;have HX2:=hid (HE0.o.trans (hx1.trans hE2));obtain⟨r0,r1,r2,r3,r4,rf⟩:=(HR0.o.ext hx1).ext hE2;have u0:=rf 0;have u1:=rf 1;have u2:=rf 2;have u3:=rf 3;have u4:=rf 4;clear hx1 hE2 hlit rf o0 o1 o2 o3 o4;have hc:=jj r0 r1 r2 r3 r4 (.int .i64 3) (.int .i64 0) (.int .i64 0) (.slice (some ⟨w1.heap.size,0,none⟩) 1 1) (.slice none 0 0);have hh:=fun {k:Nat} (hk:k≠w.heap.size+1)=>Jv W2 (w.heap.size+1) (.int .i64 3) (.int .i64 0) (.int .i64 0) (.slice (some ⟨w1.heap.size,0,none⟩) 1 1) (.slice none 0 0) hk;have hx:=ZD HX2.o (b:=w.heap.size+1) (by omega) (.int .i64 3) (.int .i64 0) (.int .i64 0) (.slice (some ⟨w1.heap.size,0,none⟩) 1 1) (.slice none 0 0);obtain⟨W3,hW3⟩:=Qg (((((W2.setCell ⟨w.heap.size+1,0,none⟩ (.int .i64 3)).setCell ⟨w.heap.size+1,1,none⟩ (.int .i64 0)).setCell ⟨w.heap.size+1,2,none⟩ (.int .i64 0)).setCell ⟨w.heap.size+1,3,none⟩ (.slice (some ⟨w1.heap.size,0,none⟩) 1 1)).setCell ⟨w.heap.size+1,4,none⟩ (.slice none 0 0));rw[hW3]at hc hx;have HH:Hid (∀k,k≠w.heap.size+1->W3.heap[k]? =W2.heap[k]?):=hid (fun k hk=>by rw[<-hW3];exact hh hk);obtain⟨t0,t1,t2,t3,t4⟩:=hc;have HX3:=hid hx;have HW3:=hid hW3;clear hx hW3 hh
 go_wp2
 rw[HW3.o];clear hW2 hW0 r0 r1 r2 r3 r4;refine bodyPost_ret (v:= .agg #[.int .i64 3,.int .i64 0,.int .i64 0,.slice (some ⟨w1.heap.size,0,none⟩) 1 1,.slice none 0 0]) (by simp[results,Tryz.results81,go_sem,t0,t1,t2,t3,t4]) rfl ?_;refine⟨_,rfl,⟨some ⟨w1.heap.size,0,none⟩,1,1,none,0,0,rfl, ?_,Sl.nil,by show Qy 3;unfold Qy;omega,by show Qy 0;unfold Qy;omega,by show Qy 0;unfold Qy;omega⟩,HX3.o⟩;exact(HLIT.o.keep (fun b hb _=>HH.o b (by have hb':w.heap.size+2<=b:=hb;omega))).mono fun b hb _=>by have hb':w.heap.size+2<=b:=hb;show w.heap.size<=b;omega
end Go.Proofs.YtlmipgdnlfjpaaaGreat
