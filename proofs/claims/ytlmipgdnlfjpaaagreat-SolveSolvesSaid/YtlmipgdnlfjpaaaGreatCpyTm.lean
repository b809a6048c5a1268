/- Lemmas of mine, merged. -/
import Derived.Test.YtlmipgdnlfjpaaaGreatTyfm
import Derived.Test.YtlmipgdnlfjpaaaGreatSptm
set_option linter.unusedSimpArgs false
set_option linter.unusedVariables false
namespace Go.Proofs.YtlmipgdnlfjpaaaGreat
open Go.RowKit Go.Deco
theorem setRow_size:∀(cs:List Value) (w:World) (g off:Nat),(setRow w g off cs).heap.size=w.heap.size
 |[],_,_,_=>rfl
 |c :: cs,w,g,off=>by rw[setRow,setRow_size cs];simp
theorem iP {E:Type}{R:Rep E}{T:Nat->Prop}{base:Nat}{e:TypeId}{v:Value}{l:List E}{w:World}(h:Qf R w base e T v l):∀(cs:List Value) (g off:Nat),v.ownBlock≠some g->(∀b,T b->b≠g)->Qf R (setRow w g off cs) base e T v l:=by
 intro cs
 induction cs generalizing w with
 |nil=>exact fun _ _ _ _=>h
 |cons c cs ih=>exact fun g off hv hT=>ih (h.set_far (p:=⟨g,off,none⟩) (u:=c) hv hT) g (off+1) hv hT
set_option maxRecDepth 100000 in
set_option maxHeartbeats 8000000 in
theorem pF:∀(d:Nat) (w:World) (t:Ty) (v:Value),TyV d w All v t->bnT t=true->Calls Tryz.prog 30 #[v] w (KM d w t):=by
 intro d
 induction d using Nat.strongRecOn with
 | _ d ih=>
  intro w t v hv hbn;obtain⟨A,na,ca,B,nb,cb,rfl,hE,hF,hb1,hb2,hb3⟩:=hv;have hla:=hE.len;have hlb:=hF.len;obtain⟨hac,ham⟩:=hE.cap;obtain⟨hbc,hbm⟩:=hF.cap;obtain⟨hn1,hn2,hn3,hn4⟩:=uP hbn;have HBD:=hid (And.intro hb1 (And.intro hb2 hb3));obtain⟨tk,ts,tc,te,tf⟩:=t;simp only[Ty.kind,Ty.size,Ty.count,Ty.elem,Ty.fields]at hE hF hla hlb hn1 hn2 hn3 hn4 HBD ⊢;obtain⟨W0,hW0⟩:=Qg ((w.alloc (.cells #[.int .i64 tk,.int .i64 ts,.int .i64 tc,.slice A na ca,.slice B nb cb] 42)).alloc (.cells #[.int .i64 0,.int .i64 0,.int .i64 0,.slice none 0 0,.slice none 0 0] 42));have hE0:Ext w W0:=by rw[<-hW0];exact((Ext.refl w).alloc _).alloc _
  have hs0:W0.heap.size=w.heap.size+2:=by rw[<-hW0];simp
  have hB0:Qm W0 w.heap.size (.int .i64 tk) (.int .i64 ts) (.int .i64 tc) (.slice A na ca) (.slice B nb cb):=by
   rw[<-hW0];exact(Qm.new w _ _ _ _ _ _).ext ((Ext.refl _).alloc _)
  have hR0:Qm W0 (w.heap.size+1) (.int .i64 0) (.int .i64 0) (.int .i64 0) (.slice none 0 0) (.slice none 0 0):=by
   rw[<-hW0];have:=Qm.new (w.alloc (.cells #[.int .i64 tk,.int .i64 ts,.int .i64 tc,.slice A na ca,.slice B nb cb] 42)) (.int .i64 0) (.int .i64 0) (.int .i64 0) (.slice none 0 0) (.slice none 0 0) 42
   rwa [show(w.alloc (.cells #[.int .i64 tk,.int .i64 ts,.int .i64 tc,.slice A na ca,.slice B nb cb] 42)).heap.size=w.heap.size+1 by simp]at this
  have HE:=hid ((hE.mono (S':=fun b=>b<w.heap.size) (fun b _ h=>h.lt)).ext hE0);have HF:=hid ((hF.mono (S':=fun b=>b<w.heap.size) (fun b _ h=>h.lt)).ext hE0);have HLA:=hid hla;have HLB:=hid hlb;have HE0:=hid hE0;have HS0:=hid hs0;have HIH:=hid ih;have HN3:=hid hn3;have HN4:=hid hn4;have hna6:na<=1954687338211:=by omega
  have hnb6:nb<=1759218604390:=by omega
  have HB0:=hid hB0;have HR0:=hid hR0;obtain⟨q0,q1,q2,q3,q4,qf⟩:=hB0;clear hE hF hla hlb hE0 hs0 ih hn1 hn2 hn3 hn4 hbn hb1 hb2 hb3 hR0 qf;go_enter Tryz.func30,Tryz.ntmps30
  go_wp2_with fail
  refine sj 7 (by kernel_rfl) rfl rfl rfl rfl (by kernel_rfl) (by kernel_rfl) (by kernel_rfl) (fun w'=>w'.cell? ⟨w.heap.size,3,none⟩=some (.slice A na ca)/\w'.cell? ⟨w.heap.size,4,none⟩=some (.slice B nb cb)) ⟨q3,q4⟩ (fun hSg1q0=>?_);refine QB 0 1 3 4 ?_;refine rgC 2 (fun K hK=>?_);go_simp;go_at_call 52;refine(fk d _ _ A na ca te (HE.o.ext (Ext.refl W0).drew) hna6).mono ?_;rintro e w1 ⟨A1,c1,rfl,ho1,hx1⟩;have HX1:=hid hx1.drew_left;have HO1:=hid ho1;clear hx1 ho1;refine rgK hK ⟨HX1.o.c q3,HX1.o.c q4⟩ (fun hSg1q1=>?_);clear hK K;refine rgT 6 ?_;refine rgC 5 (fun K hK=>?_);go_simp;go_at_call 53;refine(fq d w1 _ B nb cb tf (HF.o.ext HX1.o) hnb6).mono ?_;rintro e w2 ⟨A2,c2,rfl,ho2,hx2⟩;have HX2:=hid hx2;have HO2:=hid ho2;clear hx2 ho2;refine rgK hK ⟨HX2.o.c (HX1.o.c q3),HX2.o.c (HX1.o.c q4)⟩ (fun hSg1q2=>?_);clear hK K;refine wpAnyH_done (by kernel_rfl) ?_ _;change wpList _ _ _ _ _ _;have HX12:=hid (HX1.o.trans HX2.o);have hB7:=((HB0.o.ext HX12.o).put3 (.slice A1 na c1)).put4 (.slice A2 nb c2);have hR7:=((HR0.o.ext HX12.o).far (p:=⟨w.heap.size,3,none⟩) (u:= .slice A1 na c1) (by simp)).far (p:=⟨w.heap.size,4,none⟩) (u:= .slice A2 nb c2) (by simp);have hX7:=(((HE0.o.trans HX12.o).setCell (p:=⟨w.heap.size,3,none⟩) (Nat.le_refl _) (.slice A1 na c1)).setCell (p:=⟨w.heap.size,4,none⟩) (Nat.le_refl _) (.slice A2 nb c2));have hT:∀b,(fun b=>b<w.heap.size) b->Z2 w2 b->(fun b=>b<w.heap.size\/w2.heap.size<=b) b:=fun b hb _=> .inl hb;have hT2:∀b,(fun b=>b<w.heap.size\/w2.heap.size<=b) b->b<w2.heap.size/\b≠w.heap.size\/w2.heap.size<=b:=fun b hb=>by have h:=HX12.o.size;have h0:=HS0.o;rcases hb with hb|hb <;> omega
  have HG1:Hid (∀g,(Value.slice A1 na c1).ownBlock=some g->w.heap.size+2<=g/\g<w1.heap.size):=hid (fun g hg=>by have h1:W0.heap.size<=g:=(HO1.o.block g hg).1;have h2:=(HO1.o.block g hg).2;have:=HS0.o;omega);have HG2:Hid (∀g,(Value.slice A2 nb c2).ownBlock=some g->w1.heap.size<=g/\g<w2.heap.size):=hid (fun g hg=>⟨(HO2.o.block g hg).1,(HO2.o.block g hg).2⟩);have hfar:∀g,w.heap.size+2<=g->g≠w.heap.size:=fun g hg=>by omega
  have HW12:Hid (w.heap.size+2<=w1.heap.size/\w1.heap.size<=w2.heap.size):=hid (by have:=HX1.o.size;have:=HX2.o.size;have:=HS0.o;omega);have hO7:=(((HO1.o.ext HX2.o).monoT hT).set_far (p:=⟨w.heap.size,3,none⟩) (u:= .slice A1 na c1) (fun e=>absurd rfl (hfar _ (HG1.o _ e).1)) (fun b hb=>by rcases hT2 b hb with h|h;exact h.2;have:=HW12.o;show b≠w.heap.size;omega)).set_far (p:=⟨w.heap.size,4,none⟩) (u:= .slice A2 nb c2) (fun e=>absurd rfl (hfar _ (HG1.o _ e).1)) (fun b hb=>by rcases hT2 b hb with h|h;exact h.2;have:=HW12.o;show b≠w.heap.size;omega);have hF7:=(HO2.o.set_far (p:=⟨w.heap.size,3,none⟩) (u:= .slice A1 na c1) (fun e=>by have:=(HG2.o _ e).1;have:=HW12.o;simp at *;omega) (fun b hb=>by have hb':b<w.heap.size:=hb;show b≠w.heap.size;omega)).set_far (p:=⟨w.heap.size,4,none⟩) (u:= .slice A2 nb c2) (fun e=>by have:=(HG2.o _ e).1;have:=HW12.o;simp at *;omega) (fun b hb=>by have hb':b<w.heap.size:=hb;show b≠w.heap.size;omega);have f3:=(HX12.o.frozen (p:=⟨w.heap.size,3,none⟩) HB0.o.lt).trans (HB0.o.2.2.2.2.2 3);have f4:=(HX12.o.frozen (p:=⟨w.heap.size,4,none⟩) HB0.o.lt).trans (HB0.o.2.2.2.2.2 4);have q3:=HX12.o.c q3;have q4:=HX12.o.c q4;obtain⟨W7,hW7⟩:=Qg ((w2.setCell ⟨w.heap.size,3,none⟩ (.slice A1 na c1)).setCell ⟨w.heap.size,4,none⟩ (.slice A2 nb c2));have HZ7:Hid (W7.heap.size=w2.heap.size):=hid (by rw[<-hW7];simp);rw[hW7]at hB7 hR7 hX7 hO7 hF7;have HB7:=hid hB7;have HR7:=hid hR7;have HX7:=hid hX7;have HO7:=hid (hO7.flag (b0:=w2.heap.size));have HF7:=hid hF7;have HW7:=hid hW7;clear hB7 hR7 hX7 hO7 hF7 hW7 hT hT2 hfar hW0 q0 q1 q2;go_upto_region 2 with fail
  rw[HW7.o];clear f3 f4 q3 q4;obtain⟨q0,q1,q2,q3,q4,qf⟩:=HB7.o
  go_wp2
  clear q0 q1 q2 q3 q4 qf
  go_loopw [16] (fun i wr=>∃k:Nat,k<=na/\i= .int .i64 k/\Hid (Qf (flR (tyR d) w2.heap.size) wr W0.heap.size 42 (fun b=>b<w.heap.size\/w2.heap.size<=b) (.slice A1 na c1) (Vj te k))/\Hid (Qf (fdR (tyR d)) wr w1.heap.size 59 (fun b=>b<w.heap.size) (.slice A2 nb c2) tf)/\Hid (Ext w wr)/\
   Hid (Qm wr w.heap.size (.int .i64 tk) (.int .i64 ts) (.int .i64 tc) (.slice A1 na c1) (.slice A2 nb c2))/\Hid (Qm wr (w.heap.size+1) (.int .i64 0) (.int .i64 0) (.int .i64 0) (.slice none 0 0) (.slice none 0 0))/\Hid (w2.heap.size<=wr.heap.size)) (fun i _=>na - (intOf i).toNat)
  case atStart=>exact⟨0,by omega,rfl,HO7,HF7,HX7,HB7,HR7,hid (by have:=HZ7.o;omega)⟩
  case round=>
   obtain⟨k,hk,rfl,HO,HF,HX,HB,HR,HZ⟩:=hrel;by_cases h1:k<na
   ·obtain⟨x,hx⟩:∃x,te[k]? =some x:=⟨_,Qq (by have:=HLA.o;omega)⟩;obtain⟨g,rfl,hg1,hg2⟩:=HO.o.at0 (by omega);have hgw:=HG1.o g rfl;obtain⟨cs,hr,hcs⟩:=HO.o.cells (JM hx);have hr0:(tyR d).rel wr All cs x:=(tyR d).mono (fun _ _ _=>trivial) hr;rw[show(flR (tyR d) w2.heap.size).size=5 from ZY d]at hcs
    obtain⟨d',hd⟩:∃d',d=d'+1:=by
     cases d with
     |zero=>exact hr0.elim
     |succ d'=>exact⟨d',rfl⟩
    rw[hd]at hr0;obtain⟨_,hv0,hveq⟩:=Xb.1 hr0;obtain⟨A3,n3,c3,B3,m3,e3,rfl,hv0'⟩:=hv0;injection hveq with hveq
    have hcs':cs=[.int .i64 x.kind,.int .i64 x.size,.int .i64 x.count,.slice A3 n3 c3,.slice B3 m3 e3]:=by
     have:=congrArg Array.toList hveq;simpa using this.symm
    subst hcs';have hv1:TyV d' wr All _ x:=⟨A3,n3,c3,B3,m3,e3,rfl,hv0'⟩;obtain⟨y0,g0⟩:=hcs 0 _ rfl;rw[Nat.add_zero]at y0 g0;obtain⟨y1,g1⟩:=hcs 1 _ rfl;obtain⟨y2,g2⟩:=hcs 2 _ rfl;obtain⟨y3,g3⟩:=hcs 3 _ rfl;obtain⟨y4,g4⟩:=hcs 4 _ rfl;have HC:=hid (fun w' (hw:Ext wr w')=>HIH.o d' (by omega) w' x _ (hv1.ext hw) (HN3.o x (Qx hx)));have HXX:=hid hx;have HD:=hid hd;obtain⟨q0,q1,q2,q3,q4,qf⟩:=HB.o;have i1:(0:Int)<=(k:Int):=by omega
    have i2:(k:Int)<(na:Int):=by omega
    have HG:=hid (And.intro hg1 hg2);have HGW:=hid hgw;have hne1:w.heap.size≠g:=by omega
    have hne2:g≠w.heap.size:=by omega
    clear hr hcs hr0 hd hv0' hv1 hx hg1 hg2 hveq qf hgw
    go_wp2_with fail
    refine rgS 10 rfl rfl (Ext.hc6 q3 y0 y1 y2 y3 y4) (Ext.refl _).drew (fun hSg2q0=>?_);refine Qp 0 1 2 3 4 5 ?_;refine QJ 6 7 ?_;refine rgC 8 (fun K hK=>?_);go_simp;go_at_call 30;refine(HC.o _ (Ext.refl wr).drew).mono ?_;rintro e w5 ⟨_,rfl,⟨A5,n5,c5,B5,m5,e5,rfl,hv5⟩,hx5⟩;have HX5:=hid hx5.drew_left;have HV5:=hid hv5;clear hx5 hv5;refine rgK hK ⟨HX5.o.c q3,HX5.o.c y0,HX5.o.c y1,HX5.o.c y2,HX5.o.c y3,HX5.o.c y4⟩ (fun hSg2q1=>?_);clear hK K;refine rgT 9 ?_;refine wpAnyH_done (by kernel_rfl) ?_ _;change wpList _ _ _ _ _ _
    have hput:=Qf.put (HO.o.ext HX5.o) (JM HXX.o) (cs:=[.int .i64 x.kind,.int .i64 x.size,.int .i64 x.count,.slice A5 n5 c5,.slice B5 m5 e5]) (e':=(x,true)) (by
     show(tyR d).rel w5 _ _ x;rw[HD.o]
     exact Xb.2 ⟨_,TyV.mono (fun b hb _=>by
      have hb':wr.heap.size<=b:=hb;have:=HG.o;have:=HZ.o;exact⟨⟨.inr (by omega),by omega⟩,fun _=>by omega⟩) ⟨A5,n5,c5,B5,m5,e5,rfl,HV5.o⟩,rfl⟩)
    rw[show(flR (tyR d) w2.heap.size).size=5 from ZY d,jQ HXX.o]at hput;have HPUT:=hid hput;have HFP:=hid (iP (HF.o.ext HX5.o) [.int .i64 x.kind,.int .i64 x.size,.int .i64 x.count,.slice A5 n5 c5,.slice B5 m5 e5] g (k * 5) (fun e=>by have:=(HG2.o g e).1;have:=HGW.o;omega) (fun b hb=>by have hb':b<w.heap.size:=hb;have:=HGW.o;omega));have HXP:=hid (Yf [.int .i64 x.kind,.int .i64 x.size,.int .i64 x.count,.slice A5 n5 c5,.slice B5 m5 e5] g (k * 5) (HX.o.trans HX5.o) (by have:=HGW.o;omega));have HBP:=hid ((HB.o.ext HX5.o).row [.int .i64 x.kind,.int .i64 x.size,.int .i64 x.count,.slice A5 n5 c5,.slice B5 m5 e5] (k * 5) hne2);have HRP:=hid ((HR.o.ext HX5.o).row (g:=g) [.int .i64 x.kind,.int .i64 x.size,.int .i64 x.count,.slice A5 n5 c5,.slice B5 m5 e5] (k * 5) (by have:=HGW.o;omega));have HZP:Hid (w2.heap.size<=(setRow w5 g (k * 5) [.int .i64 x.kind,.int .i64 x.size,.int .i64 x.count,.slice A5 n5 c5,.slice B5 m5 e5]).heap.size):=hid (by rw[setRow_size];have:=HX5.o.size;have:=HZ.o;omega);have HFR:Hid (∀(w':World),Ext wr w'->∀i,w'.frozen? ⟨g,i,none⟩=wr.frozen? ⟨g,i,none⟩):=hid (fun w' hw i=>hw.frozen (p:=⟨g,i,none⟩) HG.o.2);have g0:=(HFR.o _ HX5.o _).trans g0;have g1:=(HFR.o _ HX5.o _).trans g1;have g2:=(HFR.o _ HX5.o _).trans g2;have g3:=(HFR.o _ HX5.o _).trans g3;have g4:=(HFR.o _ HX5.o _).trans g4;have y0:=HX5.o.c y0;have y1:=HX5.o.c y1;have y2:=HX5.o.c y2;have y3:=HX5.o.c y3;have y4:=HX5.o.c y4;clear hput q0 q1 q2 q3 q4
    go_wp2
    first
     |go_roundw
     |refine⟨?rel, ?measure⟩
    case rel=>exact⟨k+1,by omega,by go_num,HPUT,HFP,HXP,HBP,HRP,HZP⟩
    case measure=>simp [intOf];omega
   ·obtain rfl:k=na:=by omega
    have hse:=(HO.o.unflag (b0:=w2.heap.size) (by have:=HLA.o;omega)).slT (S:=fun b=>(w.heap.size+2<=b/\b<w1.heap.size)\/w2.heap.size<=b) (fun b hb=> .inr hb.2) (fun b hb=> .inl (HG1.o b hb));have HSE:=hid (hse.mono (S':=fun b=>((w.heap.size+2<=b/\b<w1.heap.size)\/w2.heap.size<=b)/\b<wr.heap.size) fun b hb hi=>⟨hb,hi.lt⟩);have hT3:∀b,(fun b=>b<w.heap.size) b->Z2 wr b->(fun b=>b<w.heap.size\/wr.heap.size<=b) b:=fun b hb _=> .inl hb;have HF8:=hid ((HF.o.monoT hT3).flag (b0:=wr.heap.size));obtain⟨q0,q1,q2,q3,q4,qf⟩:=HB.o;clear hse qf HO hT3 HF
    go_wp2
    clear q0 q1 q2 q3 q4;obtain⟨V,hV⟩:∃V,V=wr:=⟨_,rfl⟩;obtain rfl:=hV
    go_loopw [33] (fun i wr=>∃j:Nat,j<=nb/\i= .int .i64 j/\Hid (Qf (flR (fdR (tyR d)) V.heap.size) wr w1.heap.size 59 (fun b=>b<w.heap.size\/V.heap.size<=b) (.slice A2 nb c2) (Vj tf j))/\Hid (Ext w wr)/\
     Hid (Qm wr w.heap.size (.int .i64 tk) (.int .i64 ts) (.int .i64 tc) (.slice A1 k c1) (.slice A2 nb c2))/\Hid (Qm wr (w.heap.size+1) (.int .i64 0) (.int .i64 0) (.int .i64 0) (.slice none 0 0) (.slice none 0 0))/\Hid (∀b,((w.heap.size+2<=b/\b<w1.heap.size)\/w2.heap.size<=b)/\b<V.heap.size->wr.heap[b]? =V.heap[b]?)/\Hid (V.heap.size<=wr.heap.size)) (fun i _=>nb - (intOf i).toNat)
    case atStart=>exact⟨0,by omega,rfl,HF8,HX,HB,HR,hid (fun _ _=>rfl),hid (Nat.le_refl _)⟩
    case round=>
     have HZV:=hid HZ.o;obtain⟨j,hj,rfl,HO,HX,HB,HR,HK,HZ⟩:=hrel;by_cases h2:j<nb
     ·obtain⟨x,hx⟩:∃x,tf[j]? =some x:=⟨_,Qq (by have:=HLB.o;omega)⟩;obtain⟨g,rfl,hg1,hg2⟩:=HO.o.at0 (by omega);have hgw:=HG2.o g rfl;obtain⟨cs,hr,hcs⟩:=HO.o.cells (JM hx);have hr0:(fdR (tyR d)).rel wr All cs x:=(fdR (tyR d)).mono (fun _ _ _=>trivial) hr;rw[show(flR (fdR (tyR d)) V.heap.size).size=6 from ZJ d]at hcs
      obtain⟨d',hd⟩:∃d',d=d'+1:=by
       cases d with
       |zero=>obtain⟨r,_,h,_⟩:=hr0;exact h.elim
       |succ d'=>exact⟨d',rfl⟩
      rw[hd]at hr0;obtain⟨A3,n3,c3,B3,m3,e3,hveq,hi0,hv1⟩:=VG.1 hr0;injection hveq with hveq
      have hcs':cs=[.int .i64 x.1,.int .i64 x.2.kind,.int .i64 x.2.size,.int .i64 x.2.count,.slice A3 n3 c3,.slice B3 m3 e3]:=by
       have:=congrArg Array.toList hveq;simpa using this
      subst hcs';obtain⟨yo,go⟩:=hcs 0 _ rfl;rw[Nat.add_zero]at yo go;obtain⟨y0,g0⟩:=hcs 1 _ rfl;obtain⟨y1,g1⟩:=hcs 2 _ rfl;obtain⟨y2,g2⟩:=hcs 3 _ rfl;obtain⟨y3,g3⟩:=hcs 4 _ rfl;obtain⟨y4,g4⟩:=hcs 5 _ rfl;have HC:=hid (fun w' (hw:Ext wr w')=>HIH.o d' (by omega) w' x.2 _ (hv1.ext hw) (HN4.o x (Qx hx)));have HXX:=hid hx;have HD:=hid hd;have HI0:=hid hi0;have HYO:=hid yo;obtain⟨q0,q1,q2,q3,q4,qf⟩:=HB.o;have i1:(0:Int)<=(j:Int):=by omega
      have i2:(j:Int)<(nb:Int):=by omega
      have HG:=hid (And.intro hg1 hg2);have HGW:=hid hgw;have hne1:w.heap.size≠g:=by have:=HW12.o;omega
      have hne2:g≠w.heap.size:=by have:=HW12.o;omega
      clear hr hcs hr0 hd hv1 hx hg1 hg2 hveq qf hi0 yo go hgw
      go_wp2_with fail
      refine rgS 12 rfl rfl (Ext.hc6 q4 y0 y1 y2 y3 y4) (Ext.refl _).drew (fun hSg3q0=>?_);refine Qp 0 1 2 3 4 5 ?_;refine Zd 6 7 8 ?_;refine rgC 9 (fun K hK=>?_);go_simp;go_at_call 30;refine(HC.o _ (Ext.refl wr).drew).mono ?_;rintro e w8 ⟨_,rfl,⟨A5,n5,c5,B5,m5,e5,rfl,hv5⟩,hx8⟩;have HX8:=hid hx8.drew_left;have HV8:=hid hv5;clear hx8 hv5;refine rgK hK ⟨HX8.o.c q4,HX8.o.c y0,HX8.o.c y1,HX8.o.c y2,HX8.o.c y3,HX8.o.c y4⟩ (fun hSg3q1=>?_);clear hK K;refine QJ 10 11 ?_;refine wpAnyH_done (by kernel_rfl) ?_ _;change wpList _ _ _ _ _ _
      have hput:=Qf.put2 (HO.o.ext HX8.o) (JM HXX.o) (pre:=[.int .i64 x.1]) (cs:=[.int .i64 x.2.kind,.int .i64 x.2.size,.int .i64 x.2.count,.slice A5 n5 c5,.slice B5 m5 e5]) (e':=(x,true)) (by
       show(fdR (tyR d)).rel w8 _ [.int .i64 x.1,.int .i64 x.2.kind,.int .i64 x.2.size,.int .i64 x.2.count,.slice A5 n5 c5,.slice B5 m5 e5] x;rw[HD.o]
       exact VG.2 ⟨A5,n5,c5,B5,m5,e5,rfl,HI0.o,TyV.mono (fun b hb _=>by
        have hb':wr.heap.size<=b:=hb;have:=HG.o;have:=HZ.o;exact⟨⟨.inr (by omega),by omega⟩,fun _=>by omega⟩) ⟨A5,n5,c5,B5,m5,e5,rfl,HV8.o⟩⟩) (fun i u hu=>by
       have hi:i=0:=by have:=(Qz hu).1;simp at this;omega
       subst hi;simp only[List.getElem?_cons_zero,Option.some.injEq]at hu;subst hu;rw[show(flR (fdR (tyR d)) V.heap.size).size=6 from ZJ d,Nat.add_zero];exact HX8.o.c HYO.o)
      rw[show(flR (fdR (tyR d)) V.heap.size).size=6 from ZJ d,jQ HXX.o]at hput;have HPUT:=hid hput;have HXP:=hid (Yf [.int .i64 x.2.kind,.int .i64 x.2.size,.int .i64 x.2.count,.slice A5 n5 c5,.slice B5 m5 e5] g (j * 6+1) (HX.o.trans HX8.o) (by have:=HGW.o;have:=HW12.o;omega));have HBP:=hid ((HB.o.ext HX8.o).row [.int .i64 x.2.kind,.int .i64 x.2.size,.int .i64 x.2.count,.slice A5 n5 c5,.slice B5 m5 e5] (j * 6+1) hne2);have HRP:=hid ((HR.o.ext HX8.o).row (g:=g) [.int .i64 x.2.kind,.int .i64 x.2.size,.int .i64 x.2.count,.slice A5 n5 c5,.slice B5 m5 e5] (j * 6+1) (by have:=HGW.o;have:=HW12.o;omega))
      have HKP:Hid (∀b,((w.heap.size+2<=b/\b<w1.heap.size)\/w2.heap.size<=b)/\b<V.heap.size->(setRow w8 g (j * 6+1) [.int .i64 x.2.kind,.int .i64 x.2.size,.int .i64 x.2.count,.slice A5 n5 c5,.slice B5 m5 e5]).heap[b]? =V.heap[b]?):=hid (fun b hb=>by
       have:=HGW.o;have:=HZ.o;rw[Go.Deco.setRow_heap _ w8 g _ b (by omega),HX8.o.block (by omega)];exact HK.o b hb)
      have HZP:Hid (V.heap.size<=(setRow w8 g (j * 6+1) [.int .i64 x.2.kind,.int .i64 x.2.size,.int .i64 x.2.count,.slice A5 n5 c5,.slice B5 m5 e5]).heap.size):=hid (by rw[setRow_size];have:=HX8.o.size;have:=HZ.o;omega);have HFR:Hid (∀(w':World),Ext wr w'->∀i,w'.frozen? ⟨g,i,none⟩=wr.frozen? ⟨g,i,none⟩):=hid (fun w' hw i=>hw.frozen (p:=⟨g,i,none⟩) HG.o.2);have g0:=(HFR.o _ HX8.o _).trans g0;have g1:=(HFR.o _ HX8.o _).trans g1;have g2:=(HFR.o _ HX8.o _).trans g2;have g3:=(HFR.o _ HX8.o _).trans g3;have g4:=(HFR.o _ HX8.o _).trans g4;have y0:=HX8.o.c y0;have y1:=HX8.o.c y1;have y2:=HX8.o.c y2;have y3:=HX8.o.c y3;have y4:=HX8.o.c y4;clear hput q0 q1 q2 q3 q4
      go_wp2
      first
       |go_roundw
       |refine⟨?rel, ?measure⟩
      case rel=>exact⟨j+1,by omega,by go_num,HPUT,HXP,HBP,HRP,HKP,HZP⟩
      case measure=>simp [intOf];omega
     ·obtain rfl:j=nb:=by omega
      have hsf:=(HO.o.unflag (b0:=V.heap.size) (by have:=HLB.o;omega)).slT (S:=fun b=>w.heap.size+2<=b) (fun b hb=>by have:=HZV.o;have:=HW12.o;have h:V.heap.size<=b:=hb.2;omega) (fun b hb=>by have:=(HG2.o b hb).1;have:=HW12.o;omega);have hse:=HSE.o.keep (w':=wr) (fun b hb _=>HK.o b hb);have HSF:=hid hsf;have HSE2:=hid (hse.mono (S':=fun b=>w.heap.size+2<=b) (fun b hb _=>by have:=HW12.o;rcases hb.1 with h|h <;> omega));obtain⟨q0,q1,q2,q3,q4,qf⟩:=HB.o;obtain⟨r0,r1,r2,r3,r4,rf⟩:=HR.o;have u0:=rf 0;have u1:=rf 1;have u2:=rf 2;have u3:=rf 3;have u4:=rf 4;clear hsf hse qf rf
      go_wp2
      refine bodyPost_ret (v:= .agg #[.int .i64 tk,.int .i64 ts,.int .i64 tc,.slice A1 k c1,.slice A2 j c2]) (by simp[results,Tryz.results30,go_sem,World.cell?_setCell_same,World.cell?_setCell_other,r0,r1,r2,r3,r4]) rfl ?_;refine⟨_,rfl,⟨A1,k,c1,A2,j,c2,rfl, ?_, ?_,HBD.o.1,HBD.o.2.1,HBD.o.2.2⟩, ?_⟩
      ·refine HSE2.o.keep (fun b hb _=>?_) |>.mono (fun b hb _=>by have hb':w.heap.size+2<=b:=hb;show w.heap.size<=b;omega)
       have hb':w.heap.size+2<=b:=hb
       repeat rw[Below.heap_setCell _ _ _ _ (by simp;omega)]
      ·refine HSF.o.keep (fun b hb _=>?_) |>.mono (fun b hb _=>by have hb':w.heap.size+2<=b:=hb;show w.heap.size<=b;omega)
       have hb':w.heap.size+2<=b:=hb
       repeat rw[Below.heap_setCell _ _ _ _ (by simp;omega)]
      ·repeat (first|exact HX.o|refine Ext.setCell ?_ (by simp) _)
end Go.Proofs.YtlmipgdnlfjpaaaGreat
