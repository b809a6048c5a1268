/- Merged by program from texts of my own. -/
import Derived.Test.YtlmipgdnlfjpaaaGreatTyfm
import Derived.Test.YtlmipgdnlfjpaaaGreatSptm
namespace Go.Proofs.YtlmipgdnlfjpaaaGreat
open Go.RowKit Go.Deco
set_option linter.unusedSimpArgs false
set_option linter.unusedVariables false
theorem setRow_size:∀(cs:List Value) (w:World) (g off:Nat),(setRow w g off cs).heap.size=w.heap.size
 |[],_,_,_=>rfl
 |c :: cs,w,g,off=>by rw[setRow,setRow_size cs];simp
theorem ownS_row {E:Type}{R:Rep E}{T:Nat→Prop}{base:Nat}{e:TypeId}{v:Value}{l:List E}{w:World}(h:OwnS R w base e T v l):∀(cs:List Value) (g off:Nat),v.ownBlock≠some g→(∀b,T b→b≠g)→OwnS R (setRow w g off cs) base e T v l:=by
 intro cs
 induction cs generalizing w with
 |nil=>exact fun _ _ _ _=>h
 |cons c cs ih=>exact fun g off hv hT=>ih (h.set_far (p:=⟨g,off,none⟩) (u:=c) hv hT) g (off+1) hv hT
set_option maxRecDepth 100000 in
set_option maxHeartbeats 8000000 in
theorem copy_any:∀(d:Nat) (w:World) (t:Ty) (v:Value),TyV d w All v t→bnT t=true→Calls Tryz.prog 30 #[v] w (TyOut d w t):=by
 intro d
 induction d using Nat.strongRecOn with
 | _ d ih=>
  intro w t v hv hbn;obtain⟨A,na,ca,B,nb,cb,rfl,hE,hF,hb1,hb2,hb3⟩:=hv;have hla:=hE.len;have hlb:=hF.len;obtain⟨hac,ham⟩:=hE.cap;obtain⟨hbc,hbm⟩:=hF.cap;obtain⟨hn1,hn2,hn3,hn4⟩:=bnT_parts hbn;have HBD:=hid (And.intro hb1 (And.intro hb2 hb3));obtain⟨tk,ts,tc,te,tf⟩:=t;simp only[Ty.kind,Ty.size,Ty.count,Ty.elem,Ty.fields]at hE hF hla hlb hn1 hn2 hn3 hn4 HBD ⊢;obtain⟨W0,hW0⟩:∃W0,(w.alloc (.cells #[.int .i64 tk,.int .i64 ts,.int .i64 tc,.slice A na ca,.slice B nb cb] 42)).alloc (.cells #[.int .i64 0,.int .i64 0,.int .i64 0,.slice none 0 0,.slice none 0 0] 42)=W0:=⟨_,rfl⟩;have hE0:Ext w W0:=by rw[←hW0];exact((Ext.refl w).alloc _).alloc _
  have hs0:W0.heap.size=w.heap.size+2:=by rw[←hW0];simp
  have hB0:Box5 W0 w.heap.size (.int .i64 tk) (.int .i64 ts) (.int .i64 tc) (.slice A na ca) (.slice B nb cb):=by
   rw[←hW0];exact(Box5.new w _ _ _ _ _ _).ext ((Ext.refl _).alloc _)
  have hR0:Box5 W0 (w.heap.size+1) (.int .i64 0) (.int .i64 0) (.int .i64 0) (.slice none 0 0) (.slice none 0 0):=by
   rw[←hW0];have:=Box5.new (w.alloc (.cells #[.int .i64 tk,.int .i64 ts,.int .i64 tc,.slice A na ca,.slice B nb cb] 42)) (.int .i64 0) (.int .i64 0) (.int .i64 0) (.slice none 0 0) (.slice none 0 0) 42
   rwa [show(w.alloc (.cells #[.int .i64 tk,.int .i64 ts,.int .i64 tc,.slice A na ca,.slice B nb cb] 42)).heap.size=w.heap.size+1 by simp]at this
  have HE:=hid ((hE.mono (S':=fun b=>b<w.heap.size) (fun b _ h=>h.lt)).ext hE0);have HF:=hid ((hF.mono (S':=fun b=>b<w.heap.size) (fun b _ h=>h.lt)).ext hE0);have HLA:=hid hla;have HLB:=hid hlb;have HE0:=hid hE0;have HS0:=hid hs0;have HIH:=hid ih;have HN3:=hid hn3;have HN4:=hid hn4;have hna6:na≤1954687338211:=by omega
  have hnb6:nb≤1759218604390:=by omega
  have HB0:=hid hB0;have HR0:=hid hR0;obtain⟨q0,q1,q2,q3,q4,qf⟩:=hB0;clear hE hF hla hlb hE0 hs0 ih hn1 hn2 hn3 hn4 hbn hb1 hb2 hb3 hR0 qf;go_enter Tryz.func30,Tryz.ntmps30
  go_wp2_with fail
  refine wp_region_split3 7 (by kernel_rfl) rfl rfl rfl rfl (by kernel_rfl) (by kernel_rfl) (by kernel_rfl) (fun w'=>w'.cell? ⟨w.heap.size,3,none⟩=some (.slice A na ca)∧w'.cell? ⟨w.heap.size,4,none⟩=some (.slice B nb cb)) ⟨q3,q4⟩ (fun hSg1q0=>?_);refine rgT4 0 1 3 4 ?_;refine rgC 2 (fun K hK=>?_);go_simp;go_at_call 52;refine(clonety_any d _ _ A na ca te (HE.out.ext (Ext.refl W0).drew) hna6).mono ?_;rintro e w1 ⟨A1,c1,rfl,ho1,hx1⟩;have HX1:=hid hx1.drew_left;have HO1:=hid ho1;clear hx1 ho1;refine rgK hK ⟨HX1.out.cell q3,HX1.out.cell q4⟩ (fun hSg1q1=>?_);clear hK K;refine rgT 6 ?_;refine rgC 5 (fun K hK=>?_);go_simp;go_at_call 53;refine(clonefd_any d w1 _ B nb cb tf (HF.out.ext HX1.out) hnb6).mono ?_;rintro e w2 ⟨A2,c2,rfl,ho2,hx2⟩;have HX2:=hid hx2;have HO2:=hid ho2;clear hx2 ho2;refine rgK hK ⟨HX2.out.cell (HX1.out.cell q3),HX2.out.cell (HX1.out.cell q4)⟩ (fun hSg1q2=>?_);clear hK K;refine wpAnyH_done (by kernel_rfl) ?_ _;change wpList _ _ _ _ _ _;have HX12:=hid (HX1.out.trans HX2.out);have hB7:=((HB0.out.ext HX12.out).put3 (.slice A1 na c1)).put4 (.slice A2 nb c2);have hR7:=((HR0.out.ext HX12.out).far (p:=⟨w.heap.size,3,none⟩) (u:= .slice A1 na c1) (by simp)).far (p:=⟨w.heap.size,4,none⟩) (u:= .slice A2 nb c2) (by simp);have hX7:=(((HE0.out.trans HX12.out).setCell (p:=⟨w.heap.size,3,none⟩) (Nat.le_refl _) (.slice A1 na c1)).setCell (p:=⟨w.heap.size,4,none⟩) (Nat.le_refl _) (.slice A2 nb c2));have hT:∀b,(fun b=>b<w.heap.size) b→IsCells w2 b→(fun b=>b<w.heap.size∨w2.heap.size≤b) b:=fun b hb _=> .inl hb;have hT2:∀b,(fun b=>b<w.heap.size∨w2.heap.size≤b) b→b<w2.heap.size∧b≠w.heap.size∨w2.heap.size≤b:=fun b hb=>by have h:=HX12.out.size;have h0:=HS0.out;rcases hb with hb|hb <;> omega
  have HG1:Hid (∀g,(Value.slice A1 na c1).ownBlock=some g→w.heap.size+2≤g∧g<w1.heap.size):=hid (fun g hg=>by have h1:W0.heap.size≤g:=(HO1.out.block g hg).1;have h2:=(HO1.out.block g hg).2;have:=HS0.out;omega);have HG2:Hid (∀g,(Value.slice A2 nb c2).ownBlock=some g→w1.heap.size≤g∧g<w2.heap.size):=hid (fun g hg=>⟨(HO2.out.block g hg).1,(HO2.out.block g hg).2⟩);have hfar:∀g,w.heap.size+2≤g→g≠w.heap.size:=fun g hg=>by omega
  have HW12:Hid (w.heap.size+2≤w1.heap.size∧w1.heap.size≤w2.heap.size):=hid (by have:=HX1.out.size;have:=HX2.out.size;have:=HS0.out;omega);have hO7:=(((HO1.out.ext HX2.out).monoT hT).set_far (p:=⟨w.heap.size,3,none⟩) (u:= .slice A1 na c1) (fun e=>absurd rfl (hfar _ (HG1.out _ e).1)) (fun b hb=>by rcases hT2 b hb with h|h;exact h.2;have:=HW12.out;show b≠w.heap.size;omega)).set_far (p:=⟨w.heap.size,4,none⟩) (u:= .slice A2 nb c2) (fun e=>absurd rfl (hfar _ (HG1.out _ e).1)) (fun b hb=>by rcases hT2 b hb with h|h;exact h.2;have:=HW12.out;show b≠w.heap.size;omega);have hF7:=(HO2.out.set_far (p:=⟨w.heap.size,3,none⟩) (u:= .slice A1 na c1) (fun e=>by have:=(HG2.out _ e).1;have:=HW12.out;simp at *;omega) (fun b hb=>by have hb':b<w.heap.size:=hb;show b≠w.heap.size;omega)).set_far (p:=⟨w.heap.size,4,none⟩) (u:= .slice A2 nb c2) (fun e=>by have:=(HG2.out _ e).1;have:=HW12.out;simp at *;omega) (fun b hb=>by have hb':b<w.heap.size:=hb;show b≠w.heap.size;omega);have f3:=(HX12.out.frozen (p:=⟨w.heap.size,3,none⟩) HB0.out.lt).trans (HB0.out.2.2.2.2.2 3);have f4:=(HX12.out.frozen (p:=⟨w.heap.size,4,none⟩) HB0.out.lt).trans (HB0.out.2.2.2.2.2 4);have q3:=HX12.out.cell q3;have q4:=HX12.out.cell q4;obtain⟨W7,hW7⟩:∃W7,(w2.setCell ⟨w.heap.size,3,none⟩ (.slice A1 na c1)).setCell ⟨w.heap.size,4,none⟩ (.slice A2 nb c2)=W7:=⟨_,rfl⟩;have HZ7:Hid (W7.heap.size=w2.heap.size):=hid (by rw[←hW7];simp);rw[hW7]at hB7 hR7 hX7 hO7 hF7;have HB7:=hid hB7;have HR7:=hid hR7;have HX7:=hid hX7;have HO7:=hid (hO7.flag (b0:=w2.heap.size));have HF7:=hid hF7;have HW7:=hid hW7;clear hB7 hR7 hX7 hO7 hF7 hW7 hT hT2 hfar hW0 q0 q1 q2;go_upto_region 2 with fail
  rw[HW7.out];clear f3 f4 q3 q4;obtain⟨q0,q1,q2,q3,q4,qf⟩:=HB7.out
  go_wp2
  clear q0 q1 q2 q3 q4 qf
  go_loopw [16] (fun i wr=>∃k:Nat,k≤na∧i= .int .i64 k∧Hid (OwnS (flR (tyR d) w2.heap.size) wr W0.heap.size 42 (fun b=>b<w.heap.size∨w2.heap.size≤b) (.slice A1 na c1) (flagL te k))∧Hid (OwnS (fdR (tyR d)) wr w1.heap.size 59 (fun b=>b<w.heap.size) (.slice A2 nb c2) tf)∧Hid (Ext w wr)∧
   Hid (Box5 wr w.heap.size (.int .i64 tk) (.int .i64 ts) (.int .i64 tc) (.slice A1 na c1) (.slice A2 nb c2))∧Hid (Box5 wr (w.heap.size+1) (.int .i64 0) (.int .i64 0) (.int .i64 0) (.slice none 0 0) (.slice none 0 0))∧Hid (w2.heap.size≤wr.heap.size)) (fun i _=>na - (intOf i).toNat)
  case atStart=>exact⟨0,by omega,rfl,HO7,HF7,HX7,HB7,HR7,hid (by have:=HZ7.out;omega)⟩
  case round=>
   obtain⟨k,hk,rfl,HO,HF,HX,HB,HR,HZ⟩:=hrel;by_cases h1:k<na
   ·obtain⟨x,hx⟩:∃x,te[k]? =some x:=⟨_,List.getElem?_eq_getElem (by have:=HLA.out;omega)⟩;obtain⟨g,rfl,hg1,hg2⟩:=HO.out.at0 (by omega);have hgw:=HG1.out g rfl;obtain⟨cs,hr,hcs⟩:=HO.out.cells (flagL_at hx);have hr0:(tyR d).rel wr All cs x:=(tyR d).mono (fun _ _ _=>trivial) hr;rw[show(flR (tyR d) w2.heap.size).size=5 from tyR_size d]at hcs
    obtain⟨d',hd⟩:∃d',d=d'+1:=by
     cases d with
     |zero=>exact hr0.elim
     |succ d'=>exact⟨d',rfl⟩
    rw[hd]at hr0;obtain⟨_,hv0,hveq⟩:=ty_rel.1 hr0;obtain⟨A3,n3,c3,B3,m3,e3,rfl,hv0'⟩:=hv0;injection hveq with hveq
    have hcs':cs=[.int .i64 x.kind,.int .i64 x.size,.int .i64 x.count,.slice A3 n3 c3,.slice B3 m3 e3]:=by
     have:=congrArg Array.toList hveq;simpa using this.symm
    subst hcs';have hv1:TyV d' wr All _ x:=⟨A3,n3,c3,B3,m3,e3,rfl,hv0'⟩;obtain⟨y0,g0⟩:=hcs 0 _ rfl;rw[Nat.add_zero]at y0 g0;obtain⟨y1,g1⟩:=hcs 1 _ rfl;obtain⟨y2,g2⟩:=hcs 2 _ rfl;obtain⟨y3,g3⟩:=hcs 3 _ rfl;obtain⟨y4,g4⟩:=hcs 4 _ rfl;have HC:=hid (fun w' (hw:Ext wr w')=>HIH.out d' (by omega) w' x _ (hv1.ext hw) (HN3.out x (List.mem_of_getElem? hx)));have HXX:=hid hx;have HD:=hid hd;obtain⟨q0,q1,q2,q3,q4,qf⟩:=HB.out;have i1:(0:Int)≤(k:Int):=by omega
    have i2:(k:Int)<(na:Int):=by omega
    have HG:=hid (And.intro hg1 hg2);have HGW:=hid hgw;have hne1:w.heap.size≠g:=by omega
    have hne2:g≠w.heap.size:=by omega
    clear hr hcs hr0 hd hv0' hv1 hx hg1 hg2 hveq qf hgw
    go_wp2_with fail
    refine wp_region_split 10 (by kernel_rfl) rfl rfl (by kernel_rfl) (fun w'=>w'.cell? ⟨w.heap.size,3,none⟩=some (.slice (some ⟨g,0,none⟩) na c1)∧w'.cell? ⟨g,k * 5,none⟩=some (.int .i64 x.kind)∧w'.cell? ⟨g,k * 5+1,none⟩=some (.int .i64 x.size)∧w'.cell? ⟨g,k * 5+2,none⟩=some (.int .i64 x.count)∧w'.cell? ⟨g,k * 5+3,none⟩=some (.slice A3 n3 c3)∧w'.cell? ⟨g,k * 5+4,none⟩=some (.slice B3 m3 e3)) ⟨q3,y0,y1,y2,y3,y4⟩ (fun hSg2q0=>?_);refine rgT6 0 1 2 3 4 5 ?_;refine rgT2 6 7 ?_;refine rgC 8 (fun K hK=>?_);go_simp;go_at_call 30;refine(HC.out _ (Ext.refl wr).drew).mono ?_;rintro e w5 ⟨_,rfl,⟨A5,n5,c5,B5,m5,e5,rfl,hv5⟩,hx5⟩;have HX5:=hid hx5.drew_left;have HV5:=hid hv5;clear hx5 hv5;refine rgK hK ⟨HX5.out.cell q3,HX5.out.cell y0,HX5.out.cell y1,HX5.out.cell y2,HX5.out.cell y3,HX5.out.cell y4⟩ (fun hSg2q1=>?_);clear hK K;refine rgT 9 ?_;refine wpAnyH_done (by kernel_rfl) ?_ _;change wpList _ _ _ _ _ _
    have hput:=OwnS.put (HO.out.ext HX5.out) (flagL_at HXX.out) (cs:=[.int .i64 x.kind,.int .i64 x.size,.int .i64 x.count,.slice A5 n5 c5,.slice B5 m5 e5]) (e':=(x,true)) (by
     show(tyR d).rel w5 _ _ x;rw[HD.out]
     exact ty_rel.2 ⟨_,TyV.mono (fun b hb _=>by
      have hb':wr.heap.size≤b:=hb;have:=HG.out;have:=HZ.out;exact⟨⟨.inr (by omega),by omega⟩,fun _=>by omega⟩) ⟨A5,n5,c5,B5,m5,e5,rfl,HV5.out⟩,rfl⟩)
    rw[show(flR (tyR d) w2.heap.size).size=5 from tyR_size d,flagL_set HXX.out]at hput;have HPUT:=hid hput;have HFP:=hid (ownS_row (HF.out.ext HX5.out) [.int .i64 x.kind,.int .i64 x.size,.int .i64 x.count,.slice A5 n5 c5,.slice B5 m5 e5] g (k * 5) (fun e=>by have:=(HG2.out g e).1;have:=HGW.out;omega) (fun b hb=>by have hb':b<w.heap.size:=hb;have:=HGW.out;omega));have HXP:=hid (setRow_ext [.int .i64 x.kind,.int .i64 x.size,.int .i64 x.count,.slice A5 n5 c5,.slice B5 m5 e5] g (k * 5) (HX.out.trans HX5.out) (by have:=HGW.out;omega));have HBP:=hid ((HB.out.ext HX5.out).row [.int .i64 x.kind,.int .i64 x.size,.int .i64 x.count,.slice A5 n5 c5,.slice B5 m5 e5] (k * 5) hne2);have HRP:=hid ((HR.out.ext HX5.out).row (g:=g) [.int .i64 x.kind,.int .i64 x.size,.int .i64 x.count,.slice A5 n5 c5,.slice B5 m5 e5] (k * 5) (by have:=HGW.out;omega));have HZP:Hid (w2.heap.size≤(setRow w5 g (k * 5) [.int .i64 x.kind,.int .i64 x.size,.int .i64 x.count,.slice A5 n5 c5,.slice B5 m5 e5]).heap.size):=hid (by rw[setRow_size];have:=HX5.out.size;have:=HZ.out;omega);have HFR:Hid (∀(w':World),Ext wr w'→∀i,w'.frozen? ⟨g,i,none⟩=wr.frozen? ⟨g,i,none⟩):=hid (fun w' hw i=>hw.frozen (p:=⟨g,i,none⟩) HG.out.2);have g0:=(HFR.out _ HX5.out _).trans g0;have g1:=(HFR.out _ HX5.out _).trans g1;have g2:=(HFR.out _ HX5.out _).trans g2;have g3:=(HFR.out _ HX5.out _).trans g3;have g4:=(HFR.out _ HX5.out _).trans g4;have y0:=HX5.out.cell y0;have y1:=HX5.out.cell y1;have y2:=HX5.out.cell y2;have y3:=HX5.out.cell y3;have y4:=HX5.out.cell y4;clear hput q0 q1 q2 q3 q4
    go_wp2
    first
     |go_roundw
     |refine⟨?rel, ?measure⟩
    case rel=>exact⟨k+1,by omega,by go_num,HPUT,HFP,HXP,HBP,HRP,HZP⟩
    case measure=>simp [intOf];omega
   ·obtain rfl:k=na:=by omega
    have hse:=(HO.out.unflag (b0:=w2.heap.size) (by have:=HLA.out;omega)).slT (S:=fun b=>(w.heap.size+2≤b∧b<w1.heap.size)∨w2.heap.size≤b) (fun b hb=> .inr hb.2) (fun b hb=> .inl (HG1.out b hb));have HSE:=hid (hse.mono (S':=fun b=>((w.heap.size+2≤b∧b<w1.heap.size)∨w2.heap.size≤b)∧b<wr.heap.size) fun b hb hi=>⟨hb,hi.lt⟩);have hT3:∀b,(fun b=>b<w.heap.size) b→IsCells wr b→(fun b=>b<w.heap.size∨wr.heap.size≤b) b:=fun b hb _=> .inl hb;have HF8:=hid ((HF.out.monoT hT3).flag (b0:=wr.heap.size));obtain⟨q0,q1,q2,q3,q4,qf⟩:=HB.out;clear hse qf HO hT3 HF
    go_wp2
    clear q0 q1 q2 q3 q4;obtain⟨V,hV⟩:∃V,V=wr:=⟨_,rfl⟩;obtain rfl:=hV
    go_loopw [33] (fun i wr=>∃j:Nat,j≤nb∧i= .int .i64 j∧Hid (OwnS (flR (fdR (tyR d)) V.heap.size) wr w1.heap.size 59 (fun b=>b<w.heap.size∨V.heap.size≤b) (.slice A2 nb c2) (flagL tf j))∧Hid (Ext w wr)∧
     Hid (Box5 wr w.heap.size (.int .i64 tk) (.int .i64 ts) (.int .i64 tc) (.slice A1 k c1) (.slice A2 nb c2))∧Hid (Box5 wr (w.heap.size+1) (.int .i64 0) (.int .i64 0) (.int .i64 0) (.slice none 0 0) (.slice none 0 0))∧Hid (∀b,((w.heap.size+2≤b∧b<w1.heap.size)∨w2.heap.size≤b)∧b<V.heap.size→wr.heap[b]? =V.heap[b]?)∧Hid (V.heap.size≤wr.heap.size)) (fun i _=>nb - (intOf i).toNat)
    case atStart=>exact⟨0,by omega,rfl,HF8,HX,HB,HR,hid (fun _ _=>rfl),hid (Nat.le_refl _)⟩
    case round=>
     have HZV:=hid HZ.out;obtain⟨j,hj,rfl,HO,HX,HB,HR,HK,HZ⟩:=hrel;by_cases h2:j<nb
     ·obtain⟨x,hx⟩:∃x,tf[j]? =some x:=⟨_,List.getElem?_eq_getElem (by have:=HLB.out;omega)⟩;obtain⟨g,rfl,hg1,hg2⟩:=HO.out.at0 (by omega);have hgw:=HG2.out g rfl;obtain⟨cs,hr,hcs⟩:=HO.out.cells (flagL_at hx);have hr0:(fdR (tyR d)).rel wr All cs x:=(fdR (tyR d)).mono (fun _ _ _=>trivial) hr;rw[show(flR (fdR (tyR d)) V.heap.size).size=6 from fdR_size d]at hcs
      obtain⟨d',hd⟩:∃d',d=d'+1:=by
       cases d with
       |zero=>obtain⟨r,_,h,_⟩:=hr0;exact h.elim
       |succ d'=>exact⟨d',rfl⟩
      rw[hd]at hr0;obtain⟨A3,n3,c3,B3,m3,e3,hveq,hi0,hv1⟩:=fd_rel.1 hr0;injection hveq with hveq
      have hcs':cs=[.int .i64 x.1,.int .i64 x.2.kind,.int .i64 x.2.size,.int .i64 x.2.count,.slice A3 n3 c3,.slice B3 m3 e3]:=by
       have:=congrArg Array.toList hveq;simpa using this
      subst hcs';obtain⟨yo,go⟩:=hcs 0 _ rfl;rw[Nat.add_zero]at yo go;obtain⟨y0,g0⟩:=hcs 1 _ rfl;obtain⟨y1,g1⟩:=hcs 2 _ rfl;obtain⟨y2,g2⟩:=hcs 3 _ rfl;obtain⟨y3,g3⟩:=hcs 4 _ rfl;obtain⟨y4,g4⟩:=hcs 5 _ rfl;have HC:=hid (fun w' (hw:Ext wr w')=>HIH.out d' (by omega) w' x.2 _ (hv1.ext hw) (HN4.out x (List.mem_of_getElem? hx)));have HXX:=hid hx;have HD:=hid hd;have HI0:=hid hi0;have HYO:=hid yo;obtain⟨q0,q1,q2,q3,q4,qf⟩:=HB.out;have i1:(0:Int)≤(j:Int):=by omega
      have i2:(j:Int)<(nb:Int):=by omega
      have HG:=hid (And.intro hg1 hg2);have HGW:=hid hgw;have hne1:w.heap.size≠g:=by have:=HW12.out;omega
      have hne2:g≠w.heap.size:=by have:=HW12.out;omega
      clear hr hcs hr0 hd hv1 hx hg1 hg2 hveq qf hi0 yo go hgw
      go_wp2_with fail
      refine wp_region_split 12 (by kernel_rfl) rfl rfl (by kernel_rfl) (fun w'=>w'.cell? ⟨w.heap.size,4,none⟩=some (.slice (some ⟨g,0,none⟩) nb c2)∧w'.cell? ⟨g,j * 6+1,none⟩=some (.int .i64 x.2.kind)∧w'.cell? ⟨g,j * 6+2,none⟩=some (.int .i64 x.2.size)∧w'.cell? ⟨g,j * 6+3,none⟩=some (.int .i64 x.2.count)∧w'.cell? ⟨g,j * 6+4,none⟩=some (.slice A3 n3 c3)∧w'.cell? ⟨g,j * 6+5,none⟩=some (.slice B3 m3 e3)) ⟨q4,y0,y1,y2,y3,y4⟩ (fun hSg3q0=>?_);refine rgT6 0 1 2 3 4 5 ?_;refine rgT3 6 7 8 ?_;refine rgC 9 (fun K hK=>?_);go_simp;go_at_call 30;refine(HC.out _ (Ext.refl wr).drew).mono ?_;rintro e w8 ⟨_,rfl,⟨A5,n5,c5,B5,m5,e5,rfl,hv5⟩,hx8⟩;have HX8:=hid hx8.drew_left;have HV8:=hid hv5;clear hx8 hv5;refine rgK hK ⟨HX8.out.cell q4,HX8.out.cell y0,HX8.out.cell y1,HX8.out.cell y2,HX8.out.cell y3,HX8.out.cell y4⟩ (fun hSg3q1=>?_);clear hK K;refine rgT2 10 11 ?_;refine wpAnyH_done (by kernel_rfl) ?_ _;change wpList _ _ _ _ _ _
      have hput:=OwnS.put2 (HO.out.ext HX8.out) (flagL_at HXX.out) (pre:=[.int .i64 x.1]) (cs:=[.int .i64 x.2.kind,.int .i64 x.2.size,.int .i64 x.2.count,.slice A5 n5 c5,.slice B5 m5 e5]) (e':=(x,true)) (by
       show(fdR (tyR d)).rel w8 _ [.int .i64 x.1,.int .i64 x.2.kind,.int .i64 x.2.size,.int .i64 x.2.count,.slice A5 n5 c5,.slice B5 m5 e5] x;rw[HD.out]
       exact fd_rel.2 ⟨A5,n5,c5,B5,m5,e5,rfl,HI0.out,TyV.mono (fun b hb _=>by
        have hb':wr.heap.size≤b:=hb;have:=HG.out;have:=HZ.out;exact⟨⟨.inr (by omega),by omega⟩,fun _=>by omega⟩) ⟨A5,n5,c5,B5,m5,e5,rfl,HV8.out⟩⟩) (fun i u hu=>by
       have hi:i=0:=by have:=(List.getElem?_eq_some_iff.1 hu).1;simp at this;omega
       subst hi;simp only[List.getElem?_cons_zero,Option.some.injEq]at hu;subst hu;rw[show(flR (fdR (tyR d)) V.heap.size).size=6 from fdR_size d,Nat.add_zero];exact HX8.out.cell HYO.out)
      rw[show(flR (fdR (tyR d)) V.heap.size).size=6 from fdR_size d,flagL_set HXX.out]at hput;have HPUT:=hid hput;have HXP:=hid (setRow_ext [.int .i64 x.2.kind,.int .i64 x.2.size,.int .i64 x.2.count,.slice A5 n5 c5,.slice B5 m5 e5] g (j * 6+1) (HX.out.trans HX8.out) (by have:=HGW.out;have:=HW12.out;omega));have HBP:=hid ((HB.out.ext HX8.out).row [.int .i64 x.2.kind,.int .i64 x.2.size,.int .i64 x.2.count,.slice A5 n5 c5,.slice B5 m5 e5] (j * 6+1) hne2);have HRP:=hid ((HR.out.ext HX8.out).row (g:=g) [.int .i64 x.2.kind,.int .i64 x.2.size,.int .i64 x.2.count,.slice A5 n5 c5,.slice B5 m5 e5] (j * 6+1) (by have:=HGW.out;have:=HW12.out;omega))
      have HKP:Hid (∀b,((w.heap.size+2≤b∧b<w1.heap.size)∨w2.heap.size≤b)∧b<V.heap.size→(setRow w8 g (j * 6+1) [.int .i64 x.2.kind,.int .i64 x.2.size,.int .i64 x.2.count,.slice A5 n5 c5,.slice B5 m5 e5]).heap[b]? =V.heap[b]?):=hid (fun b hb=>by
       have:=HGW.out;have:=HZ.out;rw[Go.Deco.setRow_heap _ w8 g _ b (by omega),HX8.out.block (by omega)];exact HK.out b hb)
      have HZP:Hid (V.heap.size≤(setRow w8 g (j * 6+1) [.int .i64 x.2.kind,.int .i64 x.2.size,.int .i64 x.2.count,.slice A5 n5 c5,.slice B5 m5 e5]).heap.size):=hid (by rw[setRow_size];have:=HX8.out.size;have:=HZ.out;omega);have HFR:Hid (∀(w':World),Ext wr w'→∀i,w'.frozen? ⟨g,i,none⟩=wr.frozen? ⟨g,i,none⟩):=hid (fun w' hw i=>hw.frozen (p:=⟨g,i,none⟩) HG.out.2);have g0:=(HFR.out _ HX8.out _).trans g0;have g1:=(HFR.out _ HX8.out _).trans g1;have g2:=(HFR.out _ HX8.out _).trans g2;have g3:=(HFR.out _ HX8.out _).trans g3;have g4:=(HFR.out _ HX8.out _).trans g4;have y0:=HX8.out.cell y0;have y1:=HX8.out.cell y1;have y2:=HX8.out.cell y2;have y3:=HX8.out.cell y3;have y4:=HX8.out.cell y4;clear hput q0 q1 q2 q3 q4
      go_wp2
      first
       |go_roundw
       |refine⟨?rel, ?measure⟩
      case rel=>exact⟨j+1,by omega,by go_num,HPUT,HXP,HBP,HRP,HKP,HZP⟩
      case measure=>simp [intOf];omega
     ·obtain rfl:j=nb:=by omega
      have hsf:=(HO.out.unflag (b0:=V.heap.size) (by have:=HLB.out;omega)).slT (S:=fun b=>w.heap.size+2≤b) (fun b hb=>by have:=HZV.out;have:=HW12.out;have h:V.heap.size≤b:=hb.2;omega) (fun b hb=>by have:=(HG2.out b hb).1;have:=HW12.out;omega);have hse:=HSE.out.keep (w':=wr) (fun b hb _=>HK.out b hb);have HSF:=hid hsf;have HSE2:=hid (hse.mono (S':=fun b=>w.heap.size+2≤b) (fun b hb _=>by have:=HW12.out;rcases hb.1 with h|h <;> omega));obtain⟨q0,q1,q2,q3,q4,qf⟩:=HB.out;obtain⟨r0,r1,r2,r3,r4,rf⟩:=HR.out;have u0:=rf 0;have u1:=rf 1;have u2:=rf 2;have u3:=rf 3;have u4:=rf 4;clear hsf hse qf rf
      go_wp2
      refine bodyPost_ret (v:= .agg #[.int .i64 tk,.int .i64 ts,.int .i64 tc,.slice A1 k c1,.slice A2 j c2]) (by simp[results,Tryz.results30,go_sem,World.cell?_setCell_same,World.cell?_setCell_other,r0,r1,r2,r3,r4]) rfl ?_;refine⟨_,rfl,⟨A1,k,c1,A2,j,c2,rfl, ?_, ?_,HBD.out.1,HBD.out.2.1,HBD.out.2.2⟩, ?_⟩
      ·refine HSE2.out.keep (fun b hb _=>?_) |>.mono (fun b hb _=>by have hb':w.heap.size+2≤b:=hb;show w.heap.size≤b;omega)
       have hb':w.heap.size+2≤b:=hb
       repeat rw[Below.heap_setCell _ _ _ _ (by simp;omega)]
      ·refine HSF.out.keep (fun b hb _=>?_) |>.mono (fun b hb _=>by have hb':w.heap.size+2≤b:=hb;show w.heap.size≤b;omega)
       have hb':w.heap.size+2≤b:=hb
       repeat rw[Below.heap_setCell _ _ _ _ (by simp;omega)]
      ·repeat (first|exact HX.out|refine Ext.setCell ?_ (by simp) _)
end Go.Proofs.YtlmipgdnlfjpaaaGreat
