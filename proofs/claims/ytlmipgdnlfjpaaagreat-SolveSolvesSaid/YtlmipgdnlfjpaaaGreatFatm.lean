/- Lemmas of mine, merged. -/
import Derived.Test.YtlmipgdnlfjpaaaGreatFatBm
import Derived.Test.YtlmipgdnlfjpaaaGreatTymm
set_option maxRecDepth 100000
set_option maxHeartbeats 8000000
set_option linter.unusedSimpArgs false
set_option linter.unusedVariables false
namespace Go.Proofs.YtlmipgdnlfjpaaaGreat
open Go Go.RowKit Go.Deco Go.Shelf
theorem jC:∀{l:List (Int×Ty)} {off wd:Int},(∀f∈l,faT f.2 (off - f.1) wd=none)->faF l off wd=none
 |[],_,_,_=>rfl
 |(o,t) :: l,off,wd,h=>by
  have h0:=h (o,t) (List.mem_cons_self ..);rw[faF,jC fun f hf=>h f (List.mem_cons_of_mem _ hf)];exact h0
theorem yQ:∀{l:List (Int×Ty)} {off wd:Int} {k:Nat} {f:Int×Ty} {x:Ty},l[k]? =some f->faT f.2 (off - f.1) wd=some x->(∀j,k<j->∀g,l[j]? =some g->faT g.2 (off - g.1) wd=none)->faF l off wd=some x
 | (o,t) :: l,off,wd,0,f,x,hf,hx,hn=>by
  simp at hf;subst hf;rw[faF,jC fun g hg=>?_]
  ·exact hx
  ·obtain⟨j,hj⟩:=List.getElem?_of_mem hg;exact hn (j+1) (by omega) g (by simpa using hj)
 |(o,t) :: l,off,wd,k+1,f,x,hf,hx,hn=>by
  rw[faF,yQ (l:=l) (by simpa using hf) hx fun j hj g hg=>hn (j+1) (by omega) g (by simpa using hg)]
def Kd (d:Nat)(wo w:World)(o:Option Ty)(e:Ending)(w':World):Prop:=∃v b x,e= .returned (.tuple #[v,.bool b])/\TyV d wo All v x/\Ext w w'/\((b=true/\o=some x)\/(b=false/\o=none))
def Alt (b:Bool)(o:Option Ty)(x:Ty):Prop:=(b=true/\o=some x)\/(b=false/\o=none)
def kD (d:Nat):Prop:=∀(wo w:World) (t:Ty) (v:Value) (off wd:Int),Ext wo w->TyV d wo All v t->Qd t=true->Qy off->(wd=1\/wd=2\/wd=4)->Calls Tryz.prog 67 #[v,.int .i64 off,.int .i64 wd] w (Kd d wo w (faT t off wd))
def Res (W:World)(b:Nat)(v0 v1 v2 v3 v4:Value)(r:Bool):Prop:=Qm W b v0 v1 v2 v3 v4/\W.cell? ⟨b+1,0,none⟩=some (.bool r)/\W.frozen? ⟨b+1,0,none⟩=false
section
variable {W W':World}{b:Nat}{v0 v1 v2 v3 v4:Value}{r:Bool}
theorem Res.ext (h:Res W b v0 v1 v2 v3 v4 r)(he:Ext W W'):Res W' b v0 v1 v2 v3 v4 r:=⟨h.1.ext he,he.cell h.2.1,(he.frozen (p:=⟨b+1,0,none⟩) (World.block_lt_of_cell? _ _ h.2.1)).trans h.2.2⟩
theorem Res.move (h:Res W b v0 v1 v2 v3 v4 r)(e:W=W'):Res W' b v0 v1 v2 v3 v4 r:=e ▸ h
theorem Res.put5 (h:Res W b v0 v1 v2 v3 v4 r)(u0 u1 u2 u3 u4:Value):Res (((((W.setCell ⟨b,0,none⟩ u0).setCell ⟨b,1,none⟩ u1).setCell ⟨b,2,none⟩ u2).setCell ⟨b,3,none⟩ u3).setCell ⟨b,4,none⟩ u4) b u0 u1 u2 u3 u4 r:=by
 refine⟨((((h.1.put0 u0).put1 u1).put2 u2).put3 u3).put4 u4,cM u0 u1 u2 u3 u4 (by show b+1≠b;omega) h.2.1, ?_⟩;simp only[World.frozen?_setCell];exact h.2.2
theorem Res.put1 (h:Res W b v0 v1 v2 v3 v4 r)(r':Bool):Res (W.setCell ⟨b+1,0,none⟩ (.bool r')) b v0 v1 v2 v3 v4 r':=by
 refine⟨h.1.far (by show b+1≠b;omega),by simp[World.cell?_setCell_same,h.2.1],by rw[World.frozen?_setCell];exact h.2.2⟩
end
def Par (W:World)(s:Nat)(v0 v1 v2 v3 v4 v5 v6:Value):Prop:=(W.cell? ⟨s,0,none⟩=some v0/\W.cell? ⟨s,1,none⟩=some v1/\W.cell? ⟨s,2,none⟩=some v2/\W.cell? ⟨s,3,none⟩=some v3/\W.cell? ⟨s,4,none⟩=some v4)/\W.cell? ⟨s+1,0,none⟩=some v5/\W.cell? ⟨s+1+1,0,none⟩=some v6
section
variable {W W':World}{s:Nat}{v0 v1 v2 v3 v4 v5 v6:Value}
theorem Par.ext (h:Par W s v0 v1 v2 v3 v4 v5 v6)(he:Ext W W'):Par W' s v0 v1 v2 v3 v4 v5 v6:=⟨⟨he.cell h.1.1,he.cell h.1.2.1,he.cell h.1.2.2.1,he.cell h.1.2.2.2.1,he.cell h.1.2.2.2.2⟩,he.cell h.2.1,he.cell h.2.2⟩
theorem Par.put5 (h:Par W s v0 v1 v2 v3 v4 v5 v6)(u0 u1 u2 u3 u4:Value):Par (((((W.setCell ⟨s+1+1+1,0,none⟩ u0).setCell ⟨s+1+1+1,1,none⟩ u1).setCell ⟨s+1+1+1,2,none⟩ u2).setCell ⟨s+1+1+1,3,none⟩ u3).setCell ⟨s+1+1+1,4,none⟩ u4) s v0 v1 v2 v3 v4 v5 v6:=by
 obtain⟨⟨h0,h1,h2,h3,h4⟩,h5,h6⟩:=h;refine⟨⟨?_, ?_, ?_, ?_, ?_⟩, ?_, ?_⟩ <;> refine cM u0 u1 u2 u3 u4 ?_ (by assumption) <;> simp <;> omega
theorem Par.put1 (h:Par W s v0 v1 v2 v3 v4 v5 v6)(u:Value):Par (W.setCell ⟨s+1+1+1+1,0,none⟩ u) s v0 v1 v2 v3 v4 v5 v6:=by
 obtain⟨⟨h0,h1,h2,h3,h4⟩,h5,h6⟩:=h
 have e:∀(p:Addr) v,p.block<s+3->W.cell? p=some v->(W.setCell ⟨s+1+1+1+1,0,none⟩ u).cell? p=some v:=fun p v hp hv=>by
  rw[World.cell?_setCell_other _ _ _ _ (fun e=>by rw[<-e]at hp;simp at hp;omega)];exact hv
 exact⟨⟨e _ _ (by simp) h0,e _ _ (by simp) h1,e _ _ (by simp) h2,e _ _ (by simp) h3,e _ _ (by simp) h4⟩,e _ _ (by simp) h5,e _ _ (by simp) h6⟩
end
theorem Vb {a w:World}{b:Nat}(h:Ext a w)(hb:a.heap.size<=b)(v:Value):Ext a (w.setCell ⟨b,0,none⟩ v):=h.setCell hb v
theorem bW {k s c off wd:Int}(e:List Ty)(f:List (Int×Ty))(hk:k=1\/k=2\/k=3):faT (.mk k s c e f) off wd=if off=0/\wd=szT (.mk k s c e f) then some (.mk k s c e f) else none:=by
 rw[faT,if_neg (by omega),if_pos (by omega)]
theorem nq {k s c off wd:Int}(e:List Ty)(f:List (Int×Ty))(hk:k=0\/k=6):faT (.mk k s c e f) off wd=if 0<=off then some (.mk k s c e f) else none:=by
 rw[faT,if_pos hk]
theorem fj (d:Nat)(wo w:World)(tk ts tc:Int)(te:List Ty)(tf:List (Int×Ty))(off wd:Int)(A B:Option Addr)(na ca nb cb:Nat)(hx:Ext wo w)
  (hv:TyV d wo All (.agg #[.int .i64 tk,.int .i64 ts,.int .i64 tc,.slice A na ca,.slice B nb cb]) (.mk tk ts tc te tf)) (hk:tk=0\/tk=6) (hi:Qy off):
  Calls Tryz.prog 67 #[.agg #[.int .i64 tk,.int .i64 ts,.int .i64 tc,.slice A na ca,.slice B nb cb],.int .i64 off,.int .i64 wd] w (Kd d wo w (faT (.mk tk ts tc te tf) off wd)):=by
 rw[nq te tf hk];obtain⟨o,hoo⟩:=Qg ((if 0<=off then some (Ty.mk tk ts tc te tf) else none));rw[hoo];have HOO:=hid hoo;have HV:=hid hv;obtain⟨W0,hW0⟩:=Qg (((((w.alloc (.cells #[.int .i64 tk,.int .i64 ts,.int .i64 tc,.slice A na ca,.slice B nb cb] 42)).alloc (.cells #[.int .i64 off] 3)).alloc (.cells #[.int .i64 wd] 3)).alloc (.cells #[.int .i64 0,.int .i64 0,.int .i64 0,.slice none 0 0,.slice none 0 0] 42)).alloc (.cells #[.bool false] 4));have HEW:=hid (by rw[<-hW0];exact(((((Ext.refl w).alloc _).alloc _).alloc _).alloc _).alloc _:Ext w W0)
 have HPA:Hid (Par W0 w.heap.size (.int .i64 tk) (.int .i64 ts) (.int .i64 tc) (.slice A na ca) (.slice B nb cb) (.int .i64 off) (.int .i64 wd)):=hid (by
  rw[<-hW0];refine⟨⟨?_, ?_, ?_, ?_, ?_⟩, ?_, ?_⟩ <;> simp[go_sem])
 have HRB:Hid (Res W0 (w.heap.size+1+1+1) (.int .i64 0) (.int .i64 0) (.int .i64 0) (.slice none 0 0) (.slice none 0 0) false):=hid (by
  rw[<-hW0];refine⟨⟨?_, ?_, ?_, ?_, ?_,fun i=>?_⟩, ?_, ?_⟩ <;> simp[go_sem])
 have o0:=HPA.o.1.1;have o1:=HPA.o.1.2.1;have o2:=HPA.o.1.2.2.1;have o3:=HPA.o.1.2.2.2.1;have o4:=HPA.o.1.2.2.2.2;have p0:=HPA.o.2.1;have q0:=HPA.o.2.2;clear hv hoo;rcases hk with rfl|rfl
 case inl=>
  go_enter Tryz.func67,Tryz.ntmps67;obtain⟨r,g1⟩:=Qg (decide (off>=0))
  have HALT:Hid (Alt r o (Ty.mk 0 ts tc te tf)):=hid (by
   unfold Alt;rw[<-g1,<-HOO.o];by_cases ho:0<=off
   ·exact .inl ⟨Qv ho,if_pos ho⟩
   ·exact .inr ⟨Qw ho,if_neg ho⟩)
  go_wp2_with fail
  have HRo:=hid HRB.o;obtain⟨⟨r0,r1,r2,r3,r4,rf⟩,r5,rg⟩:=HRo.o;have f0:=rf 0;have f1:=rf 1;have f2:=rf 2;have f3:=rf 3;have f4:=rf 4;clear rf;clear o0 o1 o2 o3 o4 p0 q0;have HXg1q_0:=hid ((Ext.refl W0).drew);refine wp_region_held_drew (S:=(fun w'=>(w'.cell? ⟨w.heap.size,0,none⟩=some (.int .i64 0)/\w'.cell? ⟨w.heap.size,1,none⟩=some (.int .i64 ts)/\w'.cell? ⟨w.heap.size,2,none⟩=some (.int .i64 tc)/\w'.cell? ⟨w.heap.size,3,none⟩=some (.slice A na ca)/\w'.cell? ⟨w.heap.size,4,none⟩=some (.slice B nb cb))/\w'.cell? ⟨w.heap.size+1,0,none⟩=some (.int .i64 off)/\w'.cell? ⟨w.heap.size+1+1,0,none⟩=some (.int .i64 wd))) (by kernel_rfl) (HPA.o.ext (Ext.refl W0).drew) (fun hSg1q0=>?_);refine Zd 0 1 2 ?_;refine wpAnyH_ready (rs:=[3]) (by kernel_rfl) (by simp) ?_;refine(AllReadyH.consL rfl (fun K hK=>?g1qb3x4) AllReadyH.nil)
  case' g1qb3x4=>
   go_simp;have HRB:=hid (HRB.o.put5 (.int .i64 0) (.int .i64 ts) (.int .i64 tc) (.slice A na ca) (.slice B nb cb));have HPA:=hid (HPA.o.put5 (.int .i64 0) (.int .i64 ts) (.int .i64 tc) (.slice A na ca) (.slice B nb cb));have HEW:=hid (ZD (b:=w.heap.size+1+1+1) HEW.o (by omega) (.int .i64 0) (.int .i64 ts) (.int .i64 tc) (.slice A na ca) (.slice B nb cb));have HXg1q_1:=HEW;have HXend:=HEW;refine rgK hK (HPA.o.ext (Ext.refl _).drew) (fun hSg1q1=>?_);clear hK K;refine wpAnyH_ready (rs:=[4]) (by kernel_rfl) (by simp) ?_;refine(AllReadyH.consL rfl (fun K hK=>?g1qb4x5) AllReadyH.nil)
   case' g1qb4x5=>
    go_simp;have HRB:=hid (HRB.o.put1 r);have HPA:=hid (HPA.o.put1 (.bool r));have HEW:=hid (Vb (b:=w.heap.size+1+1+1+1) HEW.o (by omega) (.bool r));have HXg1q_2:=HEW;have HXend:=HEW;refine rgK hK (HPA.o.ext (Ext.refl _).drew) (fun hSg1q2=>?_);clear hK K;refine wpAnyH_done (by kernel_rfl) ?_ _;generalize hW9:World.drew _=W9;have HR9:=hid (Res.move (HRB.o.ext (Ext.refl _).drew) hW9);have HE9:Hid (Ext w W9):=hid (by rw[<-hW9];exact HEW.o.drew);clear hW9 HRB HPA HEW HXend r0 r1 r2 r3 r4 r5 f0 f1 f2 f3 f4 rg HRo;obtain⟨⟨t0,t1,t2,t3,t4, -⟩,t5, -⟩:=HR9.o
    go_wp2
    refine bodyPost_ret (v:= .tuple #[.agg #[.int .i64 0,.int .i64 ts,.int .i64 tc,.slice A na ca,.slice B nb cb],.bool r]) (by simp[results,Tryz.results67,go_sem,t0,t1,t2,t3,t4,t5]) rfl ?_;exact⟨_,r,_,rfl,HV.o,HE9.o,HALT.o⟩
 case inr=>
  go_enter Tryz.func67,Tryz.ntmps67;obtain⟨r,g1⟩:=Qg (decide (off>=0))
  have HALT:Hid (Alt r o (Ty.mk 6 ts tc te tf)):=hid (by
   unfold Alt;rw[<-g1,<-HOO.o];by_cases ho:0<=off
   ·exact .inl ⟨Qv ho,if_pos ho⟩
   ·exact .inr ⟨Qw ho,if_neg ho⟩)
  go_wp2_with fail
  have HRo:=hid HRB.o;obtain⟨⟨r0,r1,r2,r3,r4,rf⟩,r5,rg⟩:=HRo.o;have f0:=rf 0;have f1:=rf 1;have f2:=rf 2;have f3:=rf 3;have f4:=rf 4;clear rf;clear o0 o1 o2 o3 o4 p0 q0;have HXg2q_0:=hid ((Ext.refl W0).drew);refine wp_region_held_drew (S:=(fun w'=>(w'.cell? ⟨w.heap.size,0,none⟩=some (.int .i64 6)/\w'.cell? ⟨w.heap.size,1,none⟩=some (.int .i64 ts)/\w'.cell? ⟨w.heap.size,2,none⟩=some (.int .i64 tc)/\w'.cell? ⟨w.heap.size,3,none⟩=some (.slice A na ca)/\w'.cell? ⟨w.heap.size,4,none⟩=some (.slice B nb cb))/\w'.cell? ⟨w.heap.size+1,0,none⟩=some (.int .i64 off)/\w'.cell? ⟨w.heap.size+1+1,0,none⟩=some (.int .i64 wd))) (by kernel_rfl) (HPA.o.ext (Ext.refl W0).drew) (fun hSg2q0=>?_);refine Zd 0 1 2 ?_;refine wpAnyH_ready (rs:=[3]) (by kernel_rfl) (by simp) ?_;refine(AllReadyH.consL rfl (fun K hK=>?g2qb3x4) AllReadyH.nil)
  case' g2qb3x4=>
   go_simp;have HRB:=hid (HRB.o.put5 (.int .i64 6) (.int .i64 ts) (.int .i64 tc) (.slice A na ca) (.slice B nb cb));have HPA:=hid (HPA.o.put5 (.int .i64 6) (.int .i64 ts) (.int .i64 tc) (.slice A na ca) (.slice B nb cb));have HEW:=hid (ZD (b:=w.heap.size+1+1+1) HEW.o (by omega) (.int .i64 6) (.int .i64 ts) (.int .i64 tc) (.slice A na ca) (.slice B nb cb));have HXg2q_1:=HEW;have HXend:=HEW;refine rgK hK (HPA.o.ext (Ext.refl _).drew) (fun hSg2q1=>?_);clear hK K;refine wpAnyH_ready (rs:=[4]) (by kernel_rfl) (by simp) ?_;refine(AllReadyH.consL rfl (fun K hK=>?g2qb4x5) AllReadyH.nil)
   case' g2qb4x5=>
    go_simp;have HRB:=hid (HRB.o.put1 r);have HPA:=hid (HPA.o.put1 (.bool r));have HEW:=hid (Vb (b:=w.heap.size+1+1+1+1) HEW.o (by omega) (.bool r));have HXg2q_2:=HEW;have HXend:=HEW;refine rgK hK (HPA.o.ext (Ext.refl _).drew) (fun hSg2q2=>?_);clear hK K;refine wpAnyH_done (by kernel_rfl) ?_ _;generalize hW9:World.drew _=W9;have HR9:=hid (Res.move (HRB.o.ext (Ext.refl _).drew) hW9);have HE9:Hid (Ext w W9):=hid (by rw[<-hW9];exact HEW.o.drew);clear hW9 HRB HPA HEW HXend r0 r1 r2 r3 r4 r5 f0 f1 f2 f3 f4 rg HRo;obtain⟨⟨t0,t1,t2,t3,t4, -⟩,t5, -⟩:=HR9.o
    go_wp2
    refine bodyPost_ret (v:= .tuple #[.agg #[.int .i64 6,.int .i64 ts,.int .i64 tc,.slice A na ca,.slice B nb cb],.bool r]) (by simp[results,Tryz.results67,go_sem,t0,t1,t2,t3,t4,t5]) rfl ?_;exact⟨_,r,_,rfl,HV.o,HE9.o,HALT.o⟩
theorem vB (d:Nat)(wo w:World)(tk ts tc:Int)(te:List Ty)(tf:List (Int×Ty))(off wd:Int)(A B:Option Addr)(na ca nb cb:Nat)(hx:Ext wo w)
  (hv:TyV d wo All (.agg #[.int .i64 tk,.int .i64 ts,.int .i64 tc,.slice A na ca,.slice B nb cb]) (.mk tk ts tc te tf)) (hf:Qd (.mk tk ts tc te tf)=true) (hk:tk=1\/tk=2\/tk=3) (hi:Qy off):
  Calls Tryz.prog 67 #[.agg #[.int .i64 tk,.int .i64 ts,.int .i64 tc,.slice A na ca,.slice B nb cb],.int .i64 off,.int .i64 wd] w (Kd d wo w (faT (.mk tk ts tc te tf) off wd)):=by
 rw[bW te tf hk];have HSZ:=hid (fun W (hW:Ext w W)=>kq d W _ _ ((hv.ext (hx.trans hW))) hf);obtain⟨sz,hsz⟩:=Qg (szT (.mk tk ts tc te tf));rw[hsz]at HSZ ⊢;clear hsz;obtain⟨o,hoo⟩:=Qg ((if off=0/\wd=sz then some (Ty.mk tk ts tc te tf) else none));rw[hoo];have HOO:=hid hoo;have HV:=hid hv;obtain⟨W0,hW0⟩:=Qg (((((w.alloc (.cells #[.int .i64 tk,.int .i64 ts,.int .i64 tc,.slice A na ca,.slice B nb cb] 42)).alloc (.cells #[.int .i64 off] 3)).alloc (.cells #[.int .i64 wd] 3)).alloc (.cells #[.int .i64 0,.int .i64 0,.int .i64 0,.slice none 0 0,.slice none 0 0] 42)).alloc (.cells #[.bool false] 4));have HEW:=hid (by rw[<-hW0];exact(((((Ext.refl w).alloc _).alloc _).alloc _).alloc _).alloc _:Ext w W0)
 have HPA:Hid (Par W0 w.heap.size (.int .i64 tk) (.int .i64 ts) (.int .i64 tc) (.slice A na ca) (.slice B nb cb) (.int .i64 off) (.int .i64 wd)):=hid (by
  rw[<-hW0];refine⟨⟨?_, ?_, ?_, ?_, ?_⟩, ?_, ?_⟩ <;> simp[go_sem])
 have HRB:Hid (Res W0 (w.heap.size+1+1+1) (.int .i64 0) (.int .i64 0) (.int .i64 0) (.slice none 0 0) (.slice none 0 0) false):=hid (by
  rw[<-hW0];refine⟨⟨?_, ?_, ?_, ?_, ?_,fun i=>?_⟩, ?_, ?_⟩ <;> simp[go_sem])
 have o0:=HPA.o.1.1;have o1:=HPA.o.1.2.1;have o2:=HPA.o.1.2.2.1;have o3:=HPA.o.1.2.2.2.1;have o4:=HPA.o.1.2.2.2.2;have p0:=HPA.o.2.1;have q0:=HPA.o.2.2;clear hv hoo;rcases hk with rfl|rfl|rfl
 case inl=>
  go_enter Tryz.func67,Tryz.ntmps67;by_cases ho0:off=0
  ·have g3:(off == 0)=true:=by simp[ho0]
   obtain⟨r,g2⟩:=Qg ((wd == sz))
   have HALT:Hid (Alt r o (Ty.mk 1 ts tc te tf)):=hid (by
    unfold Alt;rw[<-g2,<-HOO.o];by_cases ho1:wd=sz
    ·exact .inl ⟨by simp[ho1],if_pos ⟨ho0,ho1⟩⟩
    ·exact .inr ⟨by simp[ho1],if_neg fun h=>ho1 h.2⟩)
   clear ho0
   go_wp2_with fail
   have HRo:=hid HRB.o;obtain⟨⟨r0,r1,r2,r3,r4,rf⟩,r5,rg⟩:=HRo.o;have f0:=rf 0;have f1:=rf 1;have f2:=rf 2;have f3:=rf 3;have f4:=rf 4;clear rf;clear o0 o1 o2 o3 o4 p0 q0;have HXg3q_0:=hid ((Ext.refl W0).drew);refine wp_region_held_drew (S:=(fun w'=>(w'.cell? ⟨w.heap.size,0,none⟩=some (.int .i64 1)/\w'.cell? ⟨w.heap.size,1,none⟩=some (.int .i64 ts)/\w'.cell? ⟨w.heap.size,2,none⟩=some (.int .i64 tc)/\w'.cell? ⟨w.heap.size,3,none⟩=some (.slice A na ca)/\w'.cell? ⟨w.heap.size,4,none⟩=some (.slice B nb cb))/\w'.cell? ⟨w.heap.size+1,0,none⟩=some (.int .i64 off)/\w'.cell? ⟨w.heap.size+1+1,0,none⟩=some (.int .i64 wd))) (by kernel_rfl) (HPA.o.ext (Ext.refl W0).drew) (fun hSg3q0=>?_);refine Qp 0 1 2 3 4 5 ?_;refine wpAnyH_ready (rs:=[6]) (by kernel_rfl) (by simp) ?_;refine(AllReadyH.consL rfl (fun K hK=>?g3qb6x7) AllReadyH.nil)
   case' g3qb6x7=>
    go_simp;go_at_call 91;refine(HSZ.o _ (by first|exact HEW.o.drew|exact HEW.o)).mono ?_;rintro e w5 ⟨rfl,hx5⟩;have hx5:Ext _ w5:=hx5.drew_left;have HRB:=hid (HRB.o.ext hx5);have HPA:=hid (HPA.o.ext hx5);have HEW:=hid (HEW.o.trans hx5);clear hx5 r0 r1 r2 r3 r4 r5 f0 f1 f2 f3 f4 rg HRo;have HRo:=hid HRB.o;obtain⟨⟨r0,r1,r2,r3,r4,rf⟩,r5,rg⟩:=HRo.o;have f0:=rf 0;have f1:=rf 1;have f2:=rf 2;have f3:=rf 3;have f4:=rf 4;clear rf;have HXg3q_1:=HEW;have HXend:=HEW;refine rgK hK HPA.o (fun hSg3q1=>?_);clear hK K;refine QJ 7 8 ?_;refine wpAnyH_ready (rs:=[9]) (by kernel_rfl) (by simp) ?_;refine(AllReadyH.consL rfl (fun K hK=>?g3qb9x10) AllReadyH.nil)
    case' g3qb9x10=>
     go_simp;have HRB:=hid (HRB.o.put5 (.int .i64 1) (.int .i64 ts) (.int .i64 tc) (.slice A na ca) (.slice B nb cb));have HPA:=hid (HPA.o.put5 (.int .i64 1) (.int .i64 ts) (.int .i64 tc) (.slice A na ca) (.slice B nb cb));have HEW:=hid (ZD (b:=w.heap.size+1+1+1) HEW.o (by omega) (.int .i64 1) (.int .i64 ts) (.int .i64 tc) (.slice A na ca) (.slice B nb cb));have HXg3q_2:=HEW;have HXend:=HEW;refine rgK hK HPA.o (fun hSg3q2=>?_);clear hK K;refine wpAnyH_ready (rs:=[10]) (by kernel_rfl) (by simp) ?_;refine(AllReadyH.consL rfl (fun K hK=>?g3qb10x11) AllReadyH.nil)
     case' g3qb10x11=>
      go_simp;have HRB:=hid (HRB.o.put1 r);have HPA:=hid (HPA.o.put1 (.bool r));have HEW:=hid (Vb (b:=w.heap.size+1+1+1+1) HEW.o (by omega) (.bool r));have HXg3q_3:=HEW;have HXend:=HEW;refine rgK hK HPA.o (fun hSg3q3=>?_);clear hK K;refine wpAnyH_done (by kernel_rfl) ?_ _;generalize hW9:World.setCell _ _ _=W9;have HR9:=hid (Res.move HRB.o hW9);have HE9:Hid (Ext w W9):=hid (by rw[<-hW9];exact HEW.o);clear hW9 HRB HPA HEW HXend r0 r1 r2 r3 r4 r5 f0 f1 f2 f3 f4 rg HRo;obtain⟨⟨t0,t1,t2,t3,t4, -⟩,t5, -⟩:=HR9.o
      go_wp2
      refine bodyPost_ret (v:= .tuple #[.agg #[.int .i64 1,.int .i64 ts,.int .i64 tc,.slice A na ca,.slice B nb cb],.bool r]) (by simp[results,Tryz.results67,go_sem,t0,t1,t2,t3,t4,t5]) rfl ?_;exact⟨_,r,_,rfl,HV.o,HE9.o,HALT.o⟩
  ·have g2:(off == 0)=false:=by simp[ho0]
   have HALT:Hid (Alt false o (Ty.mk 1 ts tc te tf)):=hid (.inr ⟨rfl,by rw[<-HOO.o,if_neg fun h=>ho0 h.1]⟩);clear ho0
   go_wp2_with fail
   have HRo:=hid HRB.o;obtain⟨⟨r0,r1,r2,r3,r4,rf⟩,r5,rg⟩:=HRo.o;have f0:=rf 0;have f1:=rf 1;have f2:=rf 2;have f3:=rf 3;have f4:=rf 4;clear rf;clear o0 o1 o2 o3 o4 p0 q0;have HXg4q_0:=hid ((Ext.refl W0).drew);refine wp_region_held_drew (S:=(fun w'=>(w'.cell? ⟨w.heap.size,0,none⟩=some (.int .i64 1)/\w'.cell? ⟨w.heap.size,1,none⟩=some (.int .i64 ts)/\w'.cell? ⟨w.heap.size,2,none⟩=some (.int .i64 tc)/\w'.cell? ⟨w.heap.size,3,none⟩=some (.slice A na ca)/\w'.cell? ⟨w.heap.size,4,none⟩=some (.slice B nb cb))/\w'.cell? ⟨w.heap.size+1,0,none⟩=some (.int .i64 off)/\w'.cell? ⟨w.heap.size+1+1,0,none⟩=some (.int .i64 wd))) (by kernel_rfl) (HPA.o.ext (Ext.refl W0).drew) (fun hSg4q0=>?_);refine QB 0 1 2 3 ?_;refine ZM 4 5 ?_;refine wpAnyH_ready (rs:=[6]) (by kernel_rfl) (by simp) ?_;refine(AllReadyH.consL rfl (fun K hK=>?g4qb6x7) AllReadyH.nil)
   case' g4qb6x7=>
    refine cast (if_neg (fun h=>Bool.noConfusion (show false=true from h))).symm ?_;refine rgK hK (by assumption) (fun hSg4q0n7=>?_);clear hK K;refine rgU 7 ?_;refine rgT 8 ?_;refine wpAnyH_ready (rs:=[9]) (by kernel_rfl) (by simp) ?_;refine(AllReadyH.consL rfl (fun K hK=>?g4qb9x10) AllReadyH.nil)
    case' g4qb9x10=>
     go_simp;have HRB:=hid (HRB.o.put5 (.int .i64 1) (.int .i64 ts) (.int .i64 tc) (.slice A na ca) (.slice B nb cb));have HPA:=hid (HPA.o.put5 (.int .i64 1) (.int .i64 ts) (.int .i64 tc) (.slice A na ca) (.slice B nb cb));have HEW:=hid (ZD (b:=w.heap.size+1+1+1) HEW.o (by omega) (.int .i64 1) (.int .i64 ts) (.int .i64 tc) (.slice A na ca) (.slice B nb cb));have HXg4q_1:=HEW;have HXend:=HEW;refine rgK hK (HPA.o.ext (Ext.refl _).drew) (fun hSg4q1=>?_);clear hK K;refine wpAnyH_ready (rs:=[10]) (by kernel_rfl) (by simp) ?_;refine(AllReadyH.consL rfl (fun K hK=>?g4qb10x11) AllReadyH.nil)
     case' g4qb10x11=>
      go_simp;have HRB:=hid (HRB.o.put1 false);have HPA:=hid (HPA.o.put1 (.bool false));have HEW:=hid (Vb (b:=w.heap.size+1+1+1+1) HEW.o (by omega) (.bool false));have HXg4q_2:=HEW;have HXend:=HEW;refine rgK hK (HPA.o.ext (Ext.refl _).drew) (fun hSg4q2=>?_);clear hK K;refine wpAnyH_done (by kernel_rfl) ?_ _;generalize hW9:World.drew _=W9;have HR9:=hid (Res.move (HRB.o.ext (Ext.refl _).drew) hW9);have HE9:Hid (Ext w W9):=hid (by rw[<-hW9];exact HEW.o.drew);clear hW9 HRB HPA HEW HXend r0 r1 r2 r3 r4 r5 f0 f1 f2 f3 f4 rg HRo;obtain⟨⟨t0,t1,t2,t3,t4, -⟩,t5, -⟩:=HR9.o
      go_wp2
      refine bodyPost_ret (v:= .tuple #[.agg #[.int .i64 1,.int .i64 ts,.int .i64 tc,.slice A na ca,.slice B nb cb],.bool false]) (by simp[results,Tryz.results67,go_sem,t0,t1,t2,t3,t4,t5]) rfl ?_;exact⟨_,false,_,rfl,HV.o,HE9.o,HALT.o⟩
 case inr.inl=>
  go_enter Tryz.func67,Tryz.ntmps67;by_cases ho0:off=0
  ·have g3:(off == 0)=true:=by simp[ho0]
   obtain⟨r,g2⟩:=Qg ((wd == sz))
   have HALT:Hid (Alt r o (Ty.mk 2 ts tc te tf)):=hid (by
    unfold Alt;rw[<-g2,<-HOO.o];by_cases ho1:wd=sz
    ·exact .inl ⟨by simp[ho1],if_pos ⟨ho0,ho1⟩⟩
    ·exact .inr ⟨by simp[ho1],if_neg fun h=>ho1 h.2⟩)
   clear ho0
   go_wp2_with fail
   have HRo:=hid HRB.o;obtain⟨⟨r0,r1,r2,r3,r4,rf⟩,r5,rg⟩:=HRo.o;have f0:=rf 0;have f1:=rf 1;have f2:=rf 2;have f3:=rf 3;have f4:=rf 4;clear rf;clear o0 o1 o2 o3 o4 p0 q0;have HXg5q_0:=hid ((Ext.refl W0).drew);refine wp_region_held_drew (S:=(fun w'=>(w'.cell? ⟨w.heap.size,0,none⟩=some (.int .i64 2)/\w'.cell? ⟨w.heap.size,1,none⟩=some (.int .i64 ts)/\w'.cell? ⟨w.heap.size,2,none⟩=some (.int .i64 tc)/\w'.cell? ⟨w.heap.size,3,none⟩=some (.slice A na ca)/\w'.cell? ⟨w.heap.size,4,none⟩=some (.slice B nb cb))/\w'.cell? ⟨w.heap.size+1,0,none⟩=some (.int .i64 off)/\w'.cell? ⟨w.heap.size+1+1,0,none⟩=some (.int .i64 wd))) (by kernel_rfl) (HPA.o.ext (Ext.refl W0).drew) (fun hSg5q0=>?_);refine Qp 0 1 2 3 4 5 ?_;refine wpAnyH_ready (rs:=[6]) (by kernel_rfl) (by simp) ?_;refine(AllReadyH.consL rfl (fun K hK=>?g5qb6x7) AllReadyH.nil)
   case' g5qb6x7=>
    go_simp;go_at_call 91;refine(HSZ.o _ (by first|exact HEW.o.drew|exact HEW.o)).mono ?_;rintro e w5 ⟨rfl,hx5⟩;have hx5:Ext _ w5:=hx5.drew_left;have HRB:=hid (HRB.o.ext hx5);have HPA:=hid (HPA.o.ext hx5);have HEW:=hid (HEW.o.trans hx5);clear hx5 r0 r1 r2 r3 r4 r5 f0 f1 f2 f3 f4 rg HRo;have HRo:=hid HRB.o;obtain⟨⟨r0,r1,r2,r3,r4,rf⟩,r5,rg⟩:=HRo.o;have f0:=rf 0;have f1:=rf 1;have f2:=rf 2;have f3:=rf 3;have f4:=rf 4;clear rf;have HXg5q_1:=HEW;have HXend:=HEW;refine rgK hK HPA.o (fun hSg5q1=>?_);clear hK K;refine QJ 7 8 ?_;refine wpAnyH_ready (rs:=[9]) (by kernel_rfl) (by simp) ?_;refine(AllReadyH.consL rfl (fun K hK=>?g5qb9x10) AllReadyH.nil)
    case' g5qb9x10=>
     go_simp;have HRB:=hid (HRB.o.put5 (.int .i64 2) (.int .i64 ts) (.int .i64 tc) (.slice A na ca) (.slice B nb cb));have HPA:=hid (HPA.o.put5 (.int .i64 2) (.int .i64 ts) (.int .i64 tc) (.slice A na ca) (.slice B nb cb));have HEW:=hid (ZD (b:=w.heap.size+1+1+1) HEW.o (by omega) (.int .i64 2) (.int .i64 ts) (.int .i64 tc) (.slice A na ca) (.slice B nb cb));have HXg5q_2:=HEW;have HXend:=HEW;refine rgK hK HPA.o (fun hSg5q2=>?_);clear hK K;refine wpAnyH_ready (rs:=[10]) (by kernel_rfl) (by simp) ?_;refine(AllReadyH.consL rfl (fun K hK=>?g5qb10x11) AllReadyH.nil)
     case' g5qb10x11=>
      go_simp;have HRB:=hid (HRB.o.put1 r);have HPA:=hid (HPA.o.put1 (.bool r));have HEW:=hid (Vb (b:=w.heap.size+1+1+1+1) HEW.o (by omega) (.bool r));have HXg5q_3:=HEW;have HXend:=HEW;refine rgK hK HPA.o (fun hSg5q3=>?_);clear hK K;refine wpAnyH_done (by kernel_rfl) ?_ _;generalize hW9:World.setCell _ _ _=W9;have HR9:=hid (Res.move HRB.o hW9);have HE9:Hid (Ext w W9):=hid (by rw[<-hW9];exact HEW.o);clear hW9 HRB HPA HEW HXend r0 r1 r2 r3 r4 r5 f0 f1 f2 f3 f4 rg HRo;obtain⟨⟨t0,t1,t2,t3,t4, -⟩,t5, -⟩:=HR9.o
      go_wp2
      refine bodyPost_ret (v:= .tuple #[.agg #[.int .i64 2,.int .i64 ts,.int .i64 tc,.slice A na ca,.slice B nb cb],.bool r]) (by simp[results,Tryz.results67,go_sem,t0,t1,t2,t3,t4,t5]) rfl ?_;exact⟨_,r,_,rfl,HV.o,HE9.o,HALT.o⟩
  ·have g2:(off == 0)=false:=by simp[ho0]
   have HALT:Hid (Alt false o (Ty.mk 2 ts tc te tf)):=hid (.inr ⟨rfl,by rw[<-HOO.o,if_neg fun h=>ho0 h.1]⟩);clear ho0
   go_wp2_with fail
   have HRo:=hid HRB.o;obtain⟨⟨r0,r1,r2,r3,r4,rf⟩,r5,rg⟩:=HRo.o;have f0:=rf 0;have f1:=rf 1;have f2:=rf 2;have f3:=rf 3;have f4:=rf 4;clear rf;clear o0 o1 o2 o3 o4 p0 q0;have HXg6q_0:=hid ((Ext.refl W0).drew);refine wp_region_held_drew (S:=(fun w'=>(w'.cell? ⟨w.heap.size,0,none⟩=some (.int .i64 2)/\w'.cell? ⟨w.heap.size,1,none⟩=some (.int .i64 ts)/\w'.cell? ⟨w.heap.size,2,none⟩=some (.int .i64 tc)/\w'.cell? ⟨w.heap.size,3,none⟩=some (.slice A na ca)/\w'.cell? ⟨w.heap.size,4,none⟩=some (.slice B nb cb))/\w'.cell? ⟨w.heap.size+1,0,none⟩=some (.int .i64 off)/\w'.cell? ⟨w.heap.size+1+1,0,none⟩=some (.int .i64 wd))) (by kernel_rfl) (HPA.o.ext (Ext.refl W0).drew) (fun hSg6q0=>?_);refine QB 0 1 2 3 ?_;refine ZM 4 5 ?_;refine wpAnyH_ready (rs:=[6]) (by kernel_rfl) (by simp) ?_;refine(AllReadyH.consL rfl (fun K hK=>?g6qb6x7) AllReadyH.nil)
   case' g6qb6x7=>
    refine cast (if_neg (fun h=>Bool.noConfusion (show false=true from h))).symm ?_;refine rgK hK (by assumption) (fun hSg6q0n7=>?_);clear hK K;refine rgU 7 ?_;refine rgT 8 ?_;refine wpAnyH_ready (rs:=[9]) (by kernel_rfl) (by simp) ?_;refine(AllReadyH.consL rfl (fun K hK=>?g6qb9x10) AllReadyH.nil)
    case' g6qb9x10=>
     go_simp;have HRB:=hid (HRB.o.put5 (.int .i64 2) (.int .i64 ts) (.int .i64 tc) (.slice A na ca) (.slice B nb cb));have HPA:=hid (HPA.o.put5 (.int .i64 2) (.int .i64 ts) (.int .i64 tc) (.slice A na ca) (.slice B nb cb));have HEW:=hid (ZD (b:=w.heap.size+1+1+1) HEW.o (by omega) (.int .i64 2) (.int .i64 ts) (.int .i64 tc) (.slice A na ca) (.slice B nb cb));have HXg6q_1:=HEW;have HXend:=HEW;refine rgK hK (HPA.o.ext (Ext.refl _).drew) (fun hSg6q1=>?_);clear hK K;refine wpAnyH_ready (rs:=[10]) (by kernel_rfl) (by simp) ?_;refine(AllReadyH.consL rfl (fun K hK=>?g6qb10x11) AllReadyH.nil)
     case' g6qb10x11=>
      go_simp;have HRB:=hid (HRB.o.put1 false);have HPA:=hid (HPA.o.put1 (.bool false));have HEW:=hid (Vb (b:=w.heap.size+1+1+1+1) HEW.o (by omega) (.bool false));have HXg6q_2:=HEW;have HXend:=HEW;refine rgK hK (HPA.o.ext (Ext.refl _).drew) (fun hSg6q2=>?_);clear hK K;refine wpAnyH_done (by kernel_rfl) ?_ _;generalize hW9:World.drew _=W9;have HR9:=hid (Res.move (HRB.o.ext (Ext.refl _).drew) hW9);have HE9:Hid (Ext w W9):=hid (by rw[<-hW9];exact HEW.o.drew);clear hW9 HRB HPA HEW HXend r0 r1 r2 r3 r4 r5 f0 f1 f2 f3 f4 rg HRo;obtain⟨⟨t0,t1,t2,t3,t4, -⟩,t5, -⟩:=HR9.o
      go_wp2
      refine bodyPost_ret (v:= .tuple #[.agg #[.int .i64 2,.int .i64 ts,.int .i64 tc,.slice A na ca,.slice B nb cb],.bool false]) (by simp[results,Tryz.results67,go_sem,t0,t1,t2,t3,t4,t5]) rfl ?_;exact⟨_,false,_,rfl,HV.o,HE9.o,HALT.o⟩
 case inr.inr=>
  go_enter Tryz.func67,Tryz.ntmps67;by_cases ho0:off=0
  ·have g3:(off == 0)=true:=by simp[ho0]
   obtain⟨r,g2⟩:=Qg ((wd == sz))
   have HALT:Hid (Alt r o (Ty.mk 3 ts tc te tf)):=hid (by
    unfold Alt;rw[<-g2,<-HOO.o];by_cases ho1:wd=sz
    ·exact .inl ⟨by simp[ho1],if_pos ⟨ho0,ho1⟩⟩
    ·exact .inr ⟨by simp[ho1],if_neg fun h=>ho1 h.2⟩)
   clear ho0
   go_wp2_with fail
   have HRo:=hid HRB.o;obtain⟨⟨r0,r1,r2,r3,r4,rf⟩,r5,rg⟩:=HRo.o;have f0:=rf 0;have f1:=rf 1;have f2:=rf 2;have f3:=rf 3;have f4:=rf 4;clear rf;clear o0 o1 o2 o3 o4 p0 q0;have HXg7q_0:=hid ((Ext.refl W0).drew);refine wp_region_held_drew (S:=(fun w'=>(w'.cell? ⟨w.heap.size,0,none⟩=some (.int .i64 3)/\w'.cell? ⟨w.heap.size,1,none⟩=some (.int .i64 ts)/\w'.cell? ⟨w.heap.size,2,none⟩=some (.int .i64 tc)/\w'.cell? ⟨w.heap.size,3,none⟩=some (.slice A na ca)/\w'.cell? ⟨w.heap.size,4,none⟩=some (.slice B nb cb))/\w'.cell? ⟨w.heap.size+1,0,none⟩=some (.int .i64 off)/\w'.cell? ⟨w.heap.size+1+1,0,none⟩=some (.int .i64 wd))) (by kernel_rfl) (HPA.o.ext (Ext.refl W0).drew) (fun hSg7q0=>?_);refine Qp 0 1 2 3 4 5 ?_;refine wpAnyH_ready (rs:=[6]) (by kernel_rfl) (by simp) ?_;refine(AllReadyH.consL rfl (fun K hK=>?g7qb6x7) AllReadyH.nil)
   case' g7qb6x7=>
    go_simp;go_at_call 91;refine(HSZ.o _ (by first|exact HEW.o.drew|exact HEW.o)).mono ?_;rintro e w5 ⟨rfl,hx5⟩;have hx5:Ext _ w5:=hx5.drew_left;have HRB:=hid (HRB.o.ext hx5);have HPA:=hid (HPA.o.ext hx5);have HEW:=hid (HEW.o.trans hx5);clear hx5 r0 r1 r2 r3 r4 r5 f0 f1 f2 f3 f4 rg HRo;have HRo:=hid HRB.o;obtain⟨⟨r0,r1,r2,r3,r4,rf⟩,r5,rg⟩:=HRo.o;have f0:=rf 0;have f1:=rf 1;have f2:=rf 2;have f3:=rf 3;have f4:=rf 4;clear rf;have HXg7q_1:=HEW;have HXend:=HEW;refine rgK hK HPA.o (fun hSg7q1=>?_);clear hK K;refine QJ 7 8 ?_;refine wpAnyH_ready (rs:=[9]) (by kernel_rfl) (by simp) ?_;refine(AllReadyH.consL rfl (fun K hK=>?g7qb9x10) AllReadyH.nil)
    case' g7qb9x10=>
     go_simp;have HRB:=hid (HRB.o.put5 (.int .i64 3) (.int .i64 ts) (.int .i64 tc) (.slice A na ca) (.slice B nb cb));have HPA:=hid (HPA.o.put5 (.int .i64 3) (.int .i64 ts) (.int .i64 tc) (.slice A na ca) (.slice B nb cb));have HEW:=hid (ZD (b:=w.heap.size+1+1+1) HEW.o (by omega) (.int .i64 3) (.int .i64 ts) (.int .i64 tc) (.slice A na ca) (.slice B nb cb));have HXg7q_2:=HEW;have HXend:=HEW;refine rgK hK HPA.o (fun hSg7q2=>?_);clear hK K;refine wpAnyH_ready (rs:=[10]) (by kernel_rfl) (by simp) ?_;refine(AllReadyH.consL rfl (fun K hK=>?g7qb10x11) AllReadyH.nil)
     case' g7qb10x11=>
      go_simp;have HRB:=hid (HRB.o.put1 r);have HPA:=hid (HPA.o.put1 (.bool r));have HEW:=hid (Vb (b:=w.heap.size+1+1+1+1) HEW.o (by omega) (.bool r));have HXg7q_3:=HEW;have HXend:=HEW;refine rgK hK HPA.o (fun hSg7q3=>?_);clear hK K;refine wpAnyH_done (by kernel_rfl) ?_ _;generalize hW9:World.setCell _ _ _=W9;have HR9:=hid (Res.move HRB.o hW9);have HE9:Hid (Ext w W9):=hid (by rw[<-hW9];exact HEW.o);clear hW9 HRB HPA HEW HXend r0 r1 r2 r3 r4 r5 f0 f1 f2 f3 f4 rg HRo;obtain⟨⟨t0,t1,t2,t3,t4, -⟩,t5, -⟩:=HR9.o
      go_wp2
      refine bodyPost_ret (v:= .tuple #[.agg #[.int .i64 3,.int .i64 ts,.int .i64 tc,.slice A na ca,.slice B nb cb],.bool r]) (by simp[results,Tryz.results67,go_sem,t0,t1,t2,t3,t4,t5]) rfl ?_;exact⟨_,r,_,rfl,HV.o,HE9.o,HALT.o⟩
  ·have g2:(off == 0)=false:=by simp[ho0]
   have HALT:Hid (Alt false o (Ty.mk 3 ts tc te tf)):=hid (.inr ⟨rfl,by rw[<-HOO.o,if_neg fun h=>ho0 h.1]⟩);clear ho0
   go_wp2_with fail
   have HRo:=hid HRB.o;obtain⟨⟨r0,r1,r2,r3,r4,rf⟩,r5,rg⟩:=HRo.o;have f0:=rf 0;have f1:=rf 1;have f2:=rf 2;have f3:=rf 3;have f4:=rf 4;clear rf;clear o0 o1 o2 o3 o4 p0 q0;have HXg8q_0:=hid ((Ext.refl W0).drew);refine wp_region_held_drew (S:=(fun w'=>(w'.cell? ⟨w.heap.size,0,none⟩=some (.int .i64 3)/\w'.cell? ⟨w.heap.size,1,none⟩=some (.int .i64 ts)/\w'.cell? ⟨w.heap.size,2,none⟩=some (.int .i64 tc)/\w'.cell? ⟨w.heap.size,3,none⟩=some (.slice A na ca)/\w'.cell? ⟨w.heap.size,4,none⟩=some (.slice B nb cb))/\w'.cell? ⟨w.heap.size+1,0,none⟩=some (.int .i64 off)/\w'.cell? ⟨w.heap.size+1+1,0,none⟩=some (.int .i64 wd))) (by kernel_rfl) (HPA.o.ext (Ext.refl W0).drew) (fun hSg8q0=>?_);refine QB 0 1 2 3 ?_;refine ZM 4 5 ?_;refine wpAnyH_ready (rs:=[6]) (by kernel_rfl) (by simp) ?_;refine(AllReadyH.consL rfl (fun K hK=>?g8qb6x7) AllReadyH.nil)
   case' g8qb6x7=>
    refine cast (if_neg (fun h=>Bool.noConfusion (show false=true from h))).symm ?_;refine rgK hK (by assumption) (fun hSg8q0n7=>?_);clear hK K;refine rgU 7 ?_;refine rgT 8 ?_;refine wpAnyH_ready (rs:=[9]) (by kernel_rfl) (by simp) ?_;refine(AllReadyH.consL rfl (fun K hK=>?g8qb9x10) AllReadyH.nil)
    case' g8qb9x10=>
     go_simp;have HRB:=hid (HRB.o.put5 (.int .i64 3) (.int .i64 ts) (.int .i64 tc) (.slice A na ca) (.slice B nb cb));have HPA:=hid (HPA.o.put5 (.int .i64 3) (.int .i64 ts) (.int .i64 tc) (.slice A na ca) (.slice B nb cb));have HEW:=hid (ZD (b:=w.heap.size+1+1+1) HEW.o (by omega) (.int .i64 3) (.int .i64 ts) (.int .i64 tc) (.slice A na ca) (.slice B nb cb));have HXg8q_1:=HEW;have HXend:=HEW;refine rgK hK (HPA.o.ext (Ext.refl _).drew) (fun hSg8q1=>?_);clear hK K;refine wpAnyH_ready (rs:=[10]) (by kernel_rfl) (by simp) ?_;refine(AllReadyH.consL rfl (fun K hK=>?g8qb10x11) AllReadyH.nil)
     case' g8qb10x11=>
      go_simp;have HRB:=hid (HRB.o.put1 false);have HPA:=hid (HPA.o.put1 (.bool false));have HEW:=hid (Vb (b:=w.heap.size+1+1+1+1) HEW.o (by omega) (.bool false));have HXg8q_2:=HEW;have HXend:=HEW;refine rgK hK (HPA.o.ext (Ext.refl _).drew) (fun hSg8q2=>?_);clear hK K;refine wpAnyH_done (by kernel_rfl) ?_ _;generalize hW9:World.drew _=W9;have HR9:=hid (Res.move (HRB.o.ext (Ext.refl _).drew) hW9);have HE9:Hid (Ext w W9):=hid (by rw[<-hW9];exact HEW.o.drew);clear hW9 HRB HPA HEW HXend r0 r1 r2 r3 r4 r5 f0 f1 f2 f3 f4 rg HRo;obtain⟨⟨t0,t1,t2,t3,t4, -⟩,t5, -⟩:=HR9.o
      go_wp2
      refine bodyPost_ret (v:= .tuple #[.agg #[.int .i64 3,.int .i64 ts,.int .i64 tc,.slice A na ca,.slice B nb cb],.bool false]) (by simp[results,Tryz.results67,go_sem,t0,t1,t2,t3,t4,t5]) rfl ?_;exact⟨_,false,_,rfl,HV.o,HE9.o,HALT.o⟩
theorem d9 (ts tc:Int)(x:Ty)(tf:List (Int×Ty))(off wd:Int):faT (.mk 4 ts tc [x] tf) off wd=if off<0\/szT (.mk 4 ts tc [x] tf)<=off then none else faT x (off % szT x) wd:=by
 rw[faT,if_neg (by omega),if_neg (by omega),if_pos rfl];rfl
theorem nK (ts tc:Int)(x:Ty)(tf:List (Int×Ty)):szT (.mk 4 ts tc [x] tf)=min (tc * szT x) 65537:=by simp[szT,szE]
theorem lq (d:Nat)(ih:∀d',d'<d->kD d')(wo w:World)(ts tc:Int)(te:List Ty)(tf:List (Int×Ty))(off wd:Int)(A B:Option Addr)(na ca nb cb:Nat)(hx:Ext wo w)
  (hv:TyV d wo All (.agg #[.int .i64 4,.int .i64 ts,.int .i64 tc,.slice A na ca,.slice B nb cb]) (.mk 4 ts tc te tf)) (hf:Qd (.mk 4 ts tc te tf)=true) (hi:Qy off) (hwd:wd=1\/wd=2\/wd=4):
  Calls Tryz.prog 67 #[.agg #[.int .i64 4,.int .i64 ts,.int .i64 tc,.slice A na ca,.slice B nb cb],.int .i64 off,.int .i64 wd] w (Kd d wo w (faT (.mk 4 ts tc te tf) off wd)):=by
 have hte:∃x,te=[x]/\Qd x=true/\1<=tc:=by
  rcases Z1 hf with(h|h)|⟨s,hs,(h|h)⟩|⟨x,h,hx⟩|⟨x,m,h,hm1,hm2,hx⟩|⟨l,h,hl⟩
  ·cases h
  ·cases h
  ·cases h
  ·cases h
  ·cases h
  ·cases h;exact⟨x,rfl,hx,hm1⟩
  ·cases h
 obtain⟨x,rfl,hfx,htc⟩:=hte;have HSZ:=hid (fun W (hW:Ext w W)=>kq d W _ _ ((hv.ext (hx.trans hW))) hf);obtain⟨A',n',c',B',m',e',hv',hE, -, -⟩:=id hv;injection hv' with hv'
 simp only[Array.mk.injEq,List.cons.injEq,Value.slice.injEq,and_true]at hv';obtain⟨-, -, -,⟨rfl,rfl,rfl⟩,rfl,rfl,rfl⟩:=hv';obtain⟨d',b,of,A1,n1,c1,B1,m1,e1,rfl,rfl,hv1,x0,x1,x2,x3,x4⟩:=hE.ty_at (k:=0) (t:=x) rfl;rw[Nat.zero_mul,Nat.add_zero]at x0 x1 x2 x3 x4;have hlen:na=1:=hE.len;have hna:(0:Int)<(na:Int):=by omega
 have hna2:0<na:=by omega
 have HEL:=hid (fun W (hW:Ext w W)=>And.intro ((hx.trans hW).cell x0) (And.intro ((hx.trans hW).cell x1) (And.intro ((hx.trans hW).cell x2) (And.intro ((hx.trans hW).cell x3) ((hx.trans hW).cell x4)))));have HSX:=hid (fun W (hW:Ext w W)=>kq d' W x _ (hv1.ext (hx.trans hW)) hfx);have HIH:=hid (fun W (hW:Ext w W) o1 (ho1:Qy o1)=>ih d' (by omega) wo W x _ o1 wd (hx.trans hW) hv1 hfx ho1 hwd);have hx0:=Kw x hfx;have hx9:=qB x;have HSE:=hid (nK ts tc x tf);rw[d9];obtain⟨o,hoo⟩:=Qg ((if off<0\/szT (.mk 4 ts tc [x] tf)<=off then none else faT x (off % szT x) wd));rw[hoo];obtain⟨sz,hsz⟩:=Qg (szT (.mk 4 ts tc [x] tf));rw[hsz]at HSZ hoo HSE;obtain⟨sx,hsx⟩:=Qg (szT x);rw[hsx]at HSX hoo HSE hx0 hx9;have HOO:=hid hoo;clear hsz hsx x0 x1 x2 x3 x4 hE hlen hv1 ih;have HV:=hid hv;obtain⟨W0,hW0⟩:=Qg (((((w.alloc (.cells #[.int .i64 4,.int .i64 ts,.int .i64 tc,.slice (some ⟨b,of,none⟩) na ca,.slice B nb cb] 42)).alloc (.cells #[.int .i64 off] 3)).alloc (.cells #[.int .i64 wd] 3)).alloc (.cells #[.int .i64 0,.int .i64 0,.int .i64 0,.slice none 0 0,.slice none 0 0] 42)).alloc (.cells #[.bool false] 4));have HEW:=hid (by rw[<-hW0];exact(((((Ext.refl w).alloc _).alloc _).alloc _).alloc _).alloc _:Ext w W0)
 have HPA:Hid (Par W0 w.heap.size (.int .i64 4) (.int .i64 ts) (.int .i64 tc) (.slice (some ⟨b,of,none⟩) na ca) (.slice B nb cb) (.int .i64 off) (.int .i64 wd)):=hid (by
  rw[<-hW0];refine⟨⟨?_, ?_, ?_, ?_, ?_⟩, ?_, ?_⟩ <;> simp[go_sem])
 have HRB:Hid (Res W0 (w.heap.size+1+1+1) (.int .i64 0) (.int .i64 0) (.int .i64 0) (.slice none 0 0) (.slice none 0 0) false):=hid (by
  rw[<-hW0];refine⟨⟨?_, ?_, ?_, ?_, ?_,fun i=>?_⟩, ?_, ?_⟩ <;> simp[go_sem])
 have o0:=HPA.o.1.1;have o1:=HPA.o.1.2.1;have o2:=HPA.o.1.2.2.1;have o3:=HPA.o.1.2.2.2.1;have o4:=HPA.o.1.2.2.2.2;have p0:=HPA.o.2.1;have q0:=HPA.o.2.2;clear hv hoo;by_cases h1:off<0
 case pos=>
  have g1:decide (off<0)=true:=Qv h1;have HNO:Hid (o=none):=hid (by rw[<-HOO.o,if_pos (.inl h1)]);clear h1;go_enter Tryz.func67,Tryz.ntmps67
  go_wp2_with fail
  refine wp_region_held_drew (S:=(fun w'=>(w'.cell? ⟨w.heap.size,0,none⟩=some (.int .i64 4)/\w'.cell? ⟨w.heap.size,1,none⟩=some (.int .i64 ts)/\w'.cell? ⟨w.heap.size,2,none⟩=some (.int .i64 tc)/\w'.cell? ⟨w.heap.size,3,none⟩=some (.slice (some ⟨b,of,none⟩) na ca)/\w'.cell? ⟨w.heap.size,4,none⟩=some (.slice B nb cb))/\w'.cell? ⟨w.heap.size+1,0,none⟩=some (.int .i64 off)/\w'.cell? ⟨w.heap.size+1+1,0,none⟩=some (.int .i64 wd))) (by kernel_rfl) (HPA.o.ext (Ext.refl W0).drew) (fun hSg1q0=>?_);refine Zd 0 1 2 ?_;refine ZM 3 4 ?_;refine rgC 5 (fun K hK=>?_);refine cast (if_neg (fun h=>Bool.noConfusion (show false=true from h))).symm ?_;refine rgK hK (by assumption) (fun hSg1q1=>?_);clear hK K;refine rgU 6 ?_;refine rgT 7 ?_;refine wpAnyH_done (by kernel_rfl) ?_ _;clear o0 o1 o2 o3 o4 p0 q0;go_upto_region 11 with fail
  have HRB:=hid (HRB.o.ext (Ext.refl W0).drew);have HPA:=hid (HPA.o.ext (Ext.refl W0).drew);have HEW:=hid HEW.o.drew;obtain⟨U,hU⟩:=Qg (W0.drew);rw[hU]at HRB HPA HEW ⊢;clear hU;have o0:=HPA.o.1.1;have o1:=HPA.o.1.2.1;have o2:=HPA.o.1.2.2.1;have o3:=HPA.o.1.2.2.2.1;have o4:=HPA.o.1.2.2.2.2;have p0:=HPA.o.2.1;have q0:=HPA.o.2.2;have HRo:=hid HRB.o;obtain⟨⟨r0,r1,r2,r3,r4,rf⟩,r5,rg⟩:=HRo.o;have f0:=rf 0;have f1:=rf 1;have f2:=rf 2;have f3:=rf 3;have f4:=rf 4;clear rf
  go_wp2
  have HRB:=hid ((HRB.o.put5 (.int .i64 4) (.int .i64 ts) (.int .i64 tc) (.slice (some ⟨b,of,none⟩) na ca) (.slice B nb cb)).put1 false);have HEW:=hid (Vb (b:=w.heap.size+1+1+1+1) (ZD (b:=w.heap.size+1+1+1) HEW.o (by omega) (.int .i64 4) (.int .i64 ts) (.int .i64 tc) (.slice (some ⟨b,of,none⟩) na ca) (.slice B nb cb)) (by omega) (.bool false));generalize hW9:World.setCell _ _ _=W9;have HR9:=hid (Res.move HRB.o hW9);have HE9:Hid (Ext w W9):=hid (by rw[<-hW9];exact HEW.o);clear o0 o1 o2 o3 o4 p0 q0 HPA HRo;clear hW9 HRB HEW r0 r1 r2 r3 r4 r5 f0 f1 f2 f3 f4 rg;obtain⟨⟨t0,t1,t2,t3,t4, -⟩,t5, -⟩:=HR9.o
  (try simp only[Exit.inBlock,Exit.then])
  refine bodyPost_ret (v:= .tuple #[.agg #[.int .i64 4,.int .i64 ts,.int .i64 tc,(.slice (some ⟨b,of,none⟩) na ca),.slice B nb cb],.bool false]) (by simp[results,Tryz.results67,go_sem,t0,t1,t2,t3,t4,t5]) rfl ?_;exact⟨_,false,_,rfl,HV.o,HE9.o,.inr ⟨rfl,HNO.o⟩⟩
 have g1:decide (off<0)=false:=Qw h1;by_cases h2:off>=sz
 case pos=>
  have g2:decide (off>=sz)=true:=Qv h2;have HNO:Hid (o=none):=hid (by rw[<-HOO.o,if_pos (.inr h2)]);clear h1 h2;go_enter Tryz.func67,Tryz.ntmps67
  go_wp2_with fail
  refine wp_region_held_drew (S:=(fun w'=>(w'.cell? ⟨w.heap.size,0,none⟩=some (.int .i64 4)/\w'.cell? ⟨w.heap.size,1,none⟩=some (.int .i64 ts)/\w'.cell? ⟨w.heap.size,2,none⟩=some (.int .i64 tc)/\w'.cell? ⟨w.heap.size,3,none⟩=some (.slice (some ⟨b,of,none⟩) na ca)/\w'.cell? ⟨w.heap.size,4,none⟩=some (.slice B nb cb))/\w'.cell? ⟨w.heap.size+1,0,none⟩=some (.int .i64 off)/\w'.cell? ⟨w.heap.size+1+1,0,none⟩=some (.int .i64 wd))) (by kernel_rfl) (HPA.o.ext (Ext.refl W0).drew) (fun hSg2q0=>?_);refine QB 0 1 2 3 ?_;refine rgT 4 ?_;refine rgC 5 (fun K hK=>?_);go_simp;go_at_call 91;refine(HSZ.o _ HEW.o.drew).mono ?_;rintro e w5 ⟨rfl,hx5⟩;have hx5:Ext _ w5:=hx5.drew_left;have HRB:=hid (HRB.o.ext hx5);have HPA:=hid (HPA.o.ext hx5);have HEW:=hid (HEW.o.trans hx5);clear hx5;refine rgK hK HPA.o (fun hSg2q1=>?_);clear hK K;refine QJ 6 7 ?_;refine wpAnyH_done (by kernel_rfl) ?_ _;clear o0 o1 o2 o3 o4 p0 q0;go_upto_region 11 with fail
  have o0:=HPA.o.1.1;have o1:=HPA.o.1.2.1;have o2:=HPA.o.1.2.2.1;have o3:=HPA.o.1.2.2.2.1;have o4:=HPA.o.1.2.2.2.2;have p0:=HPA.o.2.1;have q0:=HPA.o.2.2;have HRo:=hid HRB.o;obtain⟨⟨r0,r1,r2,r3,r4,rf⟩,r5,rg⟩:=HRo.o;have f0:=rf 0;have f1:=rf 1;have f2:=rf 2;have f3:=rf 3;have f4:=rf 4;clear rf
  go_wp2
  have HRB:=hid ((HRB.o.put5 (.int .i64 4) (.int .i64 ts) (.int .i64 tc) (.slice (some ⟨b,of,none⟩) na ca) (.slice B nb cb)).put1 false);have HEW:=hid (Vb (b:=w.heap.size+1+1+1+1) (ZD (b:=w.heap.size+1+1+1) HEW.o (by omega) (.int .i64 4) (.int .i64 ts) (.int .i64 tc) (.slice (some ⟨b,of,none⟩) na ca) (.slice B nb cb)) (by omega) (.bool false));generalize hW9:World.setCell _ _ _=W9;have HR9:=hid (Res.move HRB.o hW9);have HE9:Hid (Ext w W9):=hid (by rw[<-hW9];exact HEW.o);clear o0 o1 o2 o3 o4 p0 q0 HPA HRo;clear hW9 HRB HEW r0 r1 r2 r3 r4 r5 f0 f1 f2 f3 f4 rg;obtain⟨⟨t0,t1,t2,t3,t4, -⟩,t5, -⟩:=HR9.o
  (try simp only[Exit.inBlock,Exit.then])
  refine bodyPost_ret (v:= .tuple #[.agg #[.int .i64 4,.int .i64 ts,.int .i64 tc,(.slice (some ⟨b,of,none⟩) na ca),.slice B nb cb],.bool false]) (by simp[results,Tryz.results67,go_sem,t0,t1,t2,t3,t4,t5]) rfl ?_;exact⟨_,false,_,rfl,HV.o,HE9.o,.inr ⟨rfl,HNO.o⟩⟩
 have g2:decide (off>=sz)=false:=Qw h2
 have hsx0:0<sx:=by
  have:=HSE.o;have h3:sx≠0:=fun e=>by rw[e,Int.mul_zero]at this;omega
  omega
 obtain⟨om,hom⟩:=Qg (off % sx);have htm:Int.tmod off sx=om:=by rw[<-hom];exact Int.tmod_eq_emod_of_nonneg (by omega)
 have hom1:0<=om:=by rw[<-hom];exact Int.emod_nonneg _ (by omega)
 have hom2:om<sx:=by rw[<-hom];exact Int.emod_lt_of_pos _ hsx0
 have hoi:Qy om:=by unfold Qy;omega
 have HO1:Hid (faT x om wd=o):=hid (by rw[<-HOO.o,if_neg (by omega),hom]);have hsn:sx≠0:=by omega
 have hsn2:(sx == 0)=false:=by simp;omega
 clear h1 h2 hom;go_enter Tryz.func67,Tryz.ntmps67
 go_wp2_with fail
 refine wp_region_held_drew (S:=(fun w'=>(w'.cell? ⟨w.heap.size,0,none⟩=some (.int .i64 4)/\w'.cell? ⟨w.heap.size,1,none⟩=some (.int .i64 ts)/\w'.cell? ⟨w.heap.size,2,none⟩=some (.int .i64 tc)/\w'.cell? ⟨w.heap.size,3,none⟩=some (.slice (some ⟨b,of,none⟩) na ca)/\w'.cell? ⟨w.heap.size,4,none⟩=some (.slice B nb cb))/\w'.cell? ⟨w.heap.size+1,0,none⟩=some (.int .i64 off)/\w'.cell? ⟨w.heap.size+1+1,0,none⟩=some (.int .i64 wd))) (by kernel_rfl) (HPA.o.ext (Ext.refl W0).drew) (fun hSg3q0=>?_);refine QB 0 1 2 3 ?_;refine rgT 4 ?_;refine rgC 5 (fun K hK=>?_);go_simp;go_at_call 91;refine(HSZ.o _ HEW.o.drew).mono ?_;rintro e w5 ⟨rfl,hx5⟩;have hx5:Ext _ w5:=hx5.drew_left;have HRB:=hid (HRB.o.ext hx5);have HPA:=hid (HPA.o.ext hx5);have HEW:=hid (HEW.o.trans hx5);clear hx5;refine rgK hK HPA.o (fun hSg3q1=>?_);clear hK K;refine QJ 6 7 ?_;refine wpAnyH_done (by kernel_rfl) ?_ _;clear o0 o1 o2 o3 o4 p0 q0;go_upto_region 12 with fail
 have HRo:=hid HRB.o;obtain⟨⟨r0,r1,r2,r3,r4,rf⟩,r5,rg⟩:=HRo.o;have f0:=rf 0;have f1:=rf 1;have f2:=rf 2;have f3:=rf 3;have f4:=rf 4;clear rf;have HXg4q_0:=hid ((Ext.refl w5).drew);refine wp_region_held_drew (S:=(fun w'=>((w'.cell? ⟨w.heap.size,0,none⟩=some (.int .i64 4)/\w'.cell? ⟨w.heap.size,1,none⟩=some (.int .i64 ts)/\w'.cell? ⟨w.heap.size,2,none⟩=some (.int .i64 tc)/\w'.cell? ⟨w.heap.size,3,none⟩=some (.slice (some ⟨b,of,none⟩) na ca)/\w'.cell? ⟨w.heap.size,4,none⟩=some (.slice B nb cb))/\w'.cell? ⟨w.heap.size+1,0,none⟩=some (.int .i64 off)/\w'.cell? ⟨w.heap.size+1+1,0,none⟩=some (.int .i64 wd))/\w'.cell? ⟨b,of,none⟩=some (.int .i64 x.kind)/\w'.cell? ⟨b,of+1,none⟩=some (.int .i64 x.size)/\w'.cell? ⟨b,of+2,none⟩=some (.int .i64 x.count)/\w'.cell? ⟨b,of+3,none⟩=some (.slice A1 n1 c1)/\w'.cell? ⟨b,of+4,none⟩=some (.slice B1 m1 e1))) (by kernel_rfl) ⟨HPA.o.ext (Ext.refl w5).drew,HEL.o _ HEW.o.drew⟩ (fun hSg4q0=>?_);refine Qp 0 1 2 3 4 5 ?_;refine QB 6 7 8 11 ?_;refine wpAnyH_ready (rs:=[9]) (by kernel_rfl) (by simp) ?_;refine(AllReadyH.consL rfl (fun K hK=>?g4qb9x11) AllReadyH.nil)
 case' g4qb9x11=>
  go_simp;go_at_call 91;refine(HSX.o _ HEW.o.drew).mono ?_;rintro e w6 ⟨rfl,hx6⟩;have hx6:=hx6.drew_left;have hx6:Ext _ w6:=hx6;have HRB:=hid (HRB.o.ext hx6);have HPA:=hid (HPA.o.ext hx6);have HEW:=hid (HEW.o.trans hx6);clear hx6 r0 r1 r2 r3 r4 r5 f0 f1 f2 f3 f4 rg HRo;have HRo:=hid HRB.o;obtain⟨⟨r0,r1,r2,r3,r4,rf⟩,r5,rg⟩:=HRo.o;have f0:=rf 0;have f1:=rf 1;have f2:=rf 2;have f3:=rf 3;have f4:=rf 4;clear rf;have HXg4q_1:=HEW;have HXend:=HEW;refine rgK hK ⟨HPA.o,HEL.o _ HEW.o⟩ (fun hSg4q1=>?_);clear hK K;refine rgT 10 ?_;refine wpAnyH_ready (rs:=[12]) (by kernel_rfl) (by simp) ?_;refine(AllReadyH.consL rfl (fun K hK=>?g4qb12x13) AllReadyH.nil)
  case' g4qb12x13=>
   go_simp;go_at_call 67;refine(HIH.o _ HEW.o _ hoi).mono ?_;rintro e w7 ⟨v6,b6,x6,rfl,hv6,hx7,ho6⟩;have HV6:=hid hv6;have HO6:=hid ho6;obtain⟨A6,n6,c6,B6,m6,e6,rfl, -⟩:=hv6;have hx7:Ext _ w7:=hx7;have HRB:=hid (HRB.o.ext hx7);have HPA:=hid (HPA.o.ext hx7);have HEW:=hid (HEW.o.trans hx7);clear hx7 r0 r1 r2 r3 r4 r5 f0 f1 f2 f3 f4 rg HRo;have HRo:=hid HRB.o;obtain⟨⟨r0,r1,r2,r3,r4,rf⟩,r5,rg⟩:=HRo.o;have f0:=rf 0;have f1:=rf 1;have f2:=rf 2;have f3:=rf 3;have f4:=rf 4;clear rf;have HXg4q_2:=HEW;have HXend:=HEW;clear ho6;refine rgK hK ⟨HPA.o,HEL.o _ HEW.o⟩ (fun hSg4q2=>?_);clear hK K;refine QJ 13 14 ?_;refine wpAnyH_ready (rs:=[15]) (by kernel_rfl) (by simp) ?_;refine(AllReadyH.consL rfl (fun K hK=>?g4qb15x16) AllReadyH.nil)
   case' g4qb15x16=>
    go_simp;have HRB:=hid (HRB.o.put5 (.int .i64 x6.kind) (.int .i64 x6.size) (.int .i64 x6.count) (.slice A6 n6 c6) (.slice B6 m6 e6));have HPA:=hid (HPA.o.put5 (.int .i64 x6.kind) (.int .i64 x6.size) (.int .i64 x6.count) (.slice A6 n6 c6) (.slice B6 m6 e6));have HEW:=hid (ZD (b:=w.heap.size+1+1+1) HEW.o (by omega) (.int .i64 x6.kind) (.int .i64 x6.size) (.int .i64 x6.count) (.slice A6 n6 c6) (.slice B6 m6 e6));have HXg4q_3:=HEW;have HXend:=HEW;refine rgK hK ⟨HPA.o,HEL.o _ HEW.o⟩ (fun hSg4q3=>?_);clear hK K;refine wpAnyH_ready (rs:=[16]) (by kernel_rfl) (by simp) ?_;refine(AllReadyH.consL rfl (fun K hK=>?g4qb16x17) AllReadyH.nil)
    case' g4qb16x17=>
     go_simp;have HRB:=hid (HRB.o.put1 b6);have HPA:=hid (HPA.o.put1 (.bool b6));have HEW:=hid (Vb (b:=w.heap.size+1+1+1+1) HEW.o (by omega) (.bool b6));have HXg4q_4:=HEW;have HXend:=HEW;refine rgK hK ⟨HPA.o,HEL.o _ HEW.o⟩ (fun hSg4q4=>?_);clear hK K;refine wpAnyH_done (by kernel_rfl) ?_ _;generalize hW9:World.setCell _ _ _=W9;have HR9:=hid (Res.move HRB.o hW9);have HE9:Hid (Ext w W9):=hid (by rw[<-hW9];exact HEW.o);clear HXend;clear hW9 HRB HPA HEW r0 r1 r2 r3 r4 r5 f0 f1 f2 f3 f4 rg HRo;obtain⟨⟨t0,t1,t2,t3,t4, -⟩,t5, -⟩:=HR9.o
     go_wp2
     refine bodyPost_ret (v:= .tuple #[.agg #[(.int .i64 x6.kind),(.int .i64 x6.size),(.int .i64 x6.count),(.slice A6 n6 c6),(.slice B6 m6 e6)],.bool b6]) (by simp[results,Tryz.results67,go_sem,t0,t1,t2,t3,t4,t5]) rfl ?_;exact⟨_,b6,x6,rfl,HV6.o.up (by omega),HE9.o,by rw[<-HO1.o];exact HO6.o⟩
attribute [local go_sem] Oper.semAt_some
theorem nz (ts tc:Int)(te:List Ty)(tf:List (Int×Ty))(off wd:Int):faT (.mk 5 ts tc te tf) off wd=if off<0 then none else faF tf off wd:=by
 rw[faT,if_neg (by omega),if_neg (by omega),if_neg (by omega)]
theorem Xm.last {d:Nat}{wo:World}{l:List (Int×Ty)}{pre:List (BkE d wo l)}{y:BkE d wo l}{k:Nat}(h:Xm l (pre ++ [y]) k):y.1.1=k/\Xm l pre (k+1):=by
 have hl:=h.len;obtain⟨h1,h2⟩:=h;rw[List.length_append,List.length_singleton]at hl;have e:l.length - k=(l.length - (k+1))+1:=by omega
 rw[e,List.range'_succ,List.reverse_cons,List.map_append]at h1;have h3:=List.append_inj_right' h1 rfl;have h4:=List.append_inj_left' h1 rfl;refine⟨by simpa using h3,h4,by omega⟩
theorem my {W W':World}(h:Ext W W'):KeepsOthers W W':=⟨h.size,fun k o hk _=>(Ext.block h (Array.getElem?_eq_some_iff.1 hk).1).trans hk⟩
theorem af {β:Type}{b:Nat}{cur:Array Value}{t:TypeId}{g:Nat×Nat}:Own (fun(_:β) W=>W.heap[b]? =some (.cells cur t g)):=by
 intro s X Y row h hg hrow;refine(hg.block b (Array.getElem?_eq_some_iff.1 h).1 (fun e=>?_)).trans h;obtain⟨o,ho,hc⟩:=hrow b e.symm;rw[h]at ho;cases ho;cases hc
theorem tM {W:World}{b:Nat}{t:TypeId}{v0 v1 v2 v3 v4 v5:Value}(h:W.heap[b]? =some (.cells #[v0,v1,v2,v3,v4,v5] t (0,0))):
  W.cell? ⟨b,0,none⟩=some v0/\W.cell? ⟨b,1,none⟩=some v1/\W.cell? ⟨b,2,none⟩=some v2/\W.cell? ⟨b,3,none⟩=some v3/\W.cell? ⟨b,4,none⟩=some v4/\W.cell? ⟨b,5,none⟩=some v5:=by
 refine⟨?_, ?_, ?_, ?_, ?_, ?_⟩ <;> simp[World.cell?,h]
theorem Res.own {β:Type}{b:Nat}{v0 v1 v2 v3 v4:Value}{r:Bool}:Own (fun(_:β) W=>Res W b v0 v1 v2 v3 v4 r):=by
 intro s X Y row h hg hr;obtain⟨⟨h0,h1,h2,h3,h4,hf⟩,h5,h6⟩:=h
 have hfr:∀i,Y.frozen? ⟨b,i,none⟩=false:=fun i=>by
  obtain⟨o,ho,hc⟩:=cells_of_cell h0;exact(World.frozen?_of_block (a:=⟨b,i,none⟩) (grownBy_keeps_cells hg hr ho hc)).trans (hf i)
 exact⟨⟨cell_kept h0 hg hr,cell_kept h1 hg hr,cell_kept h2 hg hr,cell_kept h3 hg hr,cell_kept h4 hg hr,hfr⟩,cell_kept h5 hg hr,(frozen_kept h5 hg hr).trans h6⟩
theorem tB (n:Nat)(hn:1<=n)(Bn d:Nat)(wo w0:World)(A:Option Addr)(m c:Nat)(l:List (Int×Ty))(hE:Ext wo w0)(hBn:w0.cell? ⟨Bn,0,none⟩=some (.slice A m c))(hBs:Bn<w0.heap.size)(hl:Sl (fdR (tyR (d+1))) wo All (.slice A m c) l):
  SeqStopsK Fence.wide n Tryz.prog 112 #[.pointer (some ⟨Bn,0,none⟩)] (k9 (d:=d) (wo:=wo) (l:=l)) (Below w0.heap.size) (fun ys=>Xm l ys 0) (fun pre=>∃k,Xm l pre k) m w0:=by
 intro l0 J Jx W hW hJ _ hY h0;have hext:Ext w0 W:=hW;exact GQ n hn l0 Bn w0.heap.size d wo A m c l J Jx W hY (Ext.trans hE hext) (hext.cell hBn) hBs hE.size hl h0
theorem lx (d:Nat)(ih:∀d',d'<d->kD d')(wo w:World)(ts tc:Int)(te:List Ty)(tf:List (Int×Ty))(off wd:Int)(A B:Option Addr)(na ca nb cb:Nat)(hx:Ext wo w)
  (hv:TyV d wo All (.agg #[.int .i64 5,.int .i64 ts,.int .i64 tc,.slice A na ca,.slice B nb cb]) (.mk 5 ts tc te tf)) (hf:Qd (.mk 5 ts tc te tf)=true) (hi:Qy off) (hwd:wd=1\/wd=2\/wd=4):
  Calls Tryz.prog 67 #[.agg #[.int .i64 5,.int .i64 ts,.int .i64 tc,.slice A na ca,.slice B nb cb],.int .i64 off,.int .i64 wd] w (Kd d wo w (faT (.mk 5 ts tc te tf) off wd)):=by
 have hff:Zk (-1) tf=true:=by
  rcases Z1 hf with(h|h)|⟨s,hs,(h|h)⟩|⟨x,h,hx⟩|⟨x,m,h,hm1,hm2,hx⟩|⟨l,h,hl⟩
  ·cases h
  ·cases h
  ·cases h
  ·cases h
  ·cases h
  ·cases h
  ·cases h;exact hl
 obtain⟨A',n',c',B',m',e',hv', -,hF, -⟩:=id hv;injection hv' with hv'
 simp only[Array.mk.injEq,List.cons.injEq,Value.slice.injEq,and_true]at hv';obtain⟨-, -, -,⟨rfl,rfl,rfl⟩,rfl,rfl,rfl⟩:=hv';have hF:Sl (fdR (tyR d)) wo All (.slice B nb cb) tf:=hF
 have hdd:∃dd,Sl (fdR (tyR (dd+1))) wo All (.slice B nb cb) tf/\(∀y:BkE dd wo tf,kD dd)/\dd<=d:=by
  cases d with
  |zero=>
   refine⟨0,hF.fd_up (by omega),fun y=>?_,Nat.le_refl _⟩;obtain⟨d',b,off,A1,n1,c1,B1,m1,e1,hd,_⟩:=hF.fd_at y.2.1;cases hd
  |succ d=>exact⟨d,hF,fun _=>ih d (by omega),by omega⟩
 obtain⟨dd,hFd,hIH,hdd⟩:=hdd;rw[nz];obtain⟨o,hoo⟩:=Qg ((if off<0 then none else faF tf off wd));rw[hoo];have HOO:=hid hoo;have HV:=hid hv;obtain⟨W0,hW0⟩:=Qg (((((w.alloc (.cells #[.int .i64 5,.int .i64 ts,.int .i64 tc,.slice A na ca,.slice B nb cb] 42)).alloc (.cells #[.int .i64 off] 3)).alloc (.cells #[.int .i64 wd] 3)).alloc (.cells #[.int .i64 0,.int .i64 0,.int .i64 0,.slice none 0 0,.slice none 0 0] 42)).alloc (.cells #[.bool false] 4));have HEW:=hid (by rw[<-hW0];exact(((((Ext.refl w).alloc _).alloc _).alloc _).alloc _).alloc _:Ext w W0)
 have HPA:Hid (Par W0 w.heap.size (.int .i64 5) (.int .i64 ts) (.int .i64 tc) (.slice A na ca) (.slice B nb cb) (.int .i64 off) (.int .i64 wd)):=hid (by
  rw[<-hW0];refine⟨⟨?_, ?_, ?_, ?_, ?_⟩, ?_, ?_⟩ <;> simp[go_sem])
 have HRB:Hid (Res W0 (w.heap.size+1+1+1) (.int .i64 0) (.int .i64 0) (.int .i64 0) (.slice none 0 0) (.slice none 0 0) false):=hid (by
  rw[<-hW0];refine⟨⟨?_, ?_, ?_, ?_, ?_,fun i=>?_⟩, ?_, ?_⟩ <;> simp[go_sem])
 have o0:=HPA.o.1.1;have o1:=HPA.o.1.2.1;have o2:=HPA.o.1.2.2.1;have o3:=HPA.o.1.2.2.2.1;have o4:=HPA.o.1.2.2.2.2;have p0:=HPA.o.2.1;have q0:=HPA.o.2.2;clear hv hoo;by_cases h1:off<0
 case pos=>
  have g1:decide (off<0)=true:=Qv h1;have HNO:Hid (o=none):=hid (by rw[<-HOO.o,if_pos h1]);clear h1 hF hFd hIH;go_enter Tryz.func67,Tryz.ntmps67;go_upto_region 14 with fail
  clear o0 o1 o2 o3 o4 p0 q0;have o0:=HPA.o.1.1;have o1:=HPA.o.1.2.1;have o2:=HPA.o.1.2.2.1;have o3:=HPA.o.1.2.2.2.1;have o4:=HPA.o.1.2.2.2.2;have p0:=HPA.o.2.1;have q0:=HPA.o.2.2;have HRo:=hid HRB.o;obtain⟨⟨r0,r1,r2,r3,r4,rf⟩,r5,rg⟩:=HRo.o;have f0:=rf 0;have f1:=rf 1;have f2:=rf 2;have f3:=rf 3;have f4:=rf 4;clear rf
  go_wp2
  have HRB:=hid ((HRB.o.put5 (.int .i64 5) (.int .i64 ts) (.int .i64 tc) (.slice A na ca) (.slice B nb cb)).put1 false);have HEW:=hid (Vb (b:=w.heap.size+1+1+1+1) (ZD (b:=w.heap.size+1+1+1) HEW.o (by omega) (.int .i64 5) (.int .i64 ts) (.int .i64 tc) (.slice A na ca) (.slice B nb cb)) (by omega) (.bool false));generalize hW9:World.setCell _ _ _=W9;have HR9:=hid (Res.move HRB.o hW9);have HE9:Hid (Ext w W9):=hid (by rw[<-hW9];exact HEW.o);clear o0 o1 o2 o3 o4 p0 q0 HPA HRo;clear hW9 HRB HEW r0 r1 r2 r3 r4 r5 f0 f1 f2 f3 f4 rg;obtain⟨⟨t0,t1,t2,t3,t4, -⟩,t5, -⟩:=HR9.o
  (try simp only[Exit.inBlock,Exit.then])
  refine bodyPost_ret (v:= .tuple #[.agg #[.int .i64 5,.int .i64 ts,.int .i64 tc,(.slice A na ca),.slice B nb cb],.bool false]) (by simp[results,Tryz.results67,go_sem,t0,t1,t2,t3,t4,t5]) rfl ?_;exact⟨_,false,_,rfl,HV.o,HE9.o,.inr ⟨rfl,HNO.o⟩⟩
 have g1:decide (off<0)=false:=Qw h1;have HO1:Hid (faF tf off wd=o):=hid (by rw[<-HOO.o,if_neg h1]);have hws:W0.heap.size=w.heap.size+1+1+1+1+1:=by rw[<-hW0];simp
 refine(callsIn_wide (n:=6)).1 ?_;refine callsIn_of_wp_marks Tryz.func67 rfl trivial ?_ rfl;simp only[Tryz.ntmps67,List.size_toArray,List.length_cons,List.length_nil,Nat.reduceAdd,Nat.reduceSub,Array.replicate_succ,Array.replicate_zero,List.push_toArray,List.append_toArray,List.nil_append,List.cons_append]
 gi_wp2
 refine⟨trivial,(ow _ _ _ _ _).mono ?_⟩;rintro e w' ⟨rfl,rfl⟩
 gi_wp2
 obtain⟨W1,hW1⟩:=Qg (W0.alloc (.cells #[.slice B nb cb] 40));rw[hW1];have hE1:Ext W0 W1:=by rw[<-hW1];exact(Ext.refl W0).alloc _
 have hbn:W1.cell? ⟨w.heap.size+1+1+1+1+1,0,none⟩=some (.slice B nb cb):=by rw[<-hW1,<-hws];simp[go_sem]
 have hs1:W1.heap.size=w.heap.size+1+1+1+1+1+1:=by rw[<-hW1,World.size_alloc,hws]
 have HP1:=hid (HPA.o.ext hE1);have HR1:=hid (HRB.o.ext hE1);have HE1:=hid (Ext.trans HEW.o hE1);clear hW1 hE1 HPA HRB HEW o0 o1 o2 o3 o4 p0 q0
 refine wpIn_rangeFunc_ownH (F:=Fence.wide) rfl (by omega) (gf:=112) (lb:= #[.pointer (some ⟨w.heap.size+1+1+1+1+1,0,none⟩)]) rfl trivial (enters_of Tryz.func112 (by kernel_rfl) rfl)
  (tB 5 (by omega) (w.heap.size+1+1+1+1+1) dd wo W1 B nb cb tf (hx.trans HE1.o) hbn (by omega) hFd)
  (fun h k=>h.trans k) (belowK_b (Nat.le_refl _)) (Below.refl _ _) (fun _=>rfl)
  (fun pre W=>(∀y∈pre,faT y.1.2.1.2 (off - y.1.2.1.1) wd=none)/\Below W1.heap.size W1 W)
  (fun c pre W=>(c= .ret/\∃(pre':List (BkE dd wo tf)) (y:BkE dd wo tf) (x:Ty) (u0 u1 u2 u3 u4:Value),pre=pre' ++ [y]/\(∀z∈pre',faT z.1.2.1.2 (off - z.1.2.1.1) wd=none)/\faT y.1.2.1.2 (off - y.1.2.1.1) wd=some x/\TyV dd wo All (.agg #[u0,u1,u2,u3,u4]) x/\Res W (w.heap.size+1+1+1) u0 u1 u2 u3 u4 true)/\Below w.heap.size w W)
  (OwnFrom.and (ownFrom_pure _ _) (ownFrom_below (Nat.le_refl _) (Nat.le_refl _)))
  (fun c=>OwnFrom.and (fun s W W' row hs hg hr=>by
   obtain⟨hc,pre',y,x,u0,u1,u2,u3,u4,h1,h2,h3,h4,h5⟩:=hs;exact⟨hc,pre',y,x,u0,u1,u2,u3,u4,h1,h2,h3,h4,Res.own (β:=Unit) () W W' row h5 hg (fun r e=>(hr r e).2)⟩) (ownFrom_below (Nat.le_refl _) (by omega)))
  ⟨fun y hy=>(by cases hy),Below.refl _ _⟩
  (fun x a' W=>∃(Bx:Nat) (v0 v1 v2 v3 v4 v5:Value),W1.heap.size<=Bx/\W.heap[Bx]? =some (.cells #[v0,v1,v2,v3,v4,v5] 59 (0,0))/\x.1.2.2= .agg #[v0,v1,v2,v3,v4,v5]/\
   a'={tmps:= #[.agg #[.int .i64 5,.int .i64 ts,.int .i64 tc,.slice A na ca,.slice B nb cb],.int .i64 off,.int .i64 wd,.pointer (some ⟨w.heap.size,0,none⟩),.pointer (some ⟨w.heap.size+1,0,none⟩),.pointer (some ⟨w.heap.size+1+1,0,none⟩),.pointer (some ⟨w.heap.size+1+1+1,0,none⟩),.pointer (some ⟨w.heap.size+1+1+1+1,0,none⟩),undef,.pointer (some ⟨Bx,0,none⟩),undef,undef,.pointer (some ⟨w.heap.size,0,none⟩),.int .i64 5,.bool false,.bool false,.bool false,undef,undef,undef,.bool false,.bool false,.bool false,.bool false,undef,undef,undef,undef,undef,undef,undef,undef,undef,.bool false,.bool false,undef,undef,undef,undef,undef,undef,undef,undef,undef,undef,undef,undef,undef,undef,undef,undef,undef,undef,undef,undef,undef,undef,undef,undef,.int .i64 off,.bool false,undef,.pointer (some ⟨w.heap.size,4,none⟩),.slice B nb cb,.func (.func 112) #[] #[.pointer (some ⟨w.heap.size+1+1+1+1+1,0,none⟩)],.int .i64 x.1.1,x.1.2.2,undef,undef,undef,undef,undef,undef,undef,undef,undef,undef,undef,undef,undef,undef],defers:=[]})
  (fun x a' s W W' row hs hg hr=>by
   obtain⟨Bx,v0,v1,v2,v3,v4,v5,h1,h2,h3,h4⟩:=hs;exact⟨Bx,v0,v1,v2,v3,v4,v5,h1,af (β:=Unit) () W W' row h2 hg (fun r e=>(hr r e).2),h3,h4⟩) ?assign ?body ?done ?stop
 case assign=>
  rintro l pre ⟨⟨q,f,v⟩,hx1,hx2⟩ W K ⟨hno,hB⟩ hK;obtain⟨A1,n1,c1,B1,m1,e1,hv1,hi1,hv2⟩:=hx2;simp only at hv1 hx1;subst hv1;simp only[k9]
  gi_wp2
  exact hK _ _ ((KeepsOthers.alloc _ _).from _) ((Below.refl _ W).alloc hB.size _) ⟨hno,hB.alloc hB.size _⟩ ⟨W.heap.size,_,_,_,_,_,_,hB.size,World.alloc_heap_new W _,rfl,rfl⟩
 case body=>
  rintro l pre x a' W hl ⟨r,hr⟩ ⟨hno,hB⟩ ⟨Bx,v0,v1,v2,v3,v4,v5,hBx,hcell,hval,rfl⟩ hlt;have hEW:Ext W1 W:=hB;have HPA:=hid (HP1.o.ext hEW);have HRB:=hid (HR1.o.ext hEW);have HEW:=hid (Ext.trans HE1.o hEW);have HOKx:=hIH x;obtain⟨q,hq⟩:=Qg (x.1.1);obtain⟨f,hf0⟩:=Qg (x.1.2.1);have hx1:=x.2.1;have hx2:=x.2.2;rw[hval,hf0]at hx2;rw[hq,hf0]at hx1;rw[hq,hval];have HXF:=hid hf0;clear hq hf0 hval;obtain⟨A1,n1,c1,B1,m1,e1,hv1,hi1,hv2⟩:=hx2;injection hv1 with hv1
  simp only[Array.mk.injEq,List.cons.injEq,and_true]at hv1;obtain⟨rfl,rfl,rfl,rfl,rfl,rfl⟩:=hv1;obtain⟨z0,z1,z2,z3,z4,z5⟩:=tM hcell;have hfm:=XF hff f (Qx hx1);have hws1:IntKind.i64.wrap (off - f.1)=off - f.1:=IntWalk.i64_in _ (by unfold Qy at hi;omega);have HC:=hid (HOKx wo W f.2 _ (off - f.1) wd (hx.trans HEW.o) hv2 hfm.2.2 (by unfold Qy at hi ⊢;omega) hwd);obtain⟨o5,ho5⟩:=Qg (faT f.2 (off - f.1) wd);rw[ho5]at HC;have HO5:=hid ho5;have HB:=hid hB;have HNO:=hid hno;have HHL:=hid hr;have o0:=HPA.o.1.1;have o1:=HPA.o.1.2.1;have o2:=HPA.o.1.2.2.1;have o3:=HPA.o.1.2.2.2.1;have o4:=HPA.o.1.2.2.2.2;have p0:=HPA.o.2.1;have q0:=HPA.o.2.2;clear hx1 hv2 ho5 hB hno hcell HOKx hr hEW
  gi_wp2
  refine⟨trivial,(CallsIn.inRound l (callsIn_wide.2 HC.o)).mono ?_⟩;rintro e W5 ⟨v6,b6,x6,rfl,hv6,hx6,ho6⟩;have HV6:=hid hv6;have HX6:=hid hx6;have HO6:=hid ho6;obtain⟨A6,n6,c6,B6,m6,e6,rfl, -⟩:=hv6;clear hx6 ho6 o0 o1 o2 o3 o4 p0 q0 z0 z1 z2 z3 z4 z5;have HE7:=hid (HX6.o.alloc (.cells #[.int .i64 x6.kind,.int .i64 x6.size,.int .i64 x6.count,.slice A6 n6 c6,.slice B6 m6 e6] 42));have HRB:=hid (HRB.o.ext HE7.o);have HRo:=hid HRB.o;have HEW:=hid (HEW.o.trans HE7.o);have hk0:W.heap.size<=W5.heap.size:=HX6.o.size;have hBs:=HB.o.size
  cases b6 with
  | false=>
   have HN6:Hid (o5=none):=hid (by rcases HO6.o with⟨h,_⟩|⟨_,h⟩;cases h;exact h);clear HRo
   gi_wp2
   exact⟨(my HE7.o).from _,Below.mono HE7.o hBs,⟨fun y hy=>(by
    rcases List.mem_append.1 hy with hy|hy
    ·exact HNO.o y hy
    ·rw[List.mem_singleton.1 hy,HXF.o];exact HO5.o.trans HN6.o),Below.trans HB.o (Below.mono HE7.o hBs)⟩⟩
  |true=>
   have HN6:Hid (o5=some x6):=hid (by rcases HO6.o with⟨_,h⟩|⟨h,_⟩;exact h;cases h);obtain⟨W7,hW7⟩:=Qg (W5.alloc (.cells #[.int .i64 x6.kind,.int .i64 x6.size,.int .i64 x6.count,.slice A6 n6 c6,.slice B6 m6 e6] 42));rw[hW7]at HE7 HRB HEW HRo;have b0:W7.cell? ⟨W5.heap.size,0,none⟩=some (.int .i64 x6.kind):=by rw[<-hW7];simp[go_sem]
   have b1:W7.cell? ⟨W5.heap.size,1,none⟩=some (.int .i64 x6.size):=by rw[<-hW7];simp[go_sem]
   have b2:W7.cell? ⟨W5.heap.size,2,none⟩=some (.int .i64 x6.count):=by rw[<-hW7];simp[go_sem]
   have b3:W7.cell? ⟨W5.heap.size,3,none⟩=some (.slice A6 n6 c6):=by rw[<-hW7];simp[go_sem]
   have b4:W7.cell? ⟨W5.heap.size,4,none⟩=some (.slice B6 m6 e6):=by rw[<-hW7];simp[go_sem]
   obtain⟨⟨r0,r1,r2,r3,r4,rf⟩,r5,rg⟩:=HRo.o;have f0:=rf 0;have f1:=rf 1;have f2:=rf 2;have f3:=rf 3;have f4:=rf 4;clear rf
   gi_wp2
   have HRB:=hid ((HRB.o.put5 (.int .i64 x6.kind) (.int .i64 x6.size) (.int .i64 x6.count) (.slice A6 n6 c6) (.slice B6 m6 e6)).put1 true);have HEW:=hid (Vb (b:=w.heap.size+1+1+1+1) (ZD (b:=w.heap.size+1+1+1) HEW.o (by omega) (.int .i64 x6.kind) (.int .i64 x6.size) (.int .i64 x6.count) (.slice A6 n6 c6) (.slice B6 m6 e6)) (by omega) (.bool true));refine⟨KeepsOthers.from ?_ _,⟨⟨rfl,pre,x,x6,_,_,_,_,_,rfl,HNO.o,by rw[HXF.o];exact HO5.o.trans HN6.o,HV6.o,HRB.o⟩,HEW.o⟩⟩;exact((((((my HE7.o).trans (KeepsOthers.setCell _ _ _)).trans (KeepsOthers.setCell _ _ _)).trans (KeepsOthers.setCell _ _ _)).trans (KeepsOthers.setCell _ _ _)).trans (KeepsOthers.setCell _ _ _)).trans (KeepsOthers.setCell _ _ _)
 case done=>
  rintro D ys W hD hS ⟨hno,hB⟩ hK;have hEW:Ext W1 W:=hB;have HPA:=hid (HP1.o.ext hEW);have HRB:=hid (HR1.o.ext hEW);have HEW:=hid (Ext.trans HE1.o hEW);have HKD:=hid hK
  have HNO:Hid (o=none):=hid (by
   rw[<-HO1.o];refine jC fun f hf=>?_;obtain⟨j,hj⟩:=List.getElem?_of_mem hf;obtain⟨y,hy,e⟩:=Xm.mem hS (Nat.zero_le j) hj;rw[<-e];exact hno y hy)
  have HRo:=hid HRB.o;have o0:=HPA.o.1.1;have o1:=HPA.o.1.2.1;have o2:=HPA.o.1.2.2.1;have o3:=HPA.o.1.2.2.2.1;have o4:=HPA.o.1.2.2.2.2;have p0:=HPA.o.2.1;have q0:=HPA.o.2.2;obtain⟨⟨r0,r1,r2,r3,r4,rf⟩,r5,rg⟩:=HRo.o;have f0:=rf 0;have f1:=rf 1;have f2:=rf 2;have f3:=rf 3;have f4:=rf 4;clear rf;have hDs:w.heap.size<=D:=by omega
  clear hS hno hB hEW hK
  gi_wp2
  have HRB:=hid ((HRB.o.put5 (.int .i64 5) (.int .i64 ts) (.int .i64 tc) (.slice A na ca) (.slice B nb cb)).put1 false);have HEW:=hid (Vb (b:=w.heap.size+1+1+1+1) (ZD (b:=w.heap.size+1+1+1) HEW.o (by omega) (.int .i64 5) (.int .i64 ts) (.int .i64 tc) (.slice A na ca) (.slice B nb cb)) (by omega) (.bool false))
  have HKE:Hid (KeepsOthers W ((((((W.setCell ⟨w.heap.size+1+1+1,0,none⟩ (.int .i64 5)).setCell ⟨w.heap.size+1+1+1,1,none⟩ (.int .i64 ts)).setCell ⟨w.heap.size+1+1+1,2,none⟩ (.int .i64 tc)).setCell ⟨w.heap.size+1+1+1,3,none⟩ (.slice A na ca)).setCell ⟨w.heap.size+1+1+1,4,none⟩ (.slice B nb cb)).setCell ⟨w.heap.size+1+1+1+1,0,none⟩ (.bool false))):=hid (
   (((((KeepsOthers.setCell _ _ _).trans (KeepsOthers.setCell _ _ _)).trans (KeepsOthers.setCell _ _ _)).trans (KeepsOthers.setCell _ _ _)).trans (KeepsOthers.setCell _ _ _)).trans (KeepsOthers.setCell _ _ _))
  generalize hW9:World.setCell _ _ _=W9;have HR9:=hid (Res.move HRB.o hW9);have HE9:Hid (Ext w W9):=hid (by rw[<-hW9];exact HEW.o);have hK9:W9.heap[D]? =some (.deferred (some [])):=by rw[<-hW9];exact HKE.o.same D _ HKD.o rfl
  clear o0 o1 o2 o3 o4 p0 q0 HPA HRo hW9 HRB HEW r0 r1 r2 r3 r4 r5 f0 f1 f2 f3 f4 rg HKE;refine⟨by simp,.inl ⟨_,_,rfl,run_takeDeferred hK9, ?_⟩⟩;have HRZ:=hid (Res.own (β:=Unit) () _ _ (some D) HR9.o (grownBy_putObj' _ D (.deferred none)) (fun r e=>by cases e;exact⟨_,hK9,rfl⟩));have HEZ:=hid (show Ext w _ from Below.trans HE9.o (belowK_b (w:=w) (Nat.le_refl _) _ D _ (.deferred none) hDs hK9 rfl rfl));obtain⟨⟨t0,t1,t2,t3,t4, -⟩,t5, -⟩:=HRZ.o;refine⟨.tuple #[.agg #[(.int .i64 5),(.int .i64 ts),(.int .i64 tc),(.slice A na ca),(.slice B nb cb)],.bool false],by simp[results,Tryz.results67,go_sem,t0,t1,t2,t3,t4,t5], ?_⟩;exact⟨_,false,_,rfl,HV.o,HEZ.o,.inr ⟨rfl,HNO.o⟩⟩
 case stop=>
  rintro D c pre W hD ⟨k,hA⟩ ⟨⟨rfl,pre',y,x,u0,u1,u2,u3,u4,rfl,hno,hy,hvx,hres⟩,hE⟩ hK;obtain⟨hyk,hA'⟩:=hA.last
  have HO2:Hid (o=some x):=hid (by
   rw[<-HO1.o];have h1:=y.2.1;rw[hyk]at h1;refine yQ h1 hy fun j hj g hg=>?_;obtain⟨z,hz,e⟩:=hA'.mem hj hg;rw[<-e];exact hno z hz)
  have hDs:w.heap.size<=D:=by omega
  have HR9:=hid hres;have HE9:Hid (Ext w W):=hid hE;have hK9:=hK;have HVX:=hid hvx;clear hres hvx hno hy hA hA' hyk hE
  gi_wp2
  obtain⟨W9,hW9⟩:∃W9,W9=W:=⟨_,rfl⟩;subst hW9;refine⟨by simp,.inl ⟨_,_,rfl,run_takeDeferred hK9, ?_⟩⟩;have HRZ:=hid (Res.own (β:=Unit) () _ _ (some D) HR9.o (grownBy_putObj' _ D (.deferred none)) (fun r e=>by cases e;exact⟨_,hK9,rfl⟩));have HEZ:=hid (show Ext w _ from Below.trans HE9.o (belowK_b (w:=w) (Nat.le_refl _) _ D _ (.deferred none) hDs hK9 rfl rfl));obtain⟨⟨t0,t1,t2,t3,t4, -⟩,t5, -⟩:=HRZ.o;refine⟨.tuple #[.agg #[u0,u1,u2,u3,u4],.bool true],by simp[results,Tryz.results67,go_sem,t0,t1,t2,t3,t4,t5], ?_⟩;exact⟨_,true,_,rfl,HVX.o.up hdd,HEZ.o,.inl ⟨rfl,HO2.o⟩⟩
end Go.Proofs.YtlmipgdnlfjpaaaGreat
namespace Go.Deco
mutual
theorem gz:∀(t:Ty) {off wd:Int} {x:Ty},bnT t=true->faT t off wd=some x->bnT x=true
 | .mk k s c e f,off,wd,x,hb,h=>by
  have hb':=hb;rw[bnT]at hb';simp only[Bool.and_eq_true]at hb';rw[faT]at h
  split at h
  ·split at h
   ·cases h;exact hb
   ·cases h
  ·split at h
   ·split at h
    ·cases h;exact hb
    ·cases h
   ·split at h
    ·split at h
     ·cases h
     ·exact Dd e hb'.1.2 h
    ·split at h
     ·cases h
     ·exact rj f hb'.2 h
theorem Dd:∀(l:List Ty) {off wd:Int} {x:Ty},bnE l=true->faE l off wd=some x->bnT x=true
 |[],_,_,_,_,h=>by cases h
 |t :: l,off,wd,x,hb,h=>by
  rw[bnE,Bool.and_eq_true]at hb;rw[faE]at h;exact gz t hb.1 h
theorem rj:∀(l:List (Int×Ty)) {off wd:Int} {x:Ty},bnF l=true->faF l off wd=some x->bnT x=true
 |[],_,_,_,_,h=>by cases h
 |(o,t) :: l,off,wd,x,hb,h=>by
  rw[bnF,Bool.and_eq_true]at hb;rw[faF]at h
  cases e:faF l off wd with
  |some y=>rw [e]at h;cases h;exact rj l hb.2 e
  |none=>rw [e]at h;exact gz t hb.1 h
end
end Go.Deco
namespace Go.Proofs.YtlmipgdnlfjpaaaGreat
open Go Go.RowKit Go.Deco Go.Shelf
theorem oD:∀d,kD d:=by
 intro d
 induction d using Nat.strongRecOn with
 |_ d ih=>
  intro wo w t v off wd hx hv hf hi hwd;obtain⟨A,na,ca,B,nb,cb,rfl, -⟩:=id hv;rcases Z1 hf with(rfl|rfl)|⟨s,hs,(rfl|rfl)⟩|⟨x,rfl,hfx⟩|⟨x,n,rfl,h1,h2,hfx⟩|⟨l,rfl,hl⟩
  ·exact fj d wo w 0 0 0 [] [] off wd A B na ca nb cb hx hv (.inl rfl) hi
  ·exact fj d wo w 6 0 0 [] [] off wd A B na ca nb cb hx hv (.inr rfl) hi
  ·exact vB d wo w 1 s 0 [] [] off wd A B na ca nb cb hx hv hf (.inl rfl) hi
  ·exact vB d wo w 2 s 0 [] [] off wd A B na ca nb cb hx hv hf (.inr (.inl rfl)) hi
  ·exact vB d wo w 3 0 0 [x] [] off wd A B na ca nb cb hx hv hf (.inr (.inr rfl)) hi
  ·exact lq d ih wo w 0 n [x] [] off wd A B na ca nb cb hx hv hf hi hwd
  ·exact lx d ih wo w 0 0 [] l off wd A B na ca nb cb hx hv hf hi hwd
def D5 (d:Nat)(w:World)(o:Option Ty)(e:Ending)(w':World):Prop:=∃v b x,e= .returned (.tuple #[v,.bool b])/\TyV d w' (fun b=>w.heap.size<=b) v x/\Ext w w'/\((b=true/\o=some x)\/(b=false/\o=none))
theorem tw (d:Nat)(w:World)(t:Ty)(v:Value)(off wd:Int)(hv:TyV d w All v t)(hi:Qy off):Calls Tryz.prog 40 #[v,.int .i64 off,.int .i64 wd] w (D5 d w (Xq t off wd)):=by
 have HV:=hid hv;obtain⟨A,na,ca,B,nb,cb,rfl, -⟩:=hv;obtain⟨o,hoo⟩:=Qg (Xq t off wd);rw[hoo];have HOO:=hid hoo;clear hoo;obtain⟨W0,hW0⟩:=Qg ((w.alloc (.cells #[.int .i64 t.kind,.int .i64 t.size,.int .i64 t.count,.slice A na ca,.slice B nb cb] 42)).alloc (.cells #[.int .i64 0,.int .i64 0,.int .i64 0,.slice none 0 0,.slice none 0 0] 42));have HE0:=hid (by rw[<-hW0];exact((Ext.refl w).alloc _).alloc _:Ext w W0);have o0:W0.cell? ⟨w.heap.size,0,none⟩=some (.int .i64 t.kind):=by rw[<-hW0];simp[go_sem]
 have o1:W0.cell? ⟨w.heap.size,1,none⟩=some (.int .i64 t.size):=by rw[<-hW0];simp[go_sem]
 have o2:W0.cell? ⟨w.heap.size,2,none⟩=some (.int .i64 t.count):=by rw[<-hW0];simp[go_sem]
 have o3:W0.cell? ⟨w.heap.size,3,none⟩=some (.slice A na ca):=by rw[<-hW0];simp[go_sem]
 have o4:W0.cell? ⟨w.heap.size,4,none⟩=some (.slice B nb cb):=by rw[<-hW0];simp[go_sem]
 have HR0:Hid (Qm W0 (w.heap.size+1) (.int .i64 0) (.int .i64 0) (.int .i64 0) (.slice none 0 0) (.slice none 0 0)):=hid (by
  rw[<-hW0];refine⟨?_, ?_, ?_, ?_, ?_,fun i=>?_⟩ <;> simp[go_sem])
 have HGC:=hid (zP d W0 t _ (HV.o.ext HE0.o));obtain⟨z,hz⟩:=Qg (Zq t);rw[hz]at HGC;have HZ:=hid hz;clear hz;go_enter Tryz.func40,Tryz.ntmps40
 go_wp2_with fail
 refine HGC.o.mono ?_;rintro e w1 ⟨rfl,hx1⟩;have HX1:=hid hx1;have HEW:=hid (HE0.o.trans HX1.o);have HRB:=hid (HR0.o.ext HX1.o);have o0:=HX1.o.c o0;have o1:=HX1.o.c o1;have o2:=HX1.o.c o2;have o3:=HX1.o.c o3;have o4:=HX1.o.c o4;clear hx1 hW0
 cases z with
 |false=>
  have HNO:Hid (o=none):=hid (by rw[<-HOO.o];unfold Xq;rw[if_neg (by rw[HZ.o];simp)]);clear o0 o1 o2 o3 o4;obtain⟨r0,r1,r2,r3,r4,rf⟩:=HRB.o;have f0:=rf 0;have f1:=rf 1;have f2:=rf 2;have f3:=rf 3;have f4:=rf 4;clear rf
  go_wp2
  have HR9':=hid (((((HRB.o.put0 (.int .i64 0)).put1 (.int .i64 0)).put2 (.int .i64 0)).put3 (.slice none 0 0)).put4 (.slice none 0 0));have HE9':=hid (ZD (b:=w.heap.size+1) HEW.o (by omega) (.int .i64 0) (.int .i64 0) (.int .i64 0) (.slice none 0 0) (.slice none 0 0));generalize hW9:World.setCell _ _ _=W9;have HE9:Hid (Ext w W9):=hid (by rw[<-hW9];exact HE9'.o);have HR9:Hid (Qm W9 (w.heap.size+1) (.int .i64 0) (.int .i64 0) (.int .i64 0) (.slice none 0 0) (.slice none 0 0)):=hid (by rw[<-hW9];exact HR9'.o);clear hW9 HR9' HE9' r0 r1 r2 r3 r4 f0 f1 f2 f3 f4;obtain⟨t0,t1,t2,t3,t4, -⟩:=HR9.o;refine bodyPost_ret (v:= .tuple #[.agg #[.int .i64 0,.int .i64 0,.int .i64 0,.slice none 0 0,.slice none 0 0],.bool false]) (by simp[results,Tryz.results40,go_sem,t0,t1,t2,t3,t4]) rfl ?_;exact⟨_,false,_,rfl,J1 d _ _ 0 0 (by unfold Qy;omega) (by unfold Qy;omega),HE9.o,.inr ⟨rfl,HNO.o⟩⟩
 | true=>
  by_cases hw:wd=1\/wd=2\/wd=4
  case neg=>
   have HNO:Hid (o=none):=hid (by rw[<-HOO.o];unfold Xq;rw[if_neg (fun h=>hw h.2)]);have k1:(wd != 1)=true:=by simp;omega
   have k2:(wd != 2)=true:=by simp;omega
   have k4:(wd != 4)=true:=by simp;omega
   clear o0 o1 o2 o3 o4 hw;obtain⟨r0,r1,r2,r3,r4,rf⟩:=HRB.o;have f0:=rf 0;have f1:=rf 1;have f2:=rf 2;have f3:=rf 3;have f4:=rf 4;clear rf
   go_wp2
   have HR9':=hid (((((HRB.o.put0 (.int .i64 0)).put1 (.int .i64 0)).put2 (.int .i64 0)).put3 (.slice none 0 0)).put4 (.slice none 0 0));have HE9':=hid (ZD (b:=w.heap.size+1) HEW.o (by omega) (.int .i64 0) (.int .i64 0) (.int .i64 0) (.slice none 0 0) (.slice none 0 0));generalize hW9:World.setCell _ _ _=W9;have HE9:Hid (Ext w W9):=hid (by rw[<-hW9];exact HE9'.o);have HR9:Hid (Qm W9 (w.heap.size+1) (.int .i64 0) (.int .i64 0) (.int .i64 0) (.slice none 0 0) (.slice none 0 0)):=hid (by rw[<-hW9];exact HR9'.o);clear hW9 HR9' HE9' r0 r1 r2 r3 r4 f0 f1 f2 f3 f4;obtain⟨t0,t1,t2,t3,t4, -⟩:=HR9.o;refine bodyPost_ret (v:= .tuple #[.agg #[.int .i64 0,.int .i64 0,.int .i64 0,.slice none 0 0,.slice none 0 0],.bool false]) (by simp[results,Tryz.results40,go_sem,t0,t1,t2,t3,t4]) rfl ?_;exact⟨_,false,_,rfl,J1 d _ _ 0 0 (by unfold Qy;omega) (by unfold Qy;omega),HE9.o,.inr ⟨rfl,HNO.o⟩⟩
  have hG:=VJ.1 HZ.o;have HBN:=hid (fY HZ.o);have HFC:=hid (oD d w w1 t _ off wd HEW.o HV.o hG.2.1 hi hw);have HFT:Hid (faT t off wd=o):=hid (by rw[<-HOO.o];unfold Xq;rw[if_pos ⟨HZ.o,hw⟩]);have HSB:=hid (fun x (h:faT t off wd=some x)=>gz t HBN.o h);rw[HFT.o]at HFC HSB;have hwb:∀W:World,True:=fun _=>trivial;clear hG;rcases hw with rfl|rfl|rfl
  case inl=>
   go_wp2_with fail
   refine HFC.o.mono ?_;rintro e w2 ⟨v2,b2,x2,rfl,hv2,hx2,ho2⟩;have HV2:=hid hv2;have HO2:=hid ho2;obtain⟨A2,n2,c2,B2,m2,e2,rfl, -⟩:=hv2;obtain⟨W3,hW3⟩:=Qg (w2.alloc (.cells #[.int .i64 x2.kind,.int .i64 x2.size,.int .i64 x2.count,.slice A2 n2 c2,.slice B2 m2 e2] 42));have hE3:Ext w1 W3:=by rw[<-hW3];exact hx2.alloc _
   have HRB:=hid (HRB.o.ext hE3);have HEW:=hid (HEW.o.trans hE3);have b0:W3.cell? ⟨w2.heap.size,0,none⟩=some (.int .i64 x2.kind):=by rw[<-hW3];simp[go_sem]
   have b1:W3.cell? ⟨w2.heap.size,1,none⟩=some (.int .i64 x2.size):=by rw[<-hW3];simp[go_sem]
   have b2':W3.cell? ⟨w2.heap.size,2,none⟩=some (.int .i64 x2.count):=by rw[<-hW3];simp[go_sem]
   have b3:W3.cell? ⟨w2.heap.size,3,none⟩=some (.slice A2 n2 c2):=by rw[<-hW3];simp[go_sem]
   have b4:W3.cell? ⟨w2.heap.size,4,none⟩=some (.slice B2 m2 e2):=by rw[<-hW3];simp[go_sem]
   have hxs:=hid hx2.size;clear hx2 ho2 hE3 o0 o1 o2 o3 o4
   cases b2 with
   |false=>
    have HNO:Hid (o=none):=hid (by rcases HO2.o with⟨h,_⟩|⟨_,h⟩;cases h;exact h);clear b0 b1 b2' b3 b4;obtain⟨r0,r1,r2,r3,r4,rf⟩:=HRB.o;have f0:=rf 0;have f1:=rf 1;have f2:=rf 2;have f3:=rf 3;have f4:=rf 4;clear rf
    go_wp2
    have HR9':=hid (((((HRB.o.put0 (.int .i64 0)).put1 (.int .i64 0)).put2 (.int .i64 0)).put3 (.slice none 0 0)).put4 (.slice none 0 0));have HE9':=hid (ZD (b:=w.heap.size+1) HEW.o (by omega) (.int .i64 0) (.int .i64 0) (.int .i64 0) (.slice none 0 0) (.slice none 0 0));generalize hW9:World.setCell _ _ _=W9;have HE9:Hid (Ext w W9):=hid (by rw[<-hW9];exact HE9'.o);have HR9:Hid (Qm W9 (w.heap.size+1) (.int .i64 0) (.int .i64 0) (.int .i64 0) (.slice none 0 0) (.slice none 0 0)):=hid (by rw[<-hW9];exact HR9'.o);clear hW9 HR9' HE9' r0 r1 r2 r3 r4 f0 f1 f2 f3 f4;obtain⟨t0,t1,t2,t3,t4, -⟩:=HR9.o;refine bodyPost_ret (v:= .tuple #[.agg #[.int .i64 0,.int .i64 0,.int .i64 0,.slice none 0 0,.slice none 0 0],.bool false]) (by simp[results,Tryz.results40,go_sem,t0,t1,t2,t3,t4]) rfl ?_;exact⟨_,false,_,rfl,J1 d _ _ 0 0 (by unfold Qy;omega) (by unfold Qy;omega),HE9.o,.inr ⟨rfl,HNO.o⟩⟩
   | true=>
    have HOS:Hid (o=some x2):=hid (by rcases HO2.o with⟨_,h⟩|⟨h,_⟩;exact h;cases h);have HOC:=hid (qV d W3 x2 _ (HV2.o.ext HEW.o) (HSB.o x2 HOS.o))
    go_wp2_with fail
    refine HOC.o.mono ?_;rintro e w4 ⟨v4,rfl,hv4,hx4⟩;have HRB:=hid (HRB.o.ext hx4);have HV4:=hid hv4;have HE4:=hid (HEW.o.trans hx4)
    have hlt:w.heap.size+1<W3.heap.size:=by
     have h1:=World.block_lt_of_cell? _ _ b0;have h2:=World.block_lt_of_cell? _ _ HR0.o.1;have h3:=HX1.o.size;simp only at h1 h2;rw[<-hW3];simp;have h5:w1.heap.size<=w2.heap.size:=hxs.o;omega
    obtain⟨A4,n4,c4,B4,m4,e4,rfl, -⟩:=hv4;obtain⟨r0,r1,r2,r3,r4,rf⟩:=HRB.o;have f0:=rf 0;have f1:=rf 1;have f2:=rf 2;have f3:=rf 3;have f4:=rf 4;clear rf hx4 hW3 b0 b1 b2' b3 b4
    go_wp2
    have HR9':=hid (((((HRB.o.put0 (.int .i64 x2.kind)).put1 (.int .i64 x2.size)).put2 (.int .i64 x2.count)).put3 (.slice A4 n4 c4)).put4 (.slice B4 m4 e4));have HE9':=hid (ZD (b:=w.heap.size+1) HE4.o (by omega) (.int .i64 x2.kind) (.int .i64 x2.size) (.int .i64 x2.count) (.slice A4 n4 c4) (.slice B4 m4 e4));have HV9':=hid (TyV.keep (S:=fun b=>W3.heap.size<=b) (fun b (hb:W3.heap.size<=b) _=>Jv w4 (w.heap.size+1) (.int .i64 x2.kind) (.int .i64 x2.size) (.int .i64 x2.count) (.slice A4 n4 c4) (.slice B4 m4 e4) (k:=b) (by omega)) HV4.o);generalize hW9:World.setCell _ _ _=W9;have HE9:Hid (Ext w W9):=hid (by rw[<-hW9];exact HE9'.o);have HR9:Hid (Qm W9 (w.heap.size+1) (.int .i64 x2.kind) (.int .i64 x2.size) (.int .i64 x2.count) (.slice A4 n4 c4) (.slice B4 m4 e4)):=hid (by rw[<-hW9];exact HR9'.o);have HV9:Hid (TyV d W9 (fun b=>w.heap.size<=b) (.agg #[.int .i64 x2.kind,.int .i64 x2.size,.int .i64 x2.count,.slice A4 n4 c4,.slice B4 m4 e4]) x2):=hid (by rw[<-hW9];exact HV9'.o.mono fun b hb _=>by have hb':W3.heap.size<=b:=hb;show w.heap.size<=b;omega);clear hW9 HR9' HE9' HV9' r0 r1 r2 r3 r4 f0 f1 f2 f3 f4;obtain⟨t0,t1,t2,t3,t4, -⟩:=HR9.o;refine bodyPost_ret (v:= .tuple #[.agg #[.int .i64 x2.kind,.int .i64 x2.size,.int .i64 x2.count,.slice A4 n4 c4,.slice B4 m4 e4],.bool true]) (by simp[results,Tryz.results40,go_sem,t0,t1,t2,t3,t4]) rfl ?_;exact⟨_,true,_,rfl,HV9.o,HE9.o,.inl ⟨rfl,HOS.o⟩⟩
  case inr.inl=>
   go_wp2_with fail
   refine HFC.o.mono ?_;rintro e w2 ⟨v2,b2,x2,rfl,hv2,hx2,ho2⟩;have HV2:=hid hv2;have HO2:=hid ho2;obtain⟨A2,n2,c2,B2,m2,e2,rfl, -⟩:=hv2;obtain⟨W3,hW3⟩:=Qg (w2.alloc (.cells #[.int .i64 x2.kind,.int .i64 x2.size,.int .i64 x2.count,.slice A2 n2 c2,.slice B2 m2 e2] 42));have hE3:Ext w1 W3:=by rw[<-hW3];exact hx2.alloc _
   have HRB:=hid (HRB.o.ext hE3);have HEW:=hid (HEW.o.trans hE3);have b0:W3.cell? ⟨w2.heap.size,0,none⟩=some (.int .i64 x2.kind):=by rw[<-hW3];simp[go_sem]
   have b1:W3.cell? ⟨w2.heap.size,1,none⟩=some (.int .i64 x2.size):=by rw[<-hW3];simp[go_sem]
   have b2':W3.cell? ⟨w2.heap.size,2,none⟩=some (.int .i64 x2.count):=by rw[<-hW3];simp[go_sem]
   have b3:W3.cell? ⟨w2.heap.size,3,none⟩=some (.slice A2 n2 c2):=by rw[<-hW3];simp[go_sem]
   have b4:W3.cell? ⟨w2.heap.size,4,none⟩=some (.slice B2 m2 e2):=by rw[<-hW3];simp[go_sem]
   have hxs:=hid hx2.size;clear hx2 ho2 hE3 o0 o1 o2 o3 o4
   cases b2 with
   |false=>
    have HNO:Hid (o=none):=hid (by rcases HO2.o with⟨h,_⟩|⟨_,h⟩;cases h;exact h);clear b0 b1 b2' b3 b4;obtain⟨r0,r1,r2,r3,r4,rf⟩:=HRB.o;have f0:=rf 0;have f1:=rf 1;have f2:=rf 2;have f3:=rf 3;have f4:=rf 4;clear rf
    go_wp2
    have HR9':=hid (((((HRB.o.put0 (.int .i64 0)).put1 (.int .i64 0)).put2 (.int .i64 0)).put3 (.slice none 0 0)).put4 (.slice none 0 0));have HE9':=hid (ZD (b:=w.heap.size+1) HEW.o (by omega) (.int .i64 0) (.int .i64 0) (.int .i64 0) (.slice none 0 0) (.slice none 0 0));generalize hW9:World.setCell _ _ _=W9;have HE9:Hid (Ext w W9):=hid (by rw[<-hW9];exact HE9'.o);have HR9:Hid (Qm W9 (w.heap.size+1) (.int .i64 0) (.int .i64 0) (.int .i64 0) (.slice none 0 0) (.slice none 0 0)):=hid (by rw[<-hW9];exact HR9'.o);clear hW9 HR9' HE9' r0 r1 r2 r3 r4 f0 f1 f2 f3 f4;obtain⟨t0,t1,t2,t3,t4, -⟩:=HR9.o;refine bodyPost_ret (v:= .tuple #[.agg #[.int .i64 0,.int .i64 0,.int .i64 0,.slice none 0 0,.slice none 0 0],.bool false]) (by simp[results,Tryz.results40,go_sem,t0,t1,t2,t3,t4]) rfl ?_;exact⟨_,false,_,rfl,J1 d _ _ 0 0 (by unfold Qy;omega) (by unfold Qy;omega),HE9.o,.inr ⟨rfl,HNO.o⟩⟩
   | true=>
    have HOS:Hid (o=some x2):=hid (by rcases HO2.o with⟨_,h⟩|⟨h,_⟩;exact h;cases h);have HOC:=hid (qV d W3 x2 _ (HV2.o.ext HEW.o) (HSB.o x2 HOS.o))
    go_wp2_with fail
    refine HOC.o.mono ?_;rintro e w4 ⟨v4,rfl,hv4,hx4⟩;have HRB:=hid (HRB.o.ext hx4);have HV4:=hid hv4;have HE4:=hid (HEW.o.trans hx4)
    have hlt:w.heap.size+1<W3.heap.size:=by
     have h1:=World.block_lt_of_cell? _ _ b0;have h2:=World.block_lt_of_cell? _ _ HR0.o.1;have h3:=HX1.o.size;simp only at h1 h2;rw[<-hW3];simp;have h5:w1.heap.size<=w2.heap.size:=hxs.o;omega
    obtain⟨A4,n4,c4,B4,m4,e4,rfl, -⟩:=hv4;obtain⟨r0,r1,r2,r3,r4,rf⟩:=HRB.o;have f0:=rf 0;have f1:=rf 1;have f2:=rf 2;have f3:=rf 3;have f4:=rf 4;clear rf hx4 hW3 b0 b1 b2' b3 b4
    go_wp2
    have HR9':=hid (((((HRB.o.put0 (.int .i64 x2.kind)).put1 (.int .i64 x2.size)).put2 (.int .i64 x2.count)).put3 (.slice A4 n4 c4)).put4 (.slice B4 m4 e4));have HE9':=hid (ZD (b:=w.heap.size+1) HE4.o (by omega) (.int .i64 x2.kind) (.int .i64 x2.size) (.int .i64 x2.count) (.slice A4 n4 c4) (.slice B4 m4 e4));have HV9':=hid (TyV.keep (S:=fun b=>W3.heap.size<=b) (fun b (hb:W3.heap.size<=b) _=>Jv w4 (w.heap.size+1) (.int .i64 x2.kind) (.int .i64 x2.size) (.int .i64 x2.count) (.slice A4 n4 c4) (.slice B4 m4 e4) (k:=b) (by omega)) HV4.o);generalize hW9:World.setCell _ _ _=W9;have HE9:Hid (Ext w W9):=hid (by rw[<-hW9];exact HE9'.o);have HR9:Hid (Qm W9 (w.heap.size+1) (.int .i64 x2.kind) (.int .i64 x2.size) (.int .i64 x2.count) (.slice A4 n4 c4) (.slice B4 m4 e4)):=hid (by rw[<-hW9];exact HR9'.o);have HV9:Hid (TyV d W9 (fun b=>w.heap.size<=b) (.agg #[.int .i64 x2.kind,.int .i64 x2.size,.int .i64 x2.count,.slice A4 n4 c4,.slice B4 m4 e4]) x2):=hid (by rw[<-hW9];exact HV9'.o.mono fun b hb _=>by have hb':W3.heap.size<=b:=hb;show w.heap.size<=b;omega);clear hW9 HR9' HE9' HV9' r0 r1 r2 r3 r4 f0 f1 f2 f3 f4;obtain⟨t0,t1,t2,t3,t4, -⟩:=HR9.o;refine bodyPost_ret (v:= .tuple #[.agg #[.int .i64 x2.kind,.int .i64 x2.size,.int .i64 x2.count,.slice A4 n4 c4,.slice B4 m4 e4],.bool true]) (by simp[results,Tryz.results40,go_sem,t0,t1,t2,t3,t4]) rfl ?_;exact⟨_,true,_,rfl,HV9.o,HE9.o,.inl ⟨rfl,HOS.o⟩⟩
  case inr.inr=>
   go_wp2_with fail
   refine HFC.o.mono ?_;rintro e w2 ⟨v2,b2,x2,rfl,hv2,hx2,ho2⟩;have HV2:=hid hv2;have HO2:=hid ho2;obtain⟨A2,n2,c2,B2,m2,e2,rfl, -⟩:=hv2;obtain⟨W3,hW3⟩:=Qg (w2.alloc (.cells #[.int .i64 x2.kind,.int .i64 x2.size,.int .i64 x2.count,.slice A2 n2 c2,.slice B2 m2 e2] 42));have hE3:Ext w1 W3:=by rw[<-hW3];exact hx2.alloc _
   have HRB:=hid (HRB.o.ext hE3);have HEW:=hid (HEW.o.trans hE3);have b0:W3.cell? ⟨w2.heap.size,0,none⟩=some (.int .i64 x2.kind):=by rw[<-hW3];simp[go_sem]
   have b1:W3.cell? ⟨w2.heap.size,1,none⟩=some (.int .i64 x2.size):=by rw[<-hW3];simp[go_sem]
   have b2':W3.cell? ⟨w2.heap.size,2,none⟩=some (.int .i64 x2.count):=by rw[<-hW3];simp[go_sem]
   have b3:W3.cell? ⟨w2.heap.size,3,none⟩=some (.slice A2 n2 c2):=by rw[<-hW3];simp[go_sem]
   have b4:W3.cell? ⟨w2.heap.size,4,none⟩=some (.slice B2 m2 e2):=by rw[<-hW3];simp[go_sem]
   have hxs:=hid hx2.size;clear hx2 ho2 hE3 o0 o1 o2 o3 o4
   cases b2 with
   |false=>
    have HNO:Hid (o=none):=hid (by rcases HO2.o with⟨h,_⟩|⟨_,h⟩;cases h;exact h);clear b0 b1 b2' b3 b4;obtain⟨r0,r1,r2,r3,r4,rf⟩:=HRB.o;have f0:=rf 0;have f1:=rf 1;have f2:=rf 2;have f3:=rf 3;have f4:=rf 4;clear rf
    go_wp2
    have HR9':=hid (((((HRB.o.put0 (.int .i64 0)).put1 (.int .i64 0)).put2 (.int .i64 0)).put3 (.slice none 0 0)).put4 (.slice none 0 0));have HE9':=hid (ZD (b:=w.heap.size+1) HEW.o (by omega) (.int .i64 0) (.int .i64 0) (.int .i64 0) (.slice none 0 0) (.slice none 0 0));generalize hW9:World.setCell _ _ _=W9;have HE9:Hid (Ext w W9):=hid (by rw[<-hW9];exact HE9'.o);have HR9:Hid (Qm W9 (w.heap.size+1) (.int .i64 0) (.int .i64 0) (.int .i64 0) (.slice none 0 0) (.slice none 0 0)):=hid (by rw[<-hW9];exact HR9'.o);clear hW9 HR9' HE9' r0 r1 r2 r3 r4 f0 f1 f2 f3 f4;obtain⟨t0,t1,t2,t3,t4, -⟩:=HR9.o;refine bodyPost_ret (v:= .tuple #[.agg #[.int .i64 0,.int .i64 0,.int .i64 0,.slice none 0 0,.slice none 0 0],.bool false]) (by simp[results,Tryz.results40,go_sem,t0,t1,t2,t3,t4]) rfl ?_;exact⟨_,false,_,rfl,J1 d _ _ 0 0 (by unfold Qy;omega) (by unfold Qy;omega),HE9.o,.inr ⟨rfl,HNO.o⟩⟩
   | true=>
    have HOS:Hid (o=some x2):=hid (by rcases HO2.o with⟨_,h⟩|⟨h,_⟩;exact h;cases h);have HOC:=hid (qV d W3 x2 _ (HV2.o.ext HEW.o) (HSB.o x2 HOS.o))
    go_wp2_with fail
    refine HOC.o.mono ?_;rintro e w4 ⟨v4,rfl,hv4,hx4⟩;have HRB:=hid (HRB.o.ext hx4);have HV4:=hid hv4;have HE4:=hid (HEW.o.trans hx4)
    have hlt:w.heap.size+1<W3.heap.size:=by
     have h1:=World.block_lt_of_cell? _ _ b0;have h2:=World.block_lt_of_cell? _ _ HR0.o.1;have h3:=HX1.o.size;simp only at h1 h2;rw[<-hW3];simp;have h5:w1.heap.size<=w2.heap.size:=hxs.o;omega
    obtain⟨A4,n4,c4,B4,m4,e4,rfl, -⟩:=hv4;obtain⟨r0,r1,r2,r3,r4,rf⟩:=HRB.o;have f0:=rf 0;have f1:=rf 1;have f2:=rf 2;have f3:=rf 3;have f4:=rf 4;clear rf hx4 hW3 b0 b1 b2' b3 b4
    go_wp2
    have HR9':=hid (((((HRB.o.put0 (.int .i64 x2.kind)).put1 (.int .i64 x2.size)).put2 (.int .i64 x2.count)).put3 (.slice A4 n4 c4)).put4 (.slice B4 m4 e4));have HE9':=hid (ZD (b:=w.heap.size+1) HE4.o (by omega) (.int .i64 x2.kind) (.int .i64 x2.size) (.int .i64 x2.count) (.slice A4 n4 c4) (.slice B4 m4 e4));have HV9':=hid (TyV.keep (S:=fun b=>W3.heap.size<=b) (fun b (hb:W3.heap.size<=b) _=>Jv w4 (w.heap.size+1) (.int .i64 x2.kind) (.int .i64 x2.size) (.int .i64 x2.count) (.slice A4 n4 c4) (.slice B4 m4 e4) (k:=b) (by omega)) HV4.o);generalize hW9:World.setCell _ _ _=W9;have HE9:Hid (Ext w W9):=hid (by rw[<-hW9];exact HE9'.o);have HR9:Hid (Qm W9 (w.heap.size+1) (.int .i64 x2.kind) (.int .i64 x2.size) (.int .i64 x2.count) (.slice A4 n4 c4) (.slice B4 m4 e4)):=hid (by rw[<-hW9];exact HR9'.o);have HV9:Hid (TyV d W9 (fun b=>w.heap.size<=b) (.agg #[.int .i64 x2.kind,.int .i64 x2.size,.int .i64 x2.count,.slice A4 n4 c4,.slice B4 m4 e4]) x2):=hid (by rw[<-hW9];exact HV9'.o.mono fun b hb _=>by have hb':W3.heap.size<=b:=hb;show w.heap.size<=b;omega);clear hW9 HR9' HE9' HV9' r0 r1 r2 r3 r4 f0 f1 f2 f3 f4;obtain⟨t0,t1,t2,t3,t4, -⟩:=HR9.o;refine bodyPost_ret (v:= .tuple #[.agg #[.int .i64 x2.kind,.int .i64 x2.size,.int .i64 x2.count,.slice A4 n4 c4,.slice B4 m4 e4],.bool true]) (by simp[results,Tryz.results40,go_sem,t0,t1,t2,t3,t4]) rfl ?_;exact⟨_,true,_,rfl,HV9.o,HE9.o,.inl ⟨rfl,HOS.o⟩⟩
end Go.Proofs.YtlmipgdnlfjpaaaGreat
