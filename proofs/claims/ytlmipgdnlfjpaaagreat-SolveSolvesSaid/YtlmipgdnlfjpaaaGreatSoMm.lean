/- Lemmas of mine, merged. -/
import Derived.Test.YtlmipgdnlfjpaaaGreatSoLm
import Derived.Test.YtlmipgdnlfjpaaaGreatPlam
import Derived.Test.YtlmipgdnlfjpaaaGreatFlom
set_option linter.unusedSimpArgs false
set_option linter.unusedVariables false
namespace Go.Proofs.YtlmipgdnlfjpaaaGreat
open Go.RowKit Go.Deco Go.Maps
section
variable {ops:Array Oper}{rest:List Oper}{o:Oper}{a:Act}{Q:Exit->Act->World->Prop}{W W1:World}
theorem vW (t:TypeId)(m x:Operand)(_hgd:o.guard=none)(_ho:o.op= .lookup t m x true)(h:wpList Tryz.prog ops Q (o :: rest) a W):wpList Tryz.prog ops Q (o :: rest) a W:=h
theorem vF (hgd:o.guard=none)(m x:Operand)(t:TypeId)(ho:o.op= .lookup t m x true){v:Value}(hrun:(Instr.lookup t (a.eval m) (a.eval x) true).run Tryz.prog W= .ok v W)(h:wpList Tryz.prog ops Q rest (a.put o.dst v) W):
  wpList Tryz.prog ops Q (o :: rest) a W:=
 wpList_plain hgd fun _ hK=>by
  unfold Oper.wp;simp[execOp,ho,hrun,Result.andThen];exact hK _ _ h
theorem sJ (t:TypeId)(m x y:Operand)(_hgd:o.guard=none)(_ho:o.op= .insert t m x y)(h:wpList Tryz.prog ops Q (o :: rest) a W):wpList Tryz.prog ops Q (o :: rest) a W:=h
theorem l8 (hgd:o.guard=none)(m x y:Operand)(t:TypeId)(ho:o.op= .insert t m x y)(hrun:(Instr.mapUpdate t (a.eval m) (a.eval x) (a.eval y)).run Tryz.prog W= .ok () W1)(h:wpList Tryz.prog ops Q rest (a.put o.dst undef) W1):
  wpList Tryz.prog ops Q (o :: rest) a W:=
 wpList_plain hgd fun _ hK=>by
  unfold Oper.wp;simp[execOp,ho,hrun,Result.andThen];exact hK _ _ h
theorem gG (t:TypeId)(m x y:Operand)(_hgd:o.guard=none)(_ho:o.op= .mapUpdate t m x y)(h:wpList Tryz.prog ops Q (o :: rest) a W):wpList Tryz.prog ops Q (o :: rest) a W:=h
theorem uK (hgd:o.guard=none)(m x y:Operand)(t:TypeId)(ho:o.op= .mapUpdate t m x y)(hrun:(Instr.mapUpdate t (a.eval m) (a.eval x) (a.eval y)).run Tryz.prog W= .ok () W1)(h:wpList Tryz.prog ops Q rest (a.put o.dst undef) W1):
  wpList Tryz.prog ops Q (o :: rest) a W:=
 wpList_plain hgd fun _ hK=>by
  unfold Oper.wp;simp[execOp,ho,hrun,Result.andThen];exact hK _ _ h
end
section
variable {w:World}{mb n:Nat}{f:Int->Option Value}
theorem lV (h:MapG (QG Tryz.underlying3) w mb n f){q:Int}(hq:Qy q):(Instr.lookup 73 (.map (some mb)) (.int .i64 q) true).run Tryz.prog w= .ok (.tuple #[(f q).getD (.map none),.bool (f q).isSome]) w:=by
 obtain⟨D,h1,h2⟩:=h;have hrun:=(Yw h1 (QG Tryz.underlying3).law Tryz.underlying73 (z:= .map none) (Tryz.zeroValue69 w) ((QG Tryz.underlying3).key hq)).2;rw[<-h2]at hrun;exact hrun
end
theorem yK (w:World)(a base:Nat)(ha:a<1048576)(hb:base<=w.heap.size):Qf QF (w.alloc (.cells #[.int .i64 a] 3)) base 3 No (.slice (some ⟨w.heap.size,0,none⟩) 1 1) [a]:=
 ⟨[.int .i64 a],⟨by simp[XG],.inr ⟨w.heap.size,1,#[.int .i64 a],rfl,hb,heap_alloc_new w _,by simp,by simp[maxLen],by simp[XG],by simp[XG]⟩⟩,XV.2 ⟨rfl,fun x hx=>by simp at hx;omega⟩⟩
structure PtS (d:Nat)(D:Zj)(W0 W:World)(vl:Value)(l:List Con)(n:Nat)(P0 P:List Nat)(v6:Value)(scb N:Nat)(SC:List Ty)(T:Nat->Prop)(ft fc fr:Int->Option Value):Prop where
 now:Q6 D W0 W vl l n P0 P v6 (.slice (some ⟨scb,0,none⟩) N N)
 scal:Qf (tyR d) W W0.heap.size 42 T (.slice (some ⟨scb,0,none⟩) N N) SC
 typ:MapG (QG Tryz.underlying3) W D.b0 (Vg n ft) ft
 cnt:MapG (QG Tryz.underlying3) W (D.b0+1) (Vg n fc) fc
 rch:MapG (QG Tryz.underlying3) W (D.b0+2) (Vg n fr) fr
 typs:∀q v,ft q=some v->∃(k d' m:Nat) (t:Ty),q=(k:Int)/\k<n/\Qb P0 k=k/\TyV d' W T v t/\Q8 l m (k:Int) t/\fc q=some (.int .i64 (QV t))/\QV t<=256
 typn:∀q,ft q=none->fc q=none
 rchs:∀q v,fr q=some v->∃(k b m:Nat) (L:List Nat),q=(k:Int)/\k<n/\Qb P0 k=k/\v= .map (some b)/\T b/\MapG (QG Tryz.underlying3) W b m (VF L)/\∀y,y∈L↔VX l (Qb P0) k y
 place:∀b,T b->W0.heap.size<=b/\b<W.heap.size
 tscb:T scb
 mx:D.mx
section
variable {d:Nat}{D:Zj}{w0 W0 W W':World}{vl:Value}{l:List Con}{n:Nat}{P0 P P':List Nat}{v6:Value}{scb N:Nat}{SC:List Ty}{T:Nat->Prop}{ft fc fr:Int->Option Value}
theorem Zw.bounds (S:Zw d D w0 W0 vl l n P0)(hN:0<n+l.length):D.b0+6<=D.cm/\D.cm<D.lo/\D.lo<=W0.heap.size/\D.b0+6<=D.pb/\D.pb<D.cm:=⟨S.base.hcm,S.base.hlo,S.base.hsz,S.base.hpb.1,S.base.hpb.2 hN⟩
theorem PtS.keep {M:Nat->Prop}(h:PtS d D W0 W vl l n P0 P v6 scb N SC T ft fc fr)(h':Q6 D W0 W' vl l n P0 P' v6 (.slice (some ⟨scb,0,none⟩) N N))(hc:Chg M W W')(hM:∀b,M b->b≠D.b0/\b≠D.b0+1/\b≠D.b0+2/\¬T b):PtS d D W0 W' vl l n P0 P' v6 scb N SC T ft fc fr:=by
 refine⟨h',hc.own h.scal (fun b hb' e=>by have e':some scb=some b:=hb';injection e' with e';subst e';exact(hM _ e).2.2.2 h.tscb) (fun b hb' e=>(hM b e).2.2.2 hb'),hc.map h.typ (fun e=>(hM _ e).1 rfl),hc.map h.cnt (fun e=>(hM _ e).2.1 rfl),hc.map h.rch (fun e=>(hM _ e).2.2.1 rfl),fun q v hq=>?_,h.typn,fun q v hq=>?_,fun b hb=>⟨(h.place b hb).1,Nat.lt_of_lt_of_le (h.place b hb).2 hc.size⟩,h.tscb,h.mx⟩
 ·obtain⟨k,d',m,t,h1,h2,h3,h4,h5⟩:=h.typs q v hq;exact⟨k,d',m,t,h1,h2,h3,hc.ty h4 (fun b hb' e=>(hM b e).2.2.2 hb'),h5⟩
 ·obtain⟨k,b,m,L,h1,h2,h3,h4,h5,h6,h7⟩:=h.rchs q v hq;exact⟨k,b,m,L,h1,h2,h3,h4,h5,hc.map h6 (fun e=>(hM b e).2.2.2 h5),h7⟩
theorem PtS.pb (S:Zw d D w0 W0 vl l n P0)(hN:0<n+l.length)(h:PtS d D W0 W vl l n P0 P v6 scb N SC T ft fc fr)(h':Q6 D W0 W' vl l n P0 P' v6 (.slice (some ⟨scb,0,none⟩) N N))(hc:Chg (fun b=>b=D.pb) W W'):PtS d D W0 W' vl l n P0 P' v6 scb N SC T ft fc fr:=by
 have hb:=S.bounds hN;exact h.keep h' hc fun b e=>⟨by omega,by omega,by omega,fun k=>by have:=(h.place b k).1;omega⟩
theorem PtS.ext (h:PtS d D W0 W vl l n P0 P v6 scb N SC T ft fc fr)(he:Ext W W'):PtS d D W0 W' vl l n P0 P v6 scb N SC T ft fc fr:=h.keep (M:=fun _=>False) (h.now.ext he) (Chg.of_ext _ he) (fun _ h=>h.elim)
theorem PtS.far {M:Nat->Prop}(S:Zw d D w0 W0 vl l n P0)(h:PtS d D W0 W vl l n P0 P v6 scb N SC T ft fc fr)(hc:Chg M W W')(hM:∀b,M b->W0.heap.size<=b/\¬T b):PtS d D W0 W' vl l n P0 P v6 scb N SC T ft fc fr:=
 h.keep (h.now.far S hc (fun b hb=> .inl (hM b hb).1)) hc (fun b hb=>by have:=(hM b hb).1;have:=S.base.hcm;have:=S.base.hlo;have:=S.base.hsz;exact⟨by omega,by omega,by omega,(hM b hb).2⟩)
theorem PtS.putR (S:Zw d D w0 W0 vl l n P0)(hN:0<n+l.length)(h:PtS d D W0 W vl l n P0 P v6 scb N SC T ft fc fr){k b m:Nat}{L:List Nat}(hk:k<n)(hr:Qb P0 k=k)(hn:fr k=none)(hb:W0.heap.size<=b)(hm:MapG (QG Tryz.underlying3) W b m (VF L))(hL:∀y,y∈L↔VX l (Qb P0) k y)
  (hu:MapG (QG Tryz.underlying3) W' (D.b0+2) (Vg n fr+1) (fun j=>if j=(k:Int) then some (.map (some b)) else fr j)) (hg:W.grownBy W' (some (D.b0+2))):PtS d D W0 W' vl l n P0 P v6 scb N SC (fun x=>T x\/x=b) ft fc (fun j=>if j=(k:Int) then some (.map (some b)) else fr j):=by
 have hbd:=S.bounds hN;have hc:Chg (fun b=>b=D.b0+2) W W':=Chg.of_grown hg rfl;have hsc:=(h.place _ h.tscb).1;refine⟨h.now.far S hc (fun b hb=> .inr (.inr (.inr ⟨h.mx,hb⟩))),(hc.own h.scal (fun b hb' e=>by have e':some scb=some b:=hb';injection e' with e';omega) (fun b hb' e=>by have:=(h.place b hb').1;omega)).monoT (fun b hb _=> .inl hb),hc.map h.typ (by omega),hc.map h.cnt (by omega),by rw[pW hk hn];exact hu,fun q v hq=>?_,h.typn,fun q v hq=>?_,fun x hx=>?_,.inl h.tscb,h.mx⟩
 ·obtain⟨k,d',m,t,h1,h2,h3,h4,h5⟩:=h.typs q v hq;exact⟨k,d',m,t,h1,h2,h3,(hc.ty h4 (fun b hb' e=>by have:=(h.place b hb').1;omega)).mono (fun b hb _=> .inl hb),h5⟩
 ·by_cases hq':q=(k:Int)
  ·simp only[if_pos hq']at hq;injection hq with hq
   exact⟨k,b,m,L,hq',hk,hr,hq.symm,.inr rfl,hc.map hm (by omega),hL⟩
  ·simp only[if_neg hq']at hq;obtain⟨k,b',m,L,h1,h2,h3,h4,h5,h6,h7⟩:=h.rchs q v hq;exact⟨k,b',m,L,h1,h2,h3,h4,.inl h5,hc.map h6 (by have:=(h.place b' h5).1;omega),h7⟩
 ·rcases hx with hx|rfl
  ·exact⟨(h.place x hx).1,Nat.lt_of_lt_of_le (h.place x hx).2 hc.size⟩
  ·exact⟨hb,Nat.lt_of_lt_of_le hm.lt hc.size⟩
end
def uW (d:Nat)(D:Zj)(W0 W:World)(vl:Value)(l:List Con)(n:Nat)(P0:List Nat)(v6:Value)(scb N:Nat)(SC:List Ty)(T:Nat->Prop)(ft fc:Int->Option Value)(a t:Nat)(e:Ending)(w':World):Prop:=
 ∃(b:Bool) (P':List Nat) (T':Nat->Prop) (fr':Int->Option Value),e= .returned (.bool b)/\(b=true↔qZ l (a:Int) (t:Int))/\PtS d D W0 w' vl l n P0 P' v6 scb N SC T' ft fc fr'/\Chg (fun b=>b=D.pb\/b=D.b0+2) W w'/\(∀b,T' b->T b\/W.heap.size<=b)/\∀b,T b->T' b
structure LdW (D:Zj)(W0 W:World)(vl:Value)(l:List Con)(n:Nat)(P0:List Nat)(v6 v7:Value)(a:Nat)(s9:Value)(wr:World)(x:List Nat×List Nat):Prop where
 now:∃P,Q6 D W0 wr vl l n P0 P v6 v7
 chg:Chg (fun b=>b=D.pb) W wr
 seen:MapG (QG Tryz.underlying3) wr W.heap.size x.1.length (VF x.1)
 own:Qf QF wr (W.heap.size+1) 3 No s9 x.2
 ld:LdR l n (Qb P0) a x.1 x.2 none
def muL (n:Nat)(x:List Nat×List Nat):Nat:=2 * (n - x.1.length)+x.2.length
structure LdI (D:Zj)(W0 W:World)(vl:Value)(l:List Con)(n:Nat)(P0:List Nat)(v6 v7:Value)(a kk z z5 M:Nat)(vR:Value)(R:List Nat)(i:Nat)(s9:Value)(wr:World)(SN WK:List Nat):Prop where
 now:∃P,Q6 D W0 wr vl l n P0 P v6 v7
 chg:Chg (fun b=>b=D.pb) W wr
 seen:MapG (QG Tryz.underlying3) wr W.heap.size SN.length (VF SN)
 own:Qf QF wr (W.heap.size+1) 3 No s9 WK
 ld:LdR l n (Qb P0) a SN WK (some (kk,R.take i))
 mu:muL n (SN,WK)<M
 row:Sl QF wr (fun b=>z<=b/\b<z5) vR R
 far:∀g,s9.ownBlock=some g->g<z\/z5<=g
 big:z5<=wr.heap.size/\W.heap.size+1<=z
section
variable {d:Nat}{D:Zj}{w0 W0 W:World}{l:List Con}{n:Nat}{P0 P:List Nat}{v6:Value}{scb N:Nat}{SC:List Ty}{T:Nat->Prop}{ft fc fr:Int->Option Value}
set_option maxRecDepth 100000 in
set_option maxHeartbeats 8000000 in
theorem ab {A:Option Addr} {m me:Nat} (S:Zw d D w0 W0 (.slice A m me) l n P0) (h:PtS d D W0 W (.slice A m me) l n P0 P v6 scb N SC T ft fc fr) {a t:Nat} (ha:a<n) (har:Qb P0 a=a) (hap:Q9 l (a:Int)) (ht:t<n) (htr:Qb P0 t=t) (htp:Q9 l (t:Int)):
  Calls Tryz.prog 105 #[.pointer (some ⟨D.b0+5,0,none⟩),.int .i64 a,.int .i64 t] W (uW d D W0 W (.slice A m me) l n P0 v6 scb N SC T ft fc a t):=by
 have hr:=h.now.roots;have hhn:=S.hn;have hhm:=S.hm;have hbd:=S.bounds (by omega);have hi:Qy (a:Int):=by unfold Qy;omega
 have hit:Qy (t:Int):=by unfold Qy;omega
 have c10:=h.now.box.1 10 _ rfl;have HLK:=hid (lV h.rch hi);have HH:=hid h;have HS:=hid S;have HR:=hid hr;have HA:Hid (a<n/\Qb P0 a=a/\Q9 l (a:Int)):=hid ⟨ha,har,hap⟩;have HT:Hid (t<n/\Qb P0 t=t/\Q9 l (t:Int)):=hid ⟨ht,htr,htp⟩;have HBD:=hid hbd;have HIT:=hid hit;obtain⟨sb,hsb⟩:=Qg (D.b0+5);rw[hsb]at c10 ⊢;have HSB:=hid hsb
 cases hf:fr (a:Int) with
 | some v=>
  obtain⟨k,b,mm,L,h1,h2,h3,rfl,h5,h6,h7⟩:=h.rchs _ _ hf;have hka:k=a:=by omega
  subst hka;rw[hf,Option.getD_some]at HLK
  have hl2:(Instr.lookup 69 (.map (some b)) (.int .i64 t) false).run Tryz.prog W= .ok (.bool (decide (t∈L))) W:=by
   have:=jD h6 hit
   rwa [pm]at this
  have HL2:=hid hl2;have HL7:=hid h7;clear hf h1 h2 h3 h5 h6 h7 hl2 S h hr hbd hi hit ha har hap ht htr htp hsb;go_enter Tryz.func105,Tryz.ntmps105
  go_wp2_with (first
   |((with_reducible refine vW 73 (.tmp 17) (.tmp 18) rfl rfl ?_);refine vF rfl (.tmp 17) (.tmp 18) 73 rfl HLK.o ?_)
   |((with_reducible refine Vy 69 (.tmp 68) (.tmp 69) rfl rfl ?_);refine Vf rfl (.tmp 68) (.tmp 69) 69 rfl HL2.o ?_)
   |fail)
  go_ret;exact⟨_,P,T,fr,rfl,by rw[decide_eq_true_eq,HL7.o];exact nZ HS.o.base.cls HR.o HS.o.ok HA.o.1 HA.o.2.1 HT.o.1 HT.o.2.1 HT.o.2.2,HH.o,Chg.refl _ _,fun b hb=> .inl hb,fun b hb=>hb⟩
 | none =>
  rw[hf,Option.getD_none]at HLK;have HF:=hid hf;obtain⟨w3,hr3,hm3,hg3⟩:=(MapG.made (QG Tryz.underlying3) W).put Tryz.underlying69 (by simp[maxLen]) (x:=(a:Int)) hi (.bool true);have hX3:Ext W w3:=Ext.grown ((Ext.refl W).alloc _) hg3 (fun j hj=>by cases hj;exact Nat.le_refl _);have hs3:W.heap.size+1<=w3.heap.size:=by have:=hg3.size;simp at this;omega
  have HX3:=hid hX3;have HR3:=hid hr3;have hm4:MapG (QG Tryz.underlying3) w3 W.heap.size 1 (VF [a]):=hm3.same (fun x=>by have:=mY [] a x;simpa [VF] using this);have hsc:W0.heap.size<=W.heap.size:=h.now.chg.size;have HSC:=hid hsc
  have hL0:LdW D W0 W (.slice A m me) l n P0 v6 (.slice (some ⟨scb,0,none⟩) N N) a (.slice (some ⟨w3.heap.size,0,none⟩) 1 1) (w3.alloc (.cells #[.int .i64 a] 3)) ([a],[a]):=
   ⟨⟨P,h.now.ext (hX3.alloc _)⟩,Chg.of_ext _ (hX3.alloc _),hm4.ext ((Ext.refl w3).alloc _),yK w3 a _ (by omega) hs3,LdR.begin ha har hap⟩
  have HL0:=hid hL0;have hmm:=@run_makeMap Tryz.prog;clear hr3 hm3 hg3 hX3 hs3 hm4 hsc hL0 hf S h hr hbd ha har hap ht htr htp hsb;go_enter Tryz.func105,Tryz.ntmps105
  go_wp2_with (first
   |((with_reducible refine vW 73 (.tmp 17) (.tmp 18) rfl rfl ?_);refine vF rfl (.tmp 17) (.tmp 18) 73 rfl HLK.o ?_)
   |((with_reducible refine sJ 69 (.tmp 24) (.tmp 25) (.const (.bool true)) rfl rfl ?_);refine l8 rfl (.tmp 24) (.tmp 25) (.const (.bool true)) 69 rfl HR3.o ?_)
   |fail)
  clear c10 hmm
  go_loopw [9] (fun s9 wr=>∃x,LdW D W0 W (.slice A m me) l n P0 v6 (.slice (some ⟨scb,0,none⟩) N N) a s9 wr x) (fun s9 wr=>Jy (LdW D W0 W (.slice A m me) l n P0 v6 (.slice (some ⟨scb,0,none⟩) N N) a s9 wr) (muL n))
  case atStart=>exact⟨_,HL0.o⟩
  case round=>
   obtain⟨⟨SN,WK⟩,hld,hmu⟩:=wq (μ:=muL n) hrel;clear hrel HL0;have HMU:=hid hmu;have HLD:=hid hld;obtain⟨B,cb,rfl, -, -⟩:=hld.own.form;obtain⟨P1,hn1⟩:=hld.now;have HN1:=hid hn1;clear hmu hld hn1;rcases List.eq_nil_or_concat WK with h0|⟨L,kk,hL⟩
   ·subst h0;have i1:¬((0:Nat):Int) > 0:=by omega
    rw[show([]:List Nat).length=0 from rfl];have h8:=HH.o.pb HS.o (by have:=HA.o.1;omega) HN1.o HLD.o.chg;obtain⟨w8,hr8,hm8,hg8⟩:=h8.rch.put Tryz.underlying73 (by have:=YK n fr;simp[maxLen];omega) (x:=(a:Int)) hi (.map (some W.heap.size));have hseen:=HLD.o.seen.kept hg8 (fun e=>by injection e with e;have:=HBD.o;have:=HSC.o;omega)
    have hl2:(Instr.lookup 69 (.map (some W.heap.size)) (.int .i64 t) false).run Tryz.prog w8= .ok (.bool (decide (t∈SN))) w8:=by
     have:=jD hseen hit
     rwa [pm]at this
    have c10:=HN1.o.box.1 10 _ rfl;rw[HSB.o]at c10;have HR8:=hid hr8;have HL2:=hid hl2;have hfin:=h8.putR HS.o (by have:=HA.o.1;omega) HA.o.1 HA.o.2.1 HF.o HSC.o (HLD.o.seen) (fun y=>HLD.o.ld.done) hm8 hg8;have HFIN:=hid hfin;have HC8:=hid ((HLD.o.chg.mono (M':=fun b=>b=D.pb\/b=D.b0+2) (fun b hb=> .inl hb)).trans (Chg.of_grown hg8 (.inr rfl)));clear hr8 hl2 hfin hm8 hg8 h8 hseen
    go_wp2_with (first
     |((with_reducible refine gG 73 (.tmp 65) (.tmp 66) (.tmp 67) rfl rfl ?_);refine uK rfl (.tmp 65) (.tmp 66) (.tmp 67) 73 rfl HR8.o ?_)
     |((with_reducible refine Vy 69 (.tmp 68) (.tmp 69) rfl rfl ?_);refine Vf rfl (.tmp 68) (.tmp 69) 69 rfl HL2.o ?_)
     |fail)
    go_ret;exact⟨_,P1,_,_,rfl,by rw[decide_eq_true_eq,HLD.o.ld.done];exact nZ HS.o.base.cls HR.o HS.o.ok HA.o.1 HA.o.2.1 HT.o.1 HT.o.2.1 HT.o.2.2,HFIN.o,HC8.o,fun b hb=>by rcases hb with hb|hb;exact .inl hb;exact .inr (by omega),fun b hb=> .inl hb⟩
   ·rw [List.concat_eq_append]at hL;subst hL;obtain⟨p,hp⟩:=Qg (L.length);have hql:(L ++ [kk]).length=p+1:=by simp[hp]
    have HQL:=hid hql;have hwk:=HLD.o.own;rw[hql]at hwk ⊢;obtain⟨wb,rfl,hw1,hw2⟩:=hwk.at0 (by omega);have ck:=(hwk.num_cell (k:=p) (x:=kk) (by rw[List.getElem?_append_right (by omega),hp];simp)).1;obtain⟨hcap, -⟩:=hwk.sl.cap;have hln:=HLD.o.ld.len.2;rw[hql]at hln;have HPL:=hid hp;have i1:((p+1:Nat):Int) > 0:=by omega
    have i2:(p:Int)<(cb:Int):=by omega
    have i3:(p:Int)<=(cb:Int):=by omega
    have hown7:Qf QF wr (W.heap.size+1) 3 No (.slice (some ⟨wb,0,none⟩) p cb) L:=by
     have h1:=ny hwk
     rwa [hp]at h1
    have HO7:=hid hown7;have HLR:=hid HLD.o.ld.pop;have hk:=HLD.o.ld.ok kk (HLD.o.ld.wk kk (by simp));have HKK:=hid hk;have hwbz:wb<wr.heap.size:=hw2;have HWB:=hid hwbz;have hiso:=(HS.o.isptr HR.o hk.1 hk.2.1).2 hk.2.2.1
    have HNX:=hid (show Calls Tryz.prog 127 #[.pointer (some ⟨sb,0,none⟩),.int .i64 kk] wr (nP D W0 wr (.slice A m me) l n P0 v6 (.slice (some ⟨scb,0,none⟩) N N) kk) from by
     rw[<-HSB.o];exact iF HS.o HN1.o hk.1 hk.2.1 hiso)
    clear hp hwk hw1 hw2 hql hown7 hk hiso hwbz
    go_wp2_with fail
    clear ck;refine HNX.o.mono ?_;rintro e w5 ⟨B9,c9,R,P5,rfl,hR5,hmem,hRl,hn5,hc5⟩;obtain⟨nR,hnR⟩:=Qg (R.length);have HNR:=hid hnR;have hRn:nR<=1048576:=by omega
    have HMEM:=hid hmem;obtain⟨z,hz⟩:=Qg (wr.heap.size);obtain⟨z5,hz5⟩:=Qg (w5.heap.size);obtain⟨M,hM⟩:=Qg (muL n (SN,L ++ [kk]));have HMM:=hid hM;have hzW:W.heap.size+1<=z:=by have:=HLD.o.seen.lt;omega
    have hzz:z<=z5:=by have:=hc5.size;omega
    rw[hnR]at hR5 ⊢;have hpbW:D.pb<W.heap.size:=by have:=HBD.o;have:=HSC.o;omega
    have hLI:LdI D W0 W (.slice A m me) l n P0 v6 (.slice (some ⟨scb,0,none⟩) N N) a kk z z5 M (.slice B9 nR c9) R 0 (.slice (some ⟨wb,0,none⟩) p cb) w5 SN L:=by
     refine⟨⟨P5,hn5⟩,HLD.o.chg.trans hc5,hc5.map HLD.o.seen (by omega),Vd HO7.o hc5 (fun b hb e=>by have:=(HO7.o.block b hb).1;omega),by simpa using HLR.o, ?_, ?_,fun g hg=>?_,⟨by omega,hzW⟩⟩
     ·rw[<-hM];unfold muL;simp
     ·refine hR5.mono (fun b hb hi=>⟨by have hb':wr.heap.size<=b:=hb;omega,by have:=hi.lt;omega⟩)
     ·have:some wb=some g:=hg;injection this with this
      have:=HWB.o;exact .inl (by omega)
    have HLI:=hid hLI;clear hR5 hmem hn5 hc5 hnR hz hz5 hM hLI
    go_wp2_with fail
    go_loopw [9,47] (fun s9 i wr=>∃(i':Nat) (SN2 WK2:List Nat),i'<=nR/\i= .int .i64 i'/\Hid (LdI D W0 W (.slice A m me) l n P0 v6 (.slice (some ⟨scb,0,none⟩) N N) a kk z z5 M (.slice B9 nR c9) R i' s9 wr SN2 WK2)) (fun _ i _=>nR - (intOf i).toNat)
    case atStart=>exact⟨0,SN,L,by omega,rfl,HLI⟩
    case round=>
     obtain⟨i',SN2,WK2,hi',rfl,HI⟩:=hrel;clear HLI HNX;by_cases h1:i'<nR
     ·obtain⟨y,hy⟩:∃y,R[i']? =some y:=⟨_,Qq (by have:=HNR.o;omega)⟩;obtain⟨bR,oR,rfl,hcell⟩:=HI.o.row.num_at hy;have hym:=(HMEM.o y).1 (Qx hy);have hkk:=HI.o.ld.now kk _ rfl
      have hyok:y<n/\Qb P0 y=y/\Q9 l (y:Int)/\VX l (Qb P0) a y:=by
       obtain⟨c,g1,g2,g3,g4,g5⟩:=hym;obtain⟨b,hb,hbn⟩:=Yj (HS.o.ok c g1) g2;have h5:VX l (Qb P0) a y:=by rw[g5];exact .step (HI.o.ld.ok kk hkk.1).2.2.2 g1 g2 g3 g4
       refine⟨by rw[g5,hb];exact HR.o.lt _ hbn,by rw[g5,hb];exact HR.o.idem _ hbn, ?_,h5⟩;rw[g5];refine X0 ?_ g4;rw[hb];exact YJ HS.o.base.cls HR.o hbn
      have hyb:Qy (y:Int):=by have:=hyok.1;unfold Qy;omega
      have hl3:(Instr.lookup 69 (.map (some W.heap.size)) (.int .i64 y) false).run Tryz.prog wr= .ok (.bool (decide (y∈SN2))) wr:=by
       have:=jD HI.o.seen hyb
       rwa [pm]at this
      have HL3:=hid hl3;have HYO:=hid hyok;have htk:R.take (i'+1)=R.take i' ++ [y]:=by rw[List.take_add_one,hy];rfl
      have HTK:=hid htk;obtain⟨B2,cb2,rfl, -, -⟩:=HI.o.own.form;obtain⟨P6,hn6⟩:=HI.o.now;have HN6:=hid hn6;obtain⟨q2,hq2⟩:=Qg (WK2.length);have HQ2:=hid hq2;have hq2n:q2<=65536:=by have:=HI.o.ld.len.2;omega
      by_cases hys:y∈SN2
      ·rw[Qv hys]at HL3;have HYS:=hid hys;clear hl3 hyok htk hn6 hq2 hys hy hym hkk;rw[HQ2.o]
       go_wp2_with (first
        |((with_reducible refine Vy 69 (.tmp 51) (.tmp 52) rfl rfl ?_);refine Vf rfl (.tmp 51) (.tmp 52) 69 rfl HL3.o ?_)
        |fail)
       first
        |go_roundw
        |refine⟨?rel, ?measure⟩
       case rel=>
        refine⟨i'+1,SN2,WK2,by omega,by go_num,hid {HI.o with own:=?_,ld:=?_,far:=?_}⟩
        ·have:=HI.o.own;rwa [HQ2.o]at this
        ·rw[HTK.o];exact HI.o.ld.had HYS.o
        ·have:=HI.o.far;rwa [HQ2.o]at this
       case measure=>simp [intOf];omega
      ·rw [Qw hys]at HL3;have HYS:=hid hys;have hsl:=HI.o.ld.len.1;obtain⟨w8,hr8,hm8,hg8⟩:=HI.o.seen.put Tryz.underlying69 (by simp[maxLen];omega) (x:=(y:Int)) hyb (.bool true);have hC8:Chg (fun b=>b=W.heap.size) wr w8:=Chg.of_grown hg8 rfl;have hW0:=HSC.o;have HS8:=hid (show MapG (QG Tryz.underlying3) w8 W.heap.size (SN2 ++ [y]).length (VF (SN2 ++ [y])) from by rw[List.length_append];exact hm8.same (mY _ _));have HN8:=hid (HN6.o.far HS.o hC8 (fun b hb=> .inl (by omega)));have HC8:=hid (HI.o.chg.trans' hC8 (fun b hb=> .inr (by omega)));have HO8:=hid (Vd HI.o.own hC8 (fun b hb e=>by have:=(HI.o.own.block b hb).1;omega));have HR8:=hid (hC8.sl HI.o.row (fun b hb e=>by have:=HI.o.big;have hb':z<=b/\b<z5:=hb;omega));have HU8:=hid hr8;have hz8:z5<=w8.heap.size:=by have:=HI.o.big;have:=hg8.size;omega
       have hy6:y<1048576:=by have:=hyok.1;omega
       have hzW8:W.heap.size+1<=w8.heap.size:=by omega
       clear hl3 hyok htk hn6 hys hy hym hkk hr8 hm8 hg8 hC8
       go_wp2_with (first
        |((with_reducible refine Vy 69 (.tmp 51) (.tmp 52) rfl rfl ?_);refine Vf rfl (.tmp 51) (.tmp 52) 69 rfl HL3.o ?_)
        |((with_reducible refine gG 69 (.tmp 55) (.tmp 56) (.const (.bool true)) rfl rfl ?_);refine uK rfl (.tmp 55) (.tmp 56) (.const (.bool true)) 69 rfl HU8.o ?_)
        |(at_builtin;refine Yg rfl (.tmp 57) (.tmp 59) rfl (W.heap.size+1) (.slice B2 WK2.length cb2) WK2 (by rw[HQ2.o];rfl) (HO8.o.ext ((Ext.refl _).alloc _)) w8.heap.size y rfl (by simp[go_sem]) hy6 (by rw[HQ2.o];omega) (by simp;omega) ?_;intro A9 c9' w9 ho9 hg9 hl9;have HO9:=hid ho9;have HG9:=hid hg9;have HL9:=hid hl9;clear ho9 hg9 hl9)
        |fail)
       first
        |go_roundw
        |refine⟨?rel, ?measure⟩
       case rel=>
        have hCa:Chg (fun b=>(Value.slice B2 WK2.length cb2).ownBlock=some b) w8 w9:=(Chg.of_ext _ ((Ext.refl _).alloc _)).trans (Chg.of_grown' HG9.o (fun b hb=>hb));have hob:∀b,(Value.slice B2 WK2.length cb2).ownBlock=some b->W.heap.size+1<=b:=fun b hb=>(HO8.o.block b hb).1;have hld:=HI.o.ld.add HYS.o HYO.o;have hll:=hld.len.1;rw[List.length_append]at hll;simp only[List.length_cons,List.length_nil]at hll;refine⟨i'+1,SN2 ++ [y],WK2 ++ [y],by omega,by go_num,hid ⟨⟨P6,HN8.o.far HS.o hCa (fun b hb=> .inl (by have:=hob b hb;omega))⟩,HC8.o.trans' hCa (fun b hb=> .inr (by have:=hob b hb;omega)),(HS8.o.ext ((Ext.refl _).alloc _)).kept HG9.o (fun e=>by have:=hob _ e.symm;omega), ?_, ?_, ?_,hCa.sl HR8.o (fun b hb e=>?_),fun g hg=>?_, ?_⟩⟩
        ·have:=HO9.o;rwa [HQ2.o]at this
        ·rw[HTK.o];exact hld
        ·have:=HI.o.mu;unfold muL at this ⊢;simp only[List.length_append,List.length_cons,List.length_nil]at this ⊢;omega
        ·have hb':z<=b/\b<z5:=hb;have:=HI.o.far b e;omega
        ·rw[<-HQ2.o]at hg;rcases HL9.o g hg with e|e
         ·exact HI.o.far g e
         ·simp at e;exact .inr (by omega)
        ·have:=hCa.size;exact⟨by omega,HI.o.big.2⟩
       case measure=>simp [intOf];omega
     ·obtain rfl:i'=nR:=by omega
      have i4:¬(i':Int)<(i':Int):=by omega
      go_wp2_with fail
      first
       |go_roundw
       |refine⟨?rel, ?measure⟩
      case rel=>
       refine⟨(SN2,WK2),HI.o.now,HI.o.chg,HI.o.seen,HI.o.own,HI.o.ld.close (fun c g1 g2 g3 g4=>?_)⟩;rw[Qj (by rw[HNR.o];exact Nat.le_refl _)];exact(HMEM.o _).2 ⟨c,g1,g2,g3,g4,rfl⟩
      case measure=>
       have h3:=pg (μ:=muL n) (p:=LdW D W0 W (.slice A m me) l n P0 v6 (.slice (some ⟨scb,0,none⟩) N N) a _ _) (a:=(SN2,WK2)) ⟨HI.o.now,HI.o.chg,HI.o.seen,HI.o.own,HI.o.ld.close (fun c g1 g2 g3 g4=>by
        rw[Qj (by rw[HNR.o];exact Nat.le_refl _)];exact(HMEM.o _).2 ⟨c,g1,g2,g3,g4,rfl⟩)⟩
       have h4:=HI.o.mu;have h5:=HMU.o;rw[<-HQL.o,<-h5,HMM.o];exact Nat.lt_of_le_of_lt h3 h4
end
end Go.Proofs.YtlmipgdnlfjpaaaGreat
