/- Merged by program from texts of my own. -/
import Derived.Test.YtlmipgdnlfjpaaaGreatSoLm
import Derived.Test.YtlmipgdnlfjpaaaGreatSvHm
import Derived.Test.YtlmipgdnlfjpaaaGreatFlom
import Derived.Test.YtlmipgdnlfjpaaaGreatPlam
namespace Go.Proofs.YtlmipgdnlfjpaaaGreat
open Go.RowKit Go.Deco Go.Maps
set_option linter.unusedSimpArgs false
set_option linter.unusedVariables false
section
variable {ops:Array Oper}{rest:List Oper}{o:Oper}{a:Act}{Q:Exit→Act→World→Prop}{W W1:World}
theorem wpList_at_lkT (t:TypeId)(m x:Operand)(_hgd:o.guard=none)(_ho:o.op= .lookup t m x true)(h:wpList Tryz.prog ops Q (o :: rest) a W):wpList Tryz.prog ops Q (o :: rest) a W:=h
theorem wpList_lookT (hgd:o.guard=none)(m x:Operand)(t:TypeId)(ho:o.op= .lookup t m x true){v:Value}(hrun:(Instr.lookup t (a.eval m) (a.eval x) true).run Tryz.prog W= .ok v W)(h:wpList Tryz.prog ops Q rest (a.put o.dst v) W):
  wpList Tryz.prog ops Q (o :: rest) a W:=
 wpList_plain hgd fun _ hK=>by
  unfold Oper.wp;simp[execOp,ho,hrun,Result.andThen];exact hK _ _ h
theorem wpList_at_ins (t:TypeId)(m x y:Operand)(_hgd:o.guard=none)(_ho:o.op= .insert t m x y)(h:wpList Tryz.prog ops Q (o :: rest) a W):wpList Tryz.prog ops Q (o :: rest) a W:=h
theorem wpList_ins (hgd:o.guard=none)(m x y:Operand)(t:TypeId)(ho:o.op= .insert t m x y)(hrun:(Instr.mapUpdate t (a.eval m) (a.eval x) (a.eval y)).run Tryz.prog W= .ok () W1)(h:wpList Tryz.prog ops Q rest (a.put o.dst undef) W1):
  wpList Tryz.prog ops Q (o :: rest) a W:=
 wpList_plain hgd fun _ hK=>by
  unfold Oper.wp;simp[execOp,ho,hrun,Result.andThen];exact hK _ _ h
theorem wpList_at_upd (t:TypeId)(m x y:Operand)(_hgd:o.guard=none)(_ho:o.op= .mapUpdate t m x y)(h:wpList Tryz.prog ops Q (o :: rest) a W):wpList Tryz.prog ops Q (o :: rest) a W:=h
theorem wpList_upd (hgd:o.guard=none)(m x y:Operand)(t:TypeId)(ho:o.op= .mapUpdate t m x y)(hrun:(Instr.mapUpdate t (a.eval m) (a.eval x) (a.eval y)).run Tryz.prog W= .ok () W1)(h:wpList Tryz.prog ops Q rest (a.put o.dst undef) W1):
  wpList Tryz.prog ops Q (o :: rest) a W:=
 wpList_plain hgd fun _ hK=>by
  unfold Oper.wp;simp[execOp,ho,hrun,Result.andThen];exact hK _ _ h
end
section
variable {w:World}{mb n:Nat}{f:Int→Option Value}
theorem reach_look (h:MapG (intK Tryz.underlying3) w mb n f){q:Int}(hq:i64b q):(Instr.lookup 73 (.map (some mb)) (.int .i64 q) true).run Tryz.prog w= .ok (.tuple #[(f q).getD (.map none),.bool (f q).isSome]) w:=by
 obtain⟨D,h1,h2⟩:=h;have hrun:=(ownsMap_look h1 (intK Tryz.underlying3).law Tryz.underlying73 (z:= .map none) (Tryz.zeroValue69 w) ((intK Tryz.underlying3).key hq)).2;rw[←h2]at hrun;exact hrun
end
theorem own_one (w:World)(a base:Nat)(ha:a<1048576)(hb:base≤w.heap.size):OwnS natR (w.alloc (.cells #[.int .i64 a] 3)) base 3 No (.slice (some ⟨w.heap.size,0,none⟩) 1 1) [a]:=
 ⟨[.int .i64 a],⟨by simp[numR],.inr ⟨w.heap.size,1,#[.int .i64 a],rfl,hb,heap_alloc_new w _,by simp,by simp[maxLen],by simp[numR],by simp[numR]⟩⟩,chunks_num.2 ⟨rfl,fun x hx=>by simp at hx;omega⟩⟩
structure PtS (d:Nat)(D:SvDat)(W0 W:World)(vl:Value)(l:List Con)(n:Nat)(P0 P:List Nat)(v6:Value)(scb N:Nat)(SC:List Ty)(T:Nat→Prop)(ft fc fr:Int→Option Value):Prop where
 now:SvNow D W0 W vl l n P0 P v6 (.slice (some ⟨scb,0,none⟩) N N)
 scal:OwnS (tyR d) W W0.heap.size 42 T (.slice (some ⟨scb,0,none⟩) N N) SC
 typ:MapG (intK Tryz.underlying3) W D.b0 (cntD n ft) ft
 cnt:MapG (intK Tryz.underlying3) W (D.b0+1) (cntD n fc) fc
 rch:MapG (intK Tryz.underlying3) W (D.b0+2) (cntD n fr) fr
 typs:∀q v,ft q=some v→∃(k d' m:Nat) (t:Ty),q=(k:Int)∧k<n∧rootP P0 k=k∧TyV d' W T v t∧PtrTy l m (k:Int) t∧fc q=some (.int .i64 (cntT t))∧cntT t≤256
 typn:∀q,ft q=none→fc q=none
 rchs:∀q v,fr q=some v→∃(k b m:Nat) (L:List Nat),q=(k:Int)∧k<n∧rootP P0 k=k∧v= .map (some b)∧T b∧MapG (intK Tryz.underlying3) W b m (seenF L)∧∀y,y∈L↔RchN l (rootP P0) k y
 place:∀b,T b→W0.heap.size≤b∧b<W.heap.size
 tscb:T scb
 mx:D.mx
section
variable {d:Nat}{D:SvDat}{w0 W0 W W':World}{vl:Value}{l:List Con}{n:Nat}{P0 P P':List Nat}{v6:Value}{scb N:Nat}{SC:List Ty}{T:Nat→Prop}{ft fc fr:Int→Option Value}
theorem SvSt.bounds (S:SvSt d D w0 W0 vl l n P0)(hN:0<n+l.length):D.b0+6≤D.cm∧D.cm<D.lo∧D.lo≤W0.heap.size∧D.b0+6≤D.pb∧D.pb<D.cm:=⟨S.base.hcm,S.base.hlo,S.base.hsz,S.base.hpb.1,S.base.hpb.2 hN⟩
theorem PtS.keep {M:Nat→Prop}(h:PtS d D W0 W vl l n P0 P v6 scb N SC T ft fc fr)(h':SvNow D W0 W' vl l n P0 P' v6 (.slice (some ⟨scb,0,none⟩) N N))(hc:Chg M W W')(hM:∀b,M b→b≠D.b0∧b≠D.b0+1∧b≠D.b0+2∧¬T b):PtS d D W0 W' vl l n P0 P' v6 scb N SC T ft fc fr:=by
 refine⟨h',hc.own h.scal (fun b hb' e=>by have e':some scb=some b:=hb';injection e' with e';subst e';exact(hM _ e).2.2.2 h.tscb) (fun b hb' e=>(hM b e).2.2.2 hb'),hc.map h.typ (fun e=>(hM _ e).1 rfl),hc.map h.cnt (fun e=>(hM _ e).2.1 rfl),hc.map h.rch (fun e=>(hM _ e).2.2.1 rfl),fun q v hq=>?_,h.typn,fun q v hq=>?_,fun b hb=>⟨(h.place b hb).1,Nat.lt_of_lt_of_le (h.place b hb).2 hc.size⟩,h.tscb,h.mx⟩
 ·obtain⟨k,d',m,t,h1,h2,h3,h4,h5⟩:=h.typs q v hq;exact⟨k,d',m,t,h1,h2,h3,hc.ty h4 (fun b hb' e=>(hM b e).2.2.2 hb'),h5⟩
 ·obtain⟨k,b,m,L,h1,h2,h3,h4,h5,h6,h7⟩:=h.rchs q v hq;exact⟨k,b,m,L,h1,h2,h3,h4,h5,hc.map h6 (fun e=>(hM b e).2.2.2 h5),h7⟩
theorem PtS.pb (S:SvSt d D w0 W0 vl l n P0)(hN:0<n+l.length)(h:PtS d D W0 W vl l n P0 P v6 scb N SC T ft fc fr)(h':SvNow D W0 W' vl l n P0 P' v6 (.slice (some ⟨scb,0,none⟩) N N))(hc:Chg (fun b=>b=D.pb) W W'):PtS d D W0 W' vl l n P0 P' v6 scb N SC T ft fc fr:=by
 have hb:=S.bounds hN;exact h.keep h' hc fun b e=>⟨by omega,by omega,by omega,fun k=>by have:=(h.place b k).1;omega⟩
theorem PtS.ext (h:PtS d D W0 W vl l n P0 P v6 scb N SC T ft fc fr)(he:Ext W W'):PtS d D W0 W' vl l n P0 P v6 scb N SC T ft fc fr:=h.keep (M:=fun _=>False) (h.now.ext he) (Chg.of_ext _ he) (fun _ h=>h.elim)
theorem PtS.far {M:Nat→Prop}(S:SvSt d D w0 W0 vl l n P0)(h:PtS d D W0 W vl l n P0 P v6 scb N SC T ft fc fr)(hc:Chg M W W')(hM:∀b,M b→W0.heap.size≤b∧¬T b):PtS d D W0 W' vl l n P0 P v6 scb N SC T ft fc fr:=
 h.keep (h.now.far S hc (fun b hb=> .inl (hM b hb).1)) hc (fun b hb=>by have:=(hM b hb).1;have:=S.base.hcm;have:=S.base.hlo;have:=S.base.hsz;exact⟨by omega,by omega,by omega,(hM b hb).2⟩)
theorem PtS.putR (S:SvSt d D w0 W0 vl l n P0)(hN:0<n+l.length)(h:PtS d D W0 W vl l n P0 P v6 scb N SC T ft fc fr){k b m:Nat}{L:List Nat}(hk:k<n)(hr:rootP P0 k=k)(hn:fr k=none)(hb:W0.heap.size≤b)(hm:MapG (intK Tryz.underlying3) W b m (seenF L))(hL:∀y,y∈L↔RchN l (rootP P0) k y)
  (hu:MapG (intK Tryz.underlying3) W' (D.b0+2) (cntD n fr+1) (fun j=>if j=(k:Int) then some (.map (some b)) else fr j)) (hg:W.grownBy W' (some (D.b0+2))):PtS d D W0 W' vl l n P0 P v6 scb N SC (fun x=>T x∨x=b) ft fc (fun j=>if j=(k:Int) then some (.map (some b)) else fr j):=by
 have hbd:=S.bounds hN;have hc:Chg (fun b=>b=D.b0+2) W W':=Chg.of_grown hg rfl;have hsc:=(h.place _ h.tscb).1;refine⟨h.now.far S hc (fun b hb=> .inr (.inr (.inr ⟨h.mx,hb⟩))),(hc.own h.scal (fun b hb' e=>by have e':some scb=some b:=hb';injection e' with e';omega) (fun b hb' e=>by have:=(h.place b hb').1;omega)).monoT (fun b hb _=> .inl hb),hc.map h.typ (by omega),hc.map h.cnt (by omega),by rw[cntD_put hk hn];exact hu,fun q v hq=>?_,h.typn,fun q v hq=>?_,fun x hx=>?_,.inl h.tscb,h.mx⟩
 ·obtain⟨k,d',m,t,h1,h2,h3,h4,h5⟩:=h.typs q v hq;exact⟨k,d',m,t,h1,h2,h3,(hc.ty h4 (fun b hb' e=>by have:=(h.place b hb').1;omega)).mono (fun b hb _=> .inl hb),h5⟩
 ·by_cases hq':q=(k:Int)
  ·simp only[if_pos hq']at hq;injection hq with hq
   exact⟨k,b,m,L,hq',hk,hr,hq.symm,.inr rfl,hc.map hm (by omega),hL⟩
  ·simp only[if_neg hq']at hq;obtain⟨k,b',m,L,h1,h2,h3,h4,h5,h6,h7⟩:=h.rchs q v hq;exact⟨k,b',m,L,h1,h2,h3,h4,.inl h5,hc.map h6 (by have:=(h.place b' h5).1;omega),h7⟩
 ·rcases hx with hx|rfl
  ·exact⟨(h.place x hx).1,Nat.lt_of_lt_of_le (h.place x hx).2 hc.size⟩
  ·exact⟨hb,Nat.lt_of_lt_of_le hm.lt hc.size⟩
end
def LeadsPost (d:Nat)(D:SvDat)(W0 W:World)(vl:Value)(l:List Con)(n:Nat)(P0:List Nat)(v6:Value)(scb N:Nat)(SC:List Ty)(T:Nat→Prop)(ft fc:Int→Option Value)(a t:Nat)(e:Ending)(w':World):Prop:=
 ∃(b:Bool) (P':List Nat) (T':Nat→Prop) (fr':Int→Option Value),e= .returned (.bool b)∧(b=true↔LeadsEq l (a:Int) (t:Int))∧PtS d D W0 w' vl l n P0 P' v6 scb N SC T' ft fc fr'∧Chg (fun b=>b=D.pb∨b=D.b0+2) W w'∧(∀b,T' b→T b∨W.heap.size≤b)∧∀b,T b→T' b
structure LdW (D:SvDat)(W0 W:World)(vl:Value)(l:List Con)(n:Nat)(P0:List Nat)(v6 v7:Value)(a:Nat)(s9:Value)(wr:World)(x:List Nat×List Nat):Prop where
 now:∃P,SvNow D W0 wr vl l n P0 P v6 v7
 chg:Chg (fun b=>b=D.pb) W wr
 seen:MapG (intK Tryz.underlying3) wr W.heap.size x.1.length (seenF x.1)
 own:OwnS natR wr (W.heap.size+1) 3 No s9 x.2
 ld:LdR l n (rootP P0) a x.1 x.2 none
def muL (n:Nat)(x:List Nat×List Nat):Nat:=2 * (n - x.1.length)+x.2.length
structure LdI (D:SvDat)(W0 W:World)(vl:Value)(l:List Con)(n:Nat)(P0:List Nat)(v6 v7:Value)(a kk z z5 M:Nat)(vR:Value)(R:List Nat)(i:Nat)(s9:Value)(wr:World)(SN WK:List Nat):Prop where
 now:∃P,SvNow D W0 wr vl l n P0 P v6 v7
 chg:Chg (fun b=>b=D.pb) W wr
 seen:MapG (intK Tryz.underlying3) wr W.heap.size SN.length (seenF SN)
 own:OwnS natR wr (W.heap.size+1) 3 No s9 WK
 ld:LdR l n (rootP P0) a SN WK (some (kk,R.take i))
 mu:muL n (SN,WK)<M
 row:Sl natR wr (fun b=>z≤b∧b<z5) vR R
 far:∀g,s9.ownBlock=some g→g<z∨z5≤g
 big:z5≤wr.heap.size∧W.heap.size+1≤z
section
variable {d:Nat}{D:SvDat}{w0 W0 W:World}{l:List Con}{n:Nat}{P0 P:List Nat}{v6:Value}{scb N:Nat}{SC:List Ty}{T:Nat→Prop}{ft fc fr:Int→Option Value}
set_option maxRecDepth 100000 in
set_option maxHeartbeats 8000000 in
theorem leads_any {A:Option Addr} {m me:Nat} (S:SvSt d D w0 W0 (.slice A m me) l n P0) (h:PtS d D W0 W (.slice A m me) l n P0 P v6 scb N SC T ft fc fr) {a t:Nat} (ha:a<n) (har:rootP P0 a=a) (hap:IsPtr l (a:Int)) (ht:t<n) (htr:rootP P0 t=t) (htp:IsPtr l (t:Int)):
  Calls Tryz.prog 105 #[.pointer (some ⟨D.b0+5,0,none⟩),.int .i64 a,.int .i64 t] W (LeadsPost d D W0 W (.slice A m me) l n P0 v6 scb N SC T ft fc a t):=by
 have hr:=h.now.roots;have hhn:=S.hn;have hhm:=S.hm;have hbd:=S.bounds (by omega);have hi:i64b (a:Int):=by unfold i64b;omega
 have hit:i64b (t:Int):=by unfold i64b;omega
 have c10:=h.now.box.1 10 _ rfl;have HLK:=hid (reach_look h.rch hi);have HH:=hid h;have HS:=hid S;have HR:=hid hr;have HA:Hid (a<n∧rootP P0 a=a∧IsPtr l (a:Int)):=hid ⟨ha,har,hap⟩;have HT:Hid (t<n∧rootP P0 t=t∧IsPtr l (t:Int)):=hid ⟨ht,htr,htp⟩;have HBD:=hid hbd;have HIT:=hid hit;obtain⟨sb,hsb⟩:∃sb,D.b0+5=sb:=⟨_,rfl⟩;rw[hsb]at c10 ⊢;have HSB:=hid hsb
 cases hf:fr (a:Int) with
 | some v=>
  obtain⟨k,b,mm,L,h1,h2,h3,rfl,h5,h6,h7⟩:=h.rchs _ _ hf;have hka:k=a:=by omega
  subst hka;rw[hf,Option.getD_some]at HLK
  have hl2:(Instr.lookup 69 (.map (some b)) (.int .i64 t) false).run Tryz.prog W= .ok (.bool (decide (t∈L))) W:=by
   have:=dir_look h6 hit
   rwa [seenF_get]at this
  have HL2:=hid hl2;have HL7:=hid h7;clear hf h1 h2 h3 h5 h6 h7 hl2 S h hr hbd hi hit ha har hap ht htr htp hsb;go_enter Tryz.func105,Tryz.ntmps105
  go_wp2_with (first
   |((with_reducible refine wpList_at_lkT 73 (.tmp 17) (.tmp 18) rfl rfl ?_);refine wpList_lookT rfl (.tmp 17) (.tmp 18) 73 rfl HLK.out ?_)
   |((with_reducible refine wpList_at_lk 69 (.tmp 68) (.tmp 69) rfl rfl ?_);refine wpList_lookR rfl (.tmp 68) (.tmp 69) 69 rfl HL2.out ?_)
   |fail)
  go_ret;exact⟨_,P,T,fr,rfl,by rw[decide_eq_true_eq,HL7.out];exact rch_iff HS.out.base.cls HR.out HS.out.ok HA.out.1 HA.out.2.1 HT.out.1 HT.out.2.1 HT.out.2.2,HH.out,Chg.refl _ _,fun b hb=> .inl hb,fun b hb=>hb⟩
 | none =>
  rw[hf,Option.getD_none]at HLK;have HF:=hid hf;obtain⟨w3,hr3,hm3,hg3⟩:=(MapG.made (intK Tryz.underlying3) W).put Tryz.underlying69 (by simp[maxLen]) (x:=(a:Int)) hi (.bool true);have hX3:Ext W w3:=Ext.grown ((Ext.refl W).alloc _) hg3 (fun j hj=>by cases hj;exact Nat.le_refl _);have hs3:W.heap.size+1≤w3.heap.size:=by have:=hg3.size;simp at this;omega
  have HX3:=hid hX3;have HR3:=hid hr3;have hm4:MapG (intK Tryz.underlying3) w3 W.heap.size 1 (seenF [a]):=hm3.same (fun x=>by have:=seenF_put [] a x;simpa [seenF] using this);have hsc:W0.heap.size≤W.heap.size:=h.now.chg.size;have HSC:=hid hsc
  have hL0:LdW D W0 W (.slice A m me) l n P0 v6 (.slice (some ⟨scb,0,none⟩) N N) a (.slice (some ⟨w3.heap.size,0,none⟩) 1 1) (w3.alloc (.cells #[.int .i64 a] 3)) ([a],[a]):=
   ⟨⟨P,h.now.ext (hX3.alloc _)⟩,Chg.of_ext _ (hX3.alloc _),hm4.ext ((Ext.refl w3).alloc _),own_one w3 a _ (by omega) hs3,LdR.begin ha har hap⟩
  have HL0:=hid hL0;have hmm:=@run_makeMap Tryz.prog;clear hr3 hm3 hg3 hX3 hs3 hm4 hsc hL0 hf S h hr hbd ha har hap ht htr htp hsb;go_enter Tryz.func105,Tryz.ntmps105
  go_wp2_with (first
   |((with_reducible refine wpList_at_lkT 73 (.tmp 17) (.tmp 18) rfl rfl ?_);refine wpList_lookT rfl (.tmp 17) (.tmp 18) 73 rfl HLK.out ?_)
   |((with_reducible refine wpList_at_ins 69 (.tmp 24) (.tmp 25) (.const (.bool true)) rfl rfl ?_);refine wpList_ins rfl (.tmp 24) (.tmp 25) (.const (.bool true)) 69 rfl HR3.out ?_)
   |fail)
  clear c10 hmm
  go_loopw [9] (fun s9 wr=>∃x,LdW D W0 W (.slice A m me) l n P0 v6 (.slice (some ⟨scb,0,none⟩) N N) a s9 wr x) (fun s9 wr=>leastM (LdW D W0 W (.slice A m me) l n P0 v6 (.slice (some ⟨scb,0,none⟩) N N) a s9 wr) (muL n))
  case atStart=>exact⟨_,HL0.out⟩
  case round=>
   obtain⟨⟨SN,WK⟩,hld,hmu⟩:=leastM_spec (μ:=muL n) hrel;clear hrel HL0;have HMU:=hid hmu;have HLD:=hid hld;obtain⟨B,cb,rfl, -, -⟩:=hld.own.form;obtain⟨P1,hn1⟩:=hld.now;have HN1:=hid hn1;clear hmu hld hn1;rcases List.eq_nil_or_concat WK with h0|⟨L,kk,hL⟩
   ·subst h0;have i1:¬((0:Nat):Int) > 0:=by omega
    rw[show([]:List Nat).length=0 from rfl];have h8:=HH.out.pb HS.out (by have:=HA.out.1;omega) HN1.out HLD.out.chg;obtain⟨w8,hr8,hm8,hg8⟩:=h8.rch.put Tryz.underlying73 (by have:=cntD_le n fr;simp[maxLen];omega) (x:=(a:Int)) hi (.map (some W.heap.size));have hseen:=HLD.out.seen.kept hg8 (fun e=>by injection e with e;have:=HBD.out;have:=HSC.out;omega)
    have hl2:(Instr.lookup 69 (.map (some W.heap.size)) (.int .i64 t) false).run Tryz.prog w8= .ok (.bool (decide (t∈SN))) w8:=by
     have:=dir_look hseen hit
     rwa [seenF_get]at this
    have c10:=HN1.out.box.1 10 _ rfl;rw[HSB.out]at c10;have HR8:=hid hr8;have HL2:=hid hl2;have hfin:=h8.putR HS.out (by have:=HA.out.1;omega) HA.out.1 HA.out.2.1 HF.out HSC.out (HLD.out.seen) (fun y=>HLD.out.ld.done) hm8 hg8;have HFIN:=hid hfin;have HC8:=hid ((HLD.out.chg.mono (M':=fun b=>b=D.pb∨b=D.b0+2) (fun b hb=> .inl hb)).trans (Chg.of_grown hg8 (.inr rfl)));clear hr8 hl2 hfin hm8 hg8 h8 hseen
    go_wp2_with (first
     |((with_reducible refine wpList_at_upd 73 (.tmp 65) (.tmp 66) (.tmp 67) rfl rfl ?_);refine wpList_upd rfl (.tmp 65) (.tmp 66) (.tmp 67) 73 rfl HR8.out ?_)
     |((with_reducible refine wpList_at_lk 69 (.tmp 68) (.tmp 69) rfl rfl ?_);refine wpList_lookR rfl (.tmp 68) (.tmp 69) 69 rfl HL2.out ?_)
     |fail)
    go_ret;exact⟨_,P1,_,_,rfl,by rw[decide_eq_true_eq,HLD.out.ld.done];exact rch_iff HS.out.base.cls HR.out HS.out.ok HA.out.1 HA.out.2.1 HT.out.1 HT.out.2.1 HT.out.2.2,HFIN.out,HC8.out,fun b hb=>by rcases hb with hb|hb;exact .inl hb;exact .inr (by omega),fun b hb=> .inl hb⟩
   ·rw [List.concat_eq_append]at hL;subst hL;obtain⟨p,hp⟩:∃p,L.length=p:=⟨_,rfl⟩;have hql:(L ++ [kk]).length=p+1:=by simp[hp]
    have HQL:=hid hql;have hwk:=HLD.out.own;rw[hql]at hwk ⊢;obtain⟨wb,rfl,hw1,hw2⟩:=hwk.at0 (by omega);have ck:=(hwk.num_cell (k:=p) (x:=kk) (by rw[List.getElem?_append_right (by omega),hp];simp)).1;obtain⟨hcap, -⟩:=hwk.sl.cap;have hln:=HLD.out.ld.len.2;rw[hql]at hln;have HPL:=hid hp;have i1:((p+1:Nat):Int) > 0:=by omega
    have i2:(p:Int)<(cb:Int):=by omega
    have i3:(p:Int)≤(cb:Int):=by omega
    have hown7:OwnS natR wr (W.heap.size+1) 3 No (.slice (some ⟨wb,0,none⟩) p cb) L:=by
     have h1:=own_pop hwk
     rwa [hp]at h1
    have HO7:=hid hown7;have HLR:=hid HLD.out.ld.pop;have hk:=HLD.out.ld.ok kk (HLD.out.ld.wk kk (by simp));have HKK:=hid hk;have hwbz:wb<wr.heap.size:=hw2;have HWB:=hid hwbz;have hiso:=(HS.out.isptr HR.out hk.1 hk.2.1).2 hk.2.2.1
    have HNX:=hid (show Calls Tryz.prog 127 #[.pointer (some ⟨sb,0,none⟩),.int .i64 kk] wr (NextIs D W0 wr (.slice A m me) l n P0 v6 (.slice (some ⟨scb,0,none⟩) N N) kk) from by
     rw[←HSB.out];exact next_any HS.out HN1.out hk.1 hk.2.1 hiso)
    clear hp hwk hw1 hw2 hql hown7 hk hiso hwbz
    go_wp2_with fail
    clear ck;refine HNX.out.mono ?_;rintro e w5 ⟨B9,c9,R,P5,rfl,hR5,hmem,hRl,hn5,hc5⟩;obtain⟨nR,hnR⟩:∃nR,R.length=nR:=⟨_,rfl⟩;have HNR:=hid hnR;have hRn:nR≤1048576:=by omega
    have HMEM:=hid hmem;obtain⟨z,hz⟩:∃z,wr.heap.size=z:=⟨_,rfl⟩;obtain⟨z5,hz5⟩:∃z5,w5.heap.size=z5:=⟨_,rfl⟩;obtain⟨M,hM⟩:∃M,muL n (SN,L ++ [kk])=M:=⟨_,rfl⟩;have HMM:=hid hM;have hzW:W.heap.size+1≤z:=by have:=HLD.out.seen.lt;omega
    have hzz:z≤z5:=by have:=hc5.size;omega
    rw[hnR]at hR5 ⊢;have hpbW:D.pb<W.heap.size:=by have:=HBD.out;have:=HSC.out;omega
    have hLI:LdI D W0 W (.slice A m me) l n P0 v6 (.slice (some ⟨scb,0,none⟩) N N) a kk z z5 M (.slice B9 nR c9) R 0 (.slice (some ⟨wb,0,none⟩) p cb) w5 SN L:=by
     refine⟨⟨P5,hn5⟩,HLD.out.chg.trans hc5,hc5.map HLD.out.seen (by omega),own_chg HO7.out hc5 (fun b hb e=>by have:=(HO7.out.block b hb).1;omega),by simpa using HLR.out, ?_, ?_,fun g hg=>?_,⟨by omega,hzW⟩⟩
     ·rw[←hM];unfold muL;simp
     ·refine hR5.mono (fun b hb hi=>⟨by have hb':wr.heap.size≤b:=hb;omega,by have:=hi.lt;omega⟩)
     ·have:some wb=some g:=hg;injection this with this
      have:=HWB.out;exact .inl (by omega)
    have HLI:=hid hLI;clear hR5 hmem hn5 hc5 hnR hz hz5 hM hLI
    go_wp2_with fail
    go_loopw [9,47] (fun s9 i wr=>∃(i':Nat) (SN2 WK2:List Nat),i'≤nR∧i= .int .i64 i'∧Hid (LdI D W0 W (.slice A m me) l n P0 v6 (.slice (some ⟨scb,0,none⟩) N N) a kk z z5 M (.slice B9 nR c9) R i' s9 wr SN2 WK2)) (fun _ i _=>nR - (intOf i).toNat)
    case atStart=>exact⟨0,SN,L,by omega,rfl,HLI⟩
    case round=>
     obtain⟨i',SN2,WK2,hi',rfl,HI⟩:=hrel;clear HLI HNX;by_cases h1:i'<nR
     ·obtain⟨y,hy⟩:∃y,R[i']? =some y:=⟨_,List.getElem?_eq_getElem (by have:=HNR.out;omega)⟩;obtain⟨bR,oR,rfl,hcell⟩:=HI.out.row.num_at hy;have hym:=(HMEM.out y).1 (List.mem_of_getElem? hy);have hkk:=HI.out.ld.now kk _ rfl
      have hyok:y<n∧rootP P0 y=y∧IsPtr l (y:Int)∧RchN l (rootP P0) a y:=by
       obtain⟨c,g1,g2,g3,g4,g5⟩:=hym;obtain⟨b,hb,hbn⟩:=ok_b (HS.out.ok c g1) g2;have h5:RchN l (rootP P0) a y:=by rw[g5];exact .step (HI.out.ld.ok kk hkk.1).2.2.2 g1 g2 g3 g4
       refine⟨by rw[g5,hb];exact HR.out.lt _ hbn,by rw[g5,hb];exact HR.out.idem _ hbn, ?_,h5⟩;rw[g5];refine isptr_ve ?_ g4;rw[hb];exact root_ve HS.out.base.cls HR.out hbn
      have hyb:i64b (y:Int):=by have:=hyok.1;unfold i64b;omega
      have hl3:(Instr.lookup 69 (.map (some W.heap.size)) (.int .i64 y) false).run Tryz.prog wr= .ok (.bool (decide (y∈SN2))) wr:=by
       have:=dir_look HI.out.seen hyb
       rwa [seenF_get]at this
      have HL3:=hid hl3;have HYO:=hid hyok;have htk:R.take (i'+1)=R.take i' ++ [y]:=by rw[List.take_add_one,hy];rfl
      have HTK:=hid htk;obtain⟨B2,cb2,rfl, -, -⟩:=HI.out.own.form;obtain⟨P6,hn6⟩:=HI.out.now;have HN6:=hid hn6;obtain⟨q2,hq2⟩:∃q2,WK2.length=q2:=⟨_,rfl⟩;have HQ2:=hid hq2;have hq2n:q2≤65536:=by have:=HI.out.ld.len.2;omega
      by_cases hys:y∈SN2
      ·rw[decide_eq_true hys]at HL3;have HYS:=hid hys;clear hl3 hyok htk hn6 hq2 hys hy hym hkk;rw[HQ2.out]
       go_wp2_with (first
        |((with_reducible refine wpList_at_lk 69 (.tmp 51) (.tmp 52) rfl rfl ?_);refine wpList_lookR rfl (.tmp 51) (.tmp 52) 69 rfl HL3.out ?_)
        |fail)
       first
        |go_roundw
        |refine⟨?rel, ?measure⟩
       case rel=>
        refine⟨i'+1,SN2,WK2,by omega,by go_num,hid {HI.out with own:=?_,ld:=?_,far:=?_}⟩
        ·have:=HI.out.own;rwa [HQ2.out]at this
        ·rw[HTK.out];exact HI.out.ld.had HYS.out
        ·have:=HI.out.far;rwa [HQ2.out]at this
       case measure=>simp [intOf];omega
      ·rw [decide_eq_false hys]at HL3;have HYS:=hid hys;have hsl:=HI.out.ld.len.1;obtain⟨w8,hr8,hm8,hg8⟩:=HI.out.seen.put Tryz.underlying69 (by simp[maxLen];omega) (x:=(y:Int)) hyb (.bool true);have hC8:Chg (fun b=>b=W.heap.size) wr w8:=Chg.of_grown hg8 rfl;have hW0:=HSC.out;have HS8:=hid (show MapG (intK Tryz.underlying3) w8 W.heap.size (SN2 ++ [y]).length (seenF (SN2 ++ [y])) from by rw[List.length_append];exact hm8.same (seenF_put _ _));have HN8:=hid (HN6.out.far HS.out hC8 (fun b hb=> .inl (by omega)));have HC8:=hid (HI.out.chg.trans' hC8 (fun b hb=> .inr (by omega)));have HO8:=hid (own_chg HI.out.own hC8 (fun b hb e=>by have:=(HI.out.own.block b hb).1;omega));have HR8:=hid (hC8.sl HI.out.row (fun b hb e=>by have:=HI.out.big;have hb':z≤b∧b<z5:=hb;omega));have HU8:=hid hr8;have hz8:z5≤w8.heap.size:=by have:=HI.out.big;have:=hg8.size;omega
       have hy6:y<1048576:=by have:=hyok.1;omega
       have hzW8:W.heap.size+1≤w8.heap.size:=by omega
       clear hl3 hyok htk hn6 hys hy hym hkk hr8 hm8 hg8 hC8
       go_wp2_with (first
        |((with_reducible refine wpList_at_lk 69 (.tmp 51) (.tmp 52) rfl rfl ?_);refine wpList_lookR rfl (.tmp 51) (.tmp 52) 69 rfl HL3.out ?_)
        |((with_reducible refine wpList_at_upd 69 (.tmp 55) (.tmp 56) (.const (.bool true)) rfl rfl ?_);refine wpList_upd rfl (.tmp 55) (.tmp 56) (.const (.bool true)) 69 rfl HU8.out ?_)
        |(at_builtin;refine wpList_appN rfl (.tmp 57) (.tmp 59) rfl (W.heap.size+1) (.slice B2 WK2.length cb2) WK2 (by rw[HQ2.out];rfl) (HO8.out.ext ((Ext.refl _).alloc _)) w8.heap.size y rfl (by simp[go_sem]) hy6 (by rw[HQ2.out];omega) (by simp;omega) ?_;intro A9 c9' w9 ho9 hg9 hl9;have HO9:=hid ho9;have HG9:=hid hg9;have HL9:=hid hl9;clear ho9 hg9 hl9)
        |fail)
       first
        |go_roundw
        |refine⟨?rel, ?measure⟩
       case rel=>
        have hCa:Chg (fun b=>(Value.slice B2 WK2.length cb2).ownBlock=some b) w8 w9:=(Chg.of_ext _ ((Ext.refl _).alloc _)).trans (Chg.of_grown' HG9.out (fun b hb=>hb));have hob:∀b,(Value.slice B2 WK2.length cb2).ownBlock=some b→W.heap.size+1≤b:=fun b hb=>(HO8.out.block b hb).1;have hld:=HI.out.ld.add HYS.out HYO.out;have hll:=hld.len.1;rw[List.length_append]at hll;simp only[List.length_cons,List.length_nil]at hll;refine⟨i'+1,SN2 ++ [y],WK2 ++ [y],by omega,by go_num,hid ⟨⟨P6,HN8.out.far HS.out hCa (fun b hb=> .inl (by have:=hob b hb;omega))⟩,HC8.out.trans' hCa (fun b hb=> .inr (by have:=hob b hb;omega)),(HS8.out.ext ((Ext.refl _).alloc _)).kept HG9.out (fun e=>by have:=hob _ e.symm;omega), ?_, ?_, ?_,hCa.sl HR8.out (fun b hb e=>?_),fun g hg=>?_, ?_⟩⟩
        ·have:=HO9.out;rwa [HQ2.out]at this
        ·rw[HTK.out];exact hld
        ·have:=HI.out.mu;unfold muL at this ⊢;simp only[List.length_append,List.length_cons,List.length_nil]at this ⊢;omega
        ·have hb':z≤b∧b<z5:=hb;have:=HI.out.far b e;omega
        ·rw[←HQ2.out]at hg;rcases HL9.out g hg with e|e
         ·exact HI.out.far g e
         ·simp at e;exact .inr (by omega)
        ·have:=hCa.size;exact⟨by omega,HI.out.big.2⟩
       case measure=>simp [intOf];omega
     ·obtain rfl:i'=nR:=by omega
      have i4:¬(i':Int)<(i':Int):=by omega
      go_wp2_with fail
      first
       |go_roundw
       |refine⟨?rel, ?measure⟩
      case rel=>
       refine⟨(SN2,WK2),HI.out.now,HI.out.chg,HI.out.seen,HI.out.own,HI.out.ld.close (fun c g1 g2 g3 g4=>?_)⟩;rw[List.take_of_length_le (by rw[HNR.out];exact Nat.le_refl _)];exact(HMEM.out _).2 ⟨c,g1,g2,g3,g4,rfl⟩
      case measure=>
       have h3:=leastM_le (μ:=muL n) (p:=LdW D W0 W (.slice A m me) l n P0 v6 (.slice (some ⟨scb,0,none⟩) N N) a _ _) (a:=(SN2,WK2)) ⟨HI.out.now,HI.out.chg,HI.out.seen,HI.out.own,HI.out.ld.close (fun c g1 g2 g3 g4=>by
        rw[List.take_of_length_le (by rw[HNR.out];exact Nat.le_refl _)];exact(HMEM.out _).2 ⟨c,g1,g2,g3,g4,rfl⟩)⟩
       have h4:=HI.out.mu;have h5:=HMU.out;rw[←HQL.out,←h5,HMM.out];exact Nat.lt_of_le_of_lt h3 h4
end
end Go.Proofs.YtlmipgdnlfjpaaaGreat
