/- Lemmas of mine, merged. -/
import Derived.Test.YtlmipgdnlfjpaaaGreatSoGm
import Derived.Test.YtlmipgdnlfjpaaaGreatPlam
set_option maxRecDepth 100000
set_option maxHeartbeats 4000000
set_option linter.unusedSimpArgs false
set_option linter.unusedVariables false
namespace Go.Proofs.YtlmipgdnlfjpaaaGreat
open Go.RowKit Go.Deco Go.Maps
section
variable {k:TypeId}{κ:Type}{G:Xw Tryz.prog k κ}{w w' V V1 w7 w3:World}{lo mb n:Nat}{f:κ->Option Value}{F:κ->List Nat}
theorem kc (V:World)(j:Nat):(V.drew.alloc (.cells #[.int .i64 j] 3)).cell? ⟨V.heap.size,0,none⟩=some (.int .i64 j):=by simp[go_sem]
theorem Zy.app [DecidableEq κ](h:Zy G V lo mb n f F){x:κ}{o:Obj}{A7:Option Addr}{c7:Nat}{y:Nat}{W6:World}(hlo:lo<=V.heap.size)(h6:(V.drew.alloc o).grownBy W6 (some mb))(h6s:W6.heap.size=V.heap.size+1)
  (ho:Qf QF w7 lo 3 No (.slice A7 ((F x).length+1) c7) (F x ++ [y])) (hg:W6.grownBy w7 (QM f x).ownBlock) (hl:∀g,(Value.slice A7 ((F x).length+1) c7).ownBlock=some g->(QM f x).ownBlock=some g\/W6.heap.size<=g)
  (hm:MapG G w3 mb (n+1) (fun j=>if j=x then some (.slice A7 ((F x).length+1) c7) else f j)) (hg3:w7.grownBy w3 (some mb)):
  Zy G w3 lo mb (n+1) (fun j=>if j=x then some (.slice A7 ((F x).length+1) c7) else f j) (fun j=>if j=x then F x ++ [y] else F j)/\Chg (fun b=>b=mb\/(QM f x).ownBlock=some b) V w3:=by
 have hc:Chg (fun b=>b=mb\/(QM f x).ownBlock=some b) V w3:=by
  have h1:Chg (fun b=>b=mb\/(QM f x).ownBlock=some b) V (V.drew.alloc o):=Chg.of_ext _ ((Ext.refl V).drew.alloc o);exact((h1.trans (Chg.of_grown h6 (.inl rfl))).trans (Chg.of_grown' hg (fun b hb=> .inr hb))).trans (Chg.of_grown hg3 (.inl rfl))
 have hmb:=h.map.lt;refine⟨h.step hc hm (Vd (M:=fun b=>b=mb) ho (Chg.of_grown hg3 rfl) (fun q hq=>?_)) (fun q hq=>?_),hc⟩
 ·rintro rfl;rcases hl _ hq with h1|h1
  ·exact h.ne x h1 rfl
  ·omega
 rcases hl q hq with h1|h1
 ·exact .inl h1
 ·exact .inr (by omega)
end
theorem tx {V:World}{cm nc j:Nat}{fc:Pl->Option Value}{F:Pl->List Nat}(h:Zy plK V cm cm nc fc F)(hn:nc<maxLen)(x:Pl){q:Nat}{off:Int}(hx:x.1=((q:Int),off)):
  ∃ (st:Nat) (W6:World),(Instr.mapEntry 67 (.map (some cm)) (.agg #[.int .i64 q,.int .i64 off])).run Tryz.prog (V.drew.alloc (.cells #[.int .i64 j] 3))= .ok (.tuple #[QM fc x,goInt st]) W6/\(V.drew.alloc (.cells #[.int .i64 j] 3)).grownBy W6 (some cm)/\W6.heap.size=V.heap.size+1/\Qf QF W6 cm 3 No (QM fc x) (F x)/\W6.cell? ⟨V.heap.size,0,none⟩=some (.int .i64 j)/\
   ∀(A7:Option Addr) (c7:Nat) (w7:World),Qf QF w7 cm 3 No (.slice A7 ((F x).length+1) c7) (F x ++ [j])->W6.grownBy w7 (QM fc x).ownBlock->(∀g,(Value.slice A7 ((F x).length+1) c7).ownBlock=some g->(QM fc x).ownBlock=some g\/W6.heap.size<=g)->
    ∃w3,(Instr.entryStore 67 (.map (some cm)) (goInt st) (.slice A7 ((F x).length+1) c7)).run Tryz.prog w7= .ok () w3/\w7.grownBy w3 (some cm)/\w7.heap.size>=V.heap.size+1/\Zy plK w3 cm cm (nc+1) (fun p=>if p=x then some (.slice A7 ((F x).length+1) c7) else fc p) (fun p=>if p=x then F x ++ [j] else F p)/\Chg (fun b=>cm<=b) V w3:=by
 have h1:=h.map.ext ((Ext.refl V).drew.alloc (.cells #[.int .i64 j] 3));obtain⟨st,W6,hrun,hg,hs,hst⟩:=h1.entry mV Tryz.underlying67 eY hn (x:=x) trivial;have hval:plK.val x= .agg #[.int .i64 q,.int .i64 off]:=by show Value.agg #[.int .i64 x.1.1,.int .i64 x.1.2]=_;rw[hx]
 rw[hval]at hrun;have hs6:W6.heap.size=V.heap.size+1:=by rw[hs];simp
 have hlt:=h.map.lt;refine⟨st,W6,hrun,hg,hs6, ?_, ?_,fun A7 c7 w7 ho hg7 hl=>?_⟩
 ·exact Vd (M:=fun b=>b=cm) ((h.row x).ext ((Ext.refl V).drew.alloc _)) (Chg.of_grown hg rfl) (fun q hq=>h.ne x hq)
 ·refine(World.cell?_of_block (hg.block V.heap.size (by simp) (fun e=>by injection e with e;omega))).trans (kc V j)
 ·obtain⟨w3,hr3,hm3,hg3,hs3⟩:=hst w7 (.slice A7 ((F x).length+1) c7) (hg7.block cm (by omega) (fun e=>h.ne x e.symm rfl));obtain⟨k1,k2⟩:=h.app (w3:=w3) (Nat.le_of_lt hlt) hg hs6 ho hg7 hl hm3 hg3;exact⟨w3,hr3,hg3,by have:=hg7.size;omega,k1,k2.mono (fun b hb=>by rcases hb with hb|hb;omega;exact((h.row x).block b hb).1)⟩
theorem nf {w:World}{mb n:Nat}{f:Pl->Option Value}(h:MapG plK w mb n f)(x:Pl){q:Nat}{off:Int}(hx:x.1=((q:Int),off)):(Instr.lookup 67 (.map (some mb)) (.agg #[.int .i64 q,.int .i64 off]) false).run Tryz.prog w= .ok (QM f x) w:=by
 obtain⟨D,h1,h2⟩:=h;have hrun:=(Yw h1 plK.law Tryz.underlying67 (z:= .slice none 0 0) (Tryz.zeroValue26 w) (plK.key (x:=x) trivial)).1;rw[<-h2]at hrun;have hval:plK.val x= .agg #[.int .i64 q,.int .i64 off]:=by show Value.agg #[.int .i64 x.1.1,.int .i64 x.1.2]=_;rw[hx]
 rw[hval]at hrun;exact hrun
theorem dW {cf:Nat->Int->List Nat}{q:Nat}{off:Int}{F:Pl->List Nat}(hF:∀p:Pl,F p=if 0<=p.1.1 then cf p.1.1.toNat p.1.2 else []){x:Pl}(hx:x.1=((q:Int),off))(M:List Nat)(p:Pl):
  (if 0<=p.1.1 then (if p.1.1.toNat=q/\p.1.2=off then M else cf p.1.1.toNat p.1.2) else [])=if p=x then M else F p:=by
 by_cases hp:p=x
 ·subst hp;simp[hx]
 ·rw[if_neg hp,hF];by_cases h0:0<=p.1.1
  ·rw[if_pos h0,if_pos h0,if_neg];rintro⟨h1,h2⟩;apply hp;apply Subtype.ext;rw[hx];exact Prod.ext (by rw[<-h1,Qk h0]) h2
  ·rw[if_neg h0,if_neg h0]
def Full {κ:Type}(f:κ->Option Value)(F:κ->List Nat):Prop:=∀x,f x≠none->F x≠[]
theorem Zy.there {k:TypeId}{κ:Type}{G:Xw Tryz.prog k κ}{w:World}{lo mb n:Nat}{f:κ->Option Value}{F:κ->List Nat}(h:Zy G w lo mb n f F){x:κ}(hx:F x≠[]):f x≠none:=by
 intro e;have h1:=h.row x;unfold QM at h1;rw[e]at h1;have:=h1.len;exact hx (List.length_eq_zero_iff.1 this.symm)
structure Z0 (w:World)(lo ob n:Nat)(fo:Int->Option Value)(ib:Int->Nat)(fi:Int->Int->Option Value)(F:Int->Int->List Nat):Prop where
 map:MapG (QG Tryz.underlying3) w ob n fo
 no:∀q,fo q=none->∀o,F q o=[]
 yes:∀q v,fo q=some v->v= .map (some (ib q))/\lo<=ib q/\Zy (QG Tryz.underlying3) w lo (ib q) n (fi q) (F q)
 mapA:∀q q' v v',q≠q'->fo q=some v->fo q'=some v'->ib q≠ib q'
 rowA:∀q q' v v' o o' g,q≠q'->fo q=some v->fo q'=some v'->(QM (fi q) o).ownBlock=some g->(QM (fi q') o').ownBlock≠some g
section
variable {w w' w3:World}{lo ob n:Nat}{fo:Int->Option Value}{ib:Int->Nat}{fi:Int->Int->Option Value}{F:Int->Int->List Nat}
theorem Z0.made (h:MapG (QG Tryz.underlying3) w ob 0 (fun _=>none))(lo:Nat):Z0 w lo ob 0 (fun _=>none) (fun _=>0) (fun _ _=>none) (fun _ _=>[]):=
 ⟨h,fun _ _ _=>rfl,fun _ _ h=>(by cases h),fun _ _ _ _ _ h=>(by cases h),fun _ _ _ _ _ _ _ _ h=>(by cases h)⟩
theorem Z0.chg {M:Nat->Prop}(h:Z0 w lo ob n fo ib fi F)(hc:Chg M w w')(h1:¬M ob)(h2:∀b,lo<=b->b<w.heap.size->¬M b):Z0 w' lo ob n fo ib fi F:=
 ⟨hc.map h.map h1,h.no,fun q v hq=>⟨(h.yes q v hq).1,(h.yes q v hq).2.1,(h.yes q v hq).2.2.chg hc (h2 _ (h.yes q v hq).2.1 (h.yes q v hq).2.2.map.lt) h2⟩,h.mapA,h.rowA⟩
theorem Z0.ext (h:Z0 w lo ob n fo ib fi F)(he:Ext w w'):Z0 w' lo ob n fo ib fi F:=h.chg (M:=fun _=>False) (Chg.of_ext _ he) (fun h=>h) (fun _ _ _ h=>h)
theorem Z0.mono (h:Z0 w lo ob n fo ib fi F){n':Nat}(hn:n<=n'):Z0 w lo ob n' fo ib fi F:=⟨h.map.mono hn,h.no,fun q v hq=>⟨(h.yes q v hq).1,(h.yes q v hq).2.1,(h.yes q v hq).2.2.mono hn⟩,h.mapA,h.rowA⟩
theorem Z0.same {F':Int->Int->List Nat}(h:Z0 w lo ob n fo ib fi F)(he:∀q o,F' q o=F q o):Z0 w lo ob n fo ib fi F':=
 ⟨h.map,fun q hq o=>by rw[he];exact h.no q hq o,fun q v hq=>⟨(h.yes q v hq).1,(h.yes q v hq).2.1,(h.yes q v hq).2.2.same (he q)⟩,h.mapA,h.rowA⟩
theorem Z0.new (h:Z0 w lo ob n fo ib fi F){q:Int}(hq:fo q=none)(hlo:lo<=w.heap.size)(hob:ob<lo)(hm:MapG (QG Tryz.underlying3) w3 ob (n+1) (fun j=>if j=q then some (.map (some w.heap.size)) else fo j))(hg:(w.alloc (.map #[] 0)).grownBy w3 (some ob)):
  Z0 w3 lo ob (n+1) (fun j=>if j=q then some (.map (some w.heap.size)) else fo j) (fun j=>if j=q then w.heap.size else ib j) (fun j=>if j=q then fun _=>none else fi j) F:=by
 have he:Ext w (w.alloc (.map #[] 0)):=(Ext.refl w).alloc _;have hc:Chg (fun b=>b=ob) (w.alloc (.map #[] 0)) w3:=Chg.of_grown hg rfl;have hne:∀j v,fo j=some v->j≠q:=fun j v hv e=>by rw[e,hq]at hv;cases hv
 have hlt:∀j v,fo j=some v->ib j<w.heap.size:=fun j v hv=>(h.yes j v hv).2.2.map.lt
 have hif:∀j v,(if j=q then some (Value.map (some w.heap.size)) else fo j)=some v->(j=q/\v= .map (some w.heap.size))\/(j≠q/\fo j=some v):=fun j v hv=>by
  by_cases hj:j=q
  ·rw[if_pos hj]at hv;injection hv with hv;exact .inl ⟨hj,hv.symm⟩
  ·rw[if_neg hj]at hv;exact .inr ⟨hj,hv⟩
 refine⟨hm,fun j hj o=>?_,fun j v hv=>?_,fun j j' v v' hjj hv hv'=>?_,fun j j' v v' o o' g hjj hv hv' hg1=>?_⟩
 ·by_cases hjq:j=q
  ·rw[if_pos hjq]at hj;cases hj
  ·rw[if_neg hjq]at hj;exact h.no j hj o
 ·rcases hif j v hv with⟨rfl,rfl⟩|⟨hj,hv⟩
  ·refine⟨by simp,by simpa using hlo, ?_⟩;simp only[if_true];have h1:=(Zy.made (QG Tryz.underlying3) w lo).mono (Nat.zero_le (n+1));exact(h1.chg hc (by omega) (fun b hb _=>by omega)).same (fun o=>h.no _ hq o)
  ·simp only[if_neg hj];obtain⟨h1,h2,h3⟩:=h.yes j v hv;exact⟨h1,h2,((h3.ext he).mono (Nat.le_succ n)).chg hc (by omega) (fun b hb _=>by omega)⟩
 ·rcases hif j v hv with⟨rfl,rfl⟩|⟨hj,hu⟩ <;> rcases hif j' v' hv' with⟨rfl,rfl⟩|⟨hj',hu'⟩
  ·exact absurd rfl hjj
  ·simp only[if_true,if_neg hj'];have:=hlt _ _ hu';omega
  ·simp only[if_true,if_neg hj];have:=hlt _ _ hu;omega
  ·simp only[if_neg hj,if_neg hj'];exact h.mapA j j' v v' hjj hu hu'
 ·rcases hif j v hv with⟨rfl,rfl⟩|⟨hj,hu⟩ <;> rcases hif j' v' hv' with⟨rfl,rfl⟩|⟨hj',hu'⟩
  ·exact absurd rfl hjj
  ·simp[QM,Value.ownBlock]at hg1
  ·simp[QM,Value.ownBlock]
  ·simp only[if_neg hj]at hg1;simp only[if_neg hj'];exact h.rowA j j' v v' o o' g hjj hu hu' hg1
theorem Z0.step (h:Z0 w lo ob n fo ib fi F){q:Int}{v:Value}(hq:fo q=some v)(hlo:lo<=w.heap.size)(hob:ob<lo){x:Int}{v':Value}{y:Nat}
  (hm:Zy (QG Tryz.underlying3) w3 lo (ib q) (n+1) (fun j=>if j=x then some v' else fi q j) (fun j=>if j=x then F q x ++ [y] else F q j))
  (hc:Chg (fun b=>b=ib q\/(QM (fi q) x).ownBlock=some b) w w3) (hl:∀g,v'.ownBlock=some g->(QM (fi q) x).ownBlock=some g\/w.heap.size<=g):
  Z0 w3 lo ob (n+1) fo ib (fun j=>if j=q then fun o=>if o=x then some v' else fi q o else fi j) (fun j o=>if j=q/\o=x then F q x ++ [y] else F j o):=by
 obtain⟨hv1,hv2,hv3⟩:=h.yes q v hq;have hrb:∀g,(QM (fi q) x).ownBlock=some g->lo<=g:=fun g hg=>((hv3.row x).block g hg).1;refine⟨(hc.map h.map (fun e=>?_)).mono (Nat.le_succ n),fun j hj o=>?_,fun j u hu=>?_,h.mapA,fun j j' u u' o o' g hjj hu hu' hg1 hg2=>?_⟩
 ·rcases e with e|e
  ·omega
  ·have:=hrb _ e;omega
 ·have hjq:j≠q:=fun e=>by rw[e,hq]at hj;cases hj
  rw[if_neg (fun e=>hjq e.1)];exact h.no j hj o
 ·by_cases hjq:j=q
  ·subst hjq;rw[hq]at hu;cases hu;refine⟨hv1,hv2, ?_⟩;simp only[if_true];refine hm.same (fun o=>?_);by_cases ho:o=x
   ·simp[ho]
   ·simp[ho]
  ·obtain⟨h1,h2,h3⟩:=h.yes j u hu;simp only[if_neg hjq];refine⟨h1,h2,⟨hc.map (h3.map.mono (Nat.le_succ n)) (fun e=>?_),fun o=>?_,h3.apart⟩⟩
   ·rcases e with e|e
    ·exact h.mapA j q u v hjq hu hq e
    ·exact h3.map.ne (wj (hv3.row x) e) rfl
   ·have hr:=Vd (h3.row o) hc (fun g hg e=>by
     rcases e with e|e
     ·exact hv3.map.ne (wj (h3.row o) hg) e
     ·exact h.rowA j q u v o x g hjq hu hq hg e)
    have hF:(if j=q/\o=x then F q x ++ [y] else F j o)=F j o:=if_neg fun e=>hjq e.1;rw[hF];exact hr
 ·have key:∀(j:Int) u o,j≠q->fo j=some u->(QM (fi j) o).ownBlock=some g->∀o',(QM (fun o=>if o=x then some v' else fi q o) o').ownBlock≠some g:=fun j u o hjq hu hg o' e=>by
   by_cases ho:o'=x
   ·rw[ho,cF]at e;rcases hl g e with e|e
    ·exact h.rowA j q u v o x g hjq hu hq hg e
    ·have:=(((h.yes j u hu).2.2.row o).block g hg).2;omega
   ·have:QM (fun o=>if o=x then some v' else fi q o) o'=QM (fi q) o':=by simp[QM,ho]
    rw[this]at e;exact h.rowA j q u v o o' g hjq hu hq hg e
  by_cases hjq:j=q
  ·subst hjq;have hj':j'≠j:=fun e=>hjj e.symm;simp only[if_true]at hg1;simp only[if_neg hj']at hg2;exact key j' u' o' hj' hu' hg2 o hg1
  ·simp only[if_neg hjq]at hg1;by_cases hjq':j'=q
   ·subst hjq';simp only[if_true]at hg2;exact key j u o hjq hu hg1 o' hg2
   ·simp only[if_neg hjq']at hg2;exact h.rowA j j' u u' o o' g hjj hu hu' hg1 hg2
end
theorem Zy.appP {k:TypeId}{κ:Type}{G:Xw Tryz.prog k κ}{V w7 w3:World}{lo mb n:Nat}{f:κ->Option Value}{F:κ->List Nat}[DecidableEq κ](h:Zy G V lo mb n f F){x:κ}{o:Obj}{A7:Option Addr}{c7:Nat}{y:Nat}(hlo:lo<=V.heap.size)
  (ho:Qf QF w7 lo 3 No (.slice A7 ((F x).length+1) c7) (F x ++ [y])) (hg:(V.drew.alloc o).grownBy w7 (QM f x).ownBlock) (hl:∀g,(Value.slice A7 ((F x).length+1) c7).ownBlock=some g->(QM f x).ownBlock=some g\/(V.drew.alloc o).heap.size<=g)
  (hm:MapG G w3 mb (n+1) (fun j=>if j=x then some (.slice A7 ((F x).length+1) c7) else f j)) (hg3:w7.grownBy w3 (some mb)):
  Zy G w3 lo mb (n+1) (fun j=>if j=x then some (.slice A7 ((F x).length+1) c7) else f j) (fun j=>if j=x then F x ++ [y] else F j)/\Chg (fun b=>b=mb\/(QM f x).ownBlock=some b) V w3:=
 h.app hlo (Ext.grownBy (Ext.refl _) (some mb)) (by simp) ho hg hl hm hg3
section
variable {ops:Array Oper}{rest:List Oper}{o:Oper}{a:Act}{Q:Exit->Act->World->Prop}{W:World}
theorem Vy (t:TypeId)(m x:Operand)(_hgd:o.guard=none)(_ho:o.op= .lookup t m x false)(h:wpList Tryz.prog ops Q (o :: rest) a W):wpList Tryz.prog ops Q (o :: rest) a W:=h
theorem Vf (hgd:o.guard=none)(m x:Operand)(t:TypeId)(ho:o.op= .lookup t m x false){v:Value}(hrun:(Instr.lookup t (a.eval m) (a.eval x) false).run Tryz.prog W= .ok v W)(h:wpList Tryz.prog ops Q rest (a.put o.dst v) W):
  wpList Tryz.prog ops Q (o :: rest) a W:=
 wpList_plain hgd fun _ hK=>by
  unfold Oper.wp;simp[execOp,ho,hrun,Result.andThen];exact hK _ _ h
end
section
variable {w:World}{lo ob mb n:Nat}{fo:Int->Option Value}{ib:Int->Nat}{fi:Int->Int->Option Value}{F:Int->Int->List Nat}{f:Int->Option Value}
theorem YZ (h:MapG (QG Tryz.underlying3) w ob n fo){q:Int}(hq:Qy q):(Instr.lookup 68 (.map (some ob)) (.int .i64 q) false).run Tryz.prog w= .ok ((fo q).getD (.map none)) w:=by
 obtain⟨D,h1,h2⟩:=h;have hrun:=(Yw h1 (QG Tryz.underlying3).law Tryz.underlying68 (z:= .map none) (Tryz.zeroValue93 w) ((QG Tryz.underlying3).key hq)).1;rw[<-h2]at hrun;exact hrun
theorem yj (h:MapG (QG Tryz.underlying3) w mb n f){q:Int}(hq:Qy q):(Instr.lookup 93 (.map (some mb)) (.int .i64 q) false).run Tryz.prog w= .ok (QM f q) w:=by
 obtain⟨D,h1,h2⟩:=h;have hrun:=(Yw h1 (QG Tryz.underlying3).law Tryz.underlying93 (z:= .slice none 0 0) (Tryz.zeroValue26 w) ((QG Tryz.underlying3).key hq)).1;rw[<-h2]at hrun;exact hrun
theorem jD (h:MapG (QG Tryz.underlying3) w mb n f){q:Int}(hq:Qy q):(Instr.lookup 69 (.map (some mb)) (.int .i64 q) false).run Tryz.prog w= .ok ((f q).getD (.bool false)) w:=by
 obtain⟨D,h1,h2⟩:=h;have hrun:=(Yw h1 (QG Tryz.underlying3).law Tryz.underlying69 (z:= .bool false) (Tryz.zeroValue4 w) ((QG Tryz.underlying3).key hq)).1;rw[<-h2]at hrun;exact hrun
end
theorem cK {V w7:World}{lo ob n:Nat}{fo:Int->Option Value}{ib:Int->Nat}{fi:Int->Int->Option Value}{F:Int->Int->List Nat}(h:Z0 V lo ob n fo ib fi F){q:Int}{v:Value}(hq:fo q=some v)(hlo:lo<=V.heap.size)(hob:ob<lo)
  {x:Int} {y:Nat} {A7:Option Addr} {c7:Nat} {o:Obj} (ho:Qf QF w7 lo 3 No (.slice A7 ((F q x).length+1) c7) (F q x ++ [y])) (hg:(V.drew.alloc o).grownBy w7 (QM (fi q) x).ownBlock)
  (hl:∀g,(Value.slice A7 ((F q x).length+1) c7).ownBlock=some g->(QM (fi q) x).ownBlock=some g\/(V.drew.alloc o).heap.size<=g):
  MapG (QG Tryz.underlying3) w7 (ib q) n (fi q)/\∀w3,MapG (QG Tryz.underlying3) w3 (ib q) (n+1) (fun j=>if j=x then some (.slice A7 ((F q x).length+1) c7) else fi q j)->w7.grownBy w3 (some (ib q))->
   Z0 w3 lo ob (n+1) fo ib (fun j=>if j=q then fun o=>if o=x then some (.slice A7 ((F q x).length+1) c7) else fi q o else fi j) (fun j o=>if j=q/\o=x then F q x ++ [y] else F j o)/\Chg (fun b=>lo<=b) V w3:=by
 obtain⟨h1,h2,h3⟩:=h.yes q v hq;refine⟨(h3.map.ext ((Ext.refl V).drew.alloc o)).kept hg (fun e=>h3.ne x e.symm rfl),fun w3 hm hg3=>?_⟩;obtain⟨k1,k2⟩:=h3.appP hlo ho hg hl hm hg3;refine⟨h.step hq hlo hob k1 k2 (fun g hg'=>?_),k2.mono (fun b hb=>?_)⟩
 ·rcases hl g hg' with e|e
  ·exact .inl e
  ·exact .inr (by have:(V.drew.alloc o).heap.size=V.heap.size+1:=by simp
                  omega)
 ·rcases hb with hb|hb
  ·omega
  ·exact((h3.row x).block b hb).1
def Zx (l:List Con)(r:Nat->Nat)(m:Nat)(q o:Int):List Nat:=if 0<=q then JQ l r m q.toNat o else []
def VB (l:List Con)(r:Nat->Nat)(m:Nat)(q:Int):Option Value:=if 0<=q/\Yk l r m q.toNat=true then some (.bool true) else none
section
variable {l:List Con}{r:Nat->Nat}{m:Nat}{c:Con}
theorem oq (q o:Int):Zx l r 0 q o=[]:=by unfold Zx JQ;simp
theorem oG (q:Int):VB l r 0 q=none:=by unfold VB Yk;simp
theorem uY (hc:l[m]? =some c)(ha:QY c=true){p:Nat}(hp:r c.a.toNat=p)(q o:Int):Zx l r (m+1) q o=if q=(p:Int)/\o=c.off then Zx l r m p c.off ++ [m] else Zx l r m q o:=by
 unfold Zx;by_cases h:q=(p:Int)/\o=c.off
 ·obtain⟨rfl,rfl⟩:=h;rw[if_pos (by omega),if_pos ⟨rfl,rfl⟩,pz hc,if_pos ⟨ha,by rw[hp,Int.toNat_natCast],rfl⟩,if_pos (by omega)]
 ·rw[if_neg h];by_cases h0:0<=q
  ·rw[if_pos h0,if_pos h0,pz hc,if_neg (fun e=>h ⟨by rw[<-hp,e.2.1,Qk h0],e.2.2.symm⟩)]
  ·rw[if_neg h0,if_neg h0]
theorem l9 (hc:l[m]? =some c)(ha:QY c=false)(q o:Int):Zx l r (m+1) q o=Zx l r m q o:=by
 unfold Zx;rw[pz hc,if_neg (c:=QY c=true/\_) (fun e=>by rw[ha]at e;cases e.1)]
theorem jF (q o:Int):(Zx l r m q o).length<=m:=by
 unfold Zx JQ
 split
 ·exact Nat.le_trans (List.length_filter_le _ _) (by simp)
 ·simp
theorem oW (hc:l[m]? =some c)(h1:c.kind=1)(h2:c.type.kind≠0){p:Nat}(hp:r c.a.toNat=p)(q:Int):VB l r (m+1) q=if q=(p:Int) then some (.bool true) else VB l r m q:=by
 unfold VB;rw[uC hc,hp,h1];by_cases hq:q=(p:Int)
 ·subst hq;simp[h2]
 ·rw[if_neg hq];by_cases h0:0<=q
  ·have:¬p=q.toNat:=fun e=>hq (by rw[e,Qk h0]);simp[this]
  ·rw[if_neg (fun e=>h0 e.1),if_neg (fun e=>h0 e.1)]
theorem jc (hc:l[m]? =some c)(h:¬(c.kind=1/\c.type.kind≠0))(q:Int):VB l r (m+1) q=VB l r m q:=by
 unfold VB;rw[uC hc]
 have:(decide (c.kind=1) && decide (c.type.kind≠0) && decide (r c.a.toNat=q.toNat))=false:=by
  rw[<-Bool.decide_and,Qw h,Bool.false_and]
 rw[this,Bool.or_false]
end
def svL (vl:Value)(n tb cb rb db ob:Nat)(v2 v3 v6 v7:Value):List Value:=[vl,.int .i64 n,v2,v3,.map (some ob),.map (some db),v6,v7,.map (some tb),.map (some cb),.map (some rb)]
def X8 (w:World)(PA:Option Addr)(pb cap N:Nat)(P:List Nat):Prop:=P.length=N/\DnP P/\(N=0\/(PA=some ⟨pb,0,none⟩/\Z4 w pb cap P))
theorem X8.keep {w w':World}{PA:Option Addr}{pb cap N:Nat}{P:List Nat}(h:X8 w PA pb cap N P)(hk:0<N->pb<w.heap.size->w'.heap[pb]? =w.heap[pb]?):X8 w' PA pb cap N P:=by
 refine⟨h.1,h.2.1, ?_⟩;rcases Nat.eq_zero_or_pos N with h0|h0
 ·exact .inl h0
 ·rcases h.2.2 with h1|h1
  ·exact .inl h1
  ·exact .inr ⟨h1.1,h1.2.keep (hk h0 h1.2.lt)⟩
theorem X8.ext {w w':World}{PA:Option Addr}{pb cap N:Nat}{P:List Nat}(h:X8 w PA pb cap N P)(he:Ext w w'):X8 w' PA pb cap N P:=
 ⟨h.1,h.2.1,h.2.2.imp id fun k=>⟨k.1,k.2.ext he⟩⟩
theorem X8.pos {w:World}{PA:Option Addr}{pb cap N:Nat}{P:List Nat}(h:X8 w PA pb cap N P)(hN:0<N):PA=some ⟨pb,0,none⟩/\Z4 w pb cap P:=by
 rcases h.2.2 with h|h
 ·omega
 ·exact h
theorem DG {w w5:World}{o:Obj}{b lo:Nat}{v:Value}{L:List Value}(h:Zg w b L)(hg:(w.alloc o).grownBy w5 v.ownBlock)(hv:∀g,v.ownBlock=some g->lo<=g)(hb:b<lo):Zg w5 b L:=by
 have h1:=h.ext ((Ext.refl w).alloc o);exact h1.keep (hg.block b h1.2.2 fun e=>by have:=hv b e.symm;omega) hg.size
theorem Chg.pb {M:Nat->Prop}{w w':World}{k:Nat}(h:Chg M w w')(hk:k<w.heap.size)(hn:¬M k):w'.heap[k]? =w.heap[k]? :=h.block k hk hn
def xK (w:World)(pb N:Nat):Nat:=match w.heap[pb]? with
 |some (.cells cur _ _)=>((cur.toList.take N).map fun v=>match v with| .int _ x=>x.toNat|_=>0).sum
 |_=>0
theorem mK {w:World}{PA:Option Addr}{pb cap N:Nat}{P:List Nat}(h:X8 w PA pb cap N P):xK w pb N=P.sum:=by
 obtain⟨h1,h2,h3⟩:=h;rcases h3 with h3|⟨_,⟨xs,⟨hx1,hx2⟩,hx3⟩,_⟩
 ·subst h3;rw[List.length_eq_zero_iff.1 h1];unfold xK
  split <;> simp
 ·rcases hx2 with⟨hv,_⟩|⟨g,cap',cur,hv,hb,hg,hle,_,_,ht⟩
  ·cases hv
  ·injection hv with hv _ _
   injection hv with hv
   injection hv with hv
   subst hv;unfold xK;rw[hg];have h4:=(XV.1 hx3).1
   have h5:cur.toList.take N=P.map (fun x:Nat=>Value.int .i64 x):=by
    rw[<-h4,<-ht,h1];show _=List.take (N * 1) _;rw[Nat.mul_one]
   simp only;rw[h5,List.map_map]
   congr 1
   conv=>rhs;rw[<-List.map_id P]
   exact List.map_congr_left fun x _=>by simp
theorem vq (w:World):∃wA sz,w.alloc (.cells #[.int .i64 0,.int .i64 0] 92)=wA/\w.heap.size=sz/\Ext w wA/\Q5 wA sz (.int .i64 0) (.int .i64 0)/\wA.heap.size=sz+1:=⟨_,_,rfl,rfl,(Ext.refl w).alloc _,Q5.new w _ _ _,by simp⟩
theorem _root_.Go.Deco.MapG.kept' {P:Program}{k:TypeId}{κ:Type}{G:Xw P k κ}{w w':World}{b n:Nat}{f:κ->Option Value}{M:Nat->Prop}(h:MapG G w b n f)(hc:Chg M w w')(hn:¬M b):MapG G w' b n f:=hc.map h hn
theorem dQ {c:Con}(h:QY c=true):¬(c.kind=1/\c.type.kind≠0):=fun e=>by
 unfold QY at h;rw[e.1]at h
 revert h
 decide
theorem ng {fo:Int->Option Value}{fi:Int->Int->Option Value}{F:Int->Int->List Nat}{q x:Int}{y:Nat}{v':Value}(h1:∀q',q'≠q->∀v,fo q'=some v->∃o,F q' o≠[])(h2:∀q',Full (fi q') (F q')):
  (∀q' v,fo q'=some v->∃o,(if q'=q/\o=x then F q x ++ [y] else F q' o)≠[])/\∀q',Full ((fun j=>if j=q then fun o=>if o=x then some v' else fi q o else fi j) q') (fun o=>if q'=q/\o=x then F q x ++ [y] else F q' o):=by
 refine⟨fun q' v hv=>?_,fun q' o ho=>?_⟩
 ·by_cases hq:q'=q
  ·exact⟨x,by rw[if_pos ⟨hq,rfl⟩];simp⟩
  ·obtain⟨o,h⟩:=h1 q' hq v hv;exact⟨o,by rw[if_neg (fun e=>hq e.1)];exact h⟩
 ·show(if q'=q/\o=x then F q x ++ [y] else F q' o)≠[];by_cases hh:q'=q/\o=x
  ·rw[if_pos hh];simp
  ·rw[if_neg hh];apply h2 q' o;intro e;apply ho;by_cases hq:q'=q
   ·subst hq;have hx:¬o=x:=fun e=>hh ⟨rfl,e⟩;simp[hx,e]
   ·simp[hq,e]
structure Zj where
 b0:Nat
 pb:Nat
 cap:Nat
 cm:Nat
 nc:Nat
 lo:Nat
 no:Nat
 nd:Nat
 PA:Option Addr
 fc:Pl->Option Value
 fo:Int->Option Value
 ib:Int->Nat
 fi:Int->Int->Option Value
 /-- Whether the maps of results may change. -/
 mx:Prop
structure xZ (D:Zj)(W:World)(l:List Con)(n:Nat)(P:List Nat):Prop where
 cls:Xk l n (Qb P)
 cells:Zy plK W D.cm D.cm D.nc D.fc (fun p=>if 0<=p.1.1 then X4 l (Qb P) (p.1.1.toNat,p.1.2) else [])
 offs:Z0 W D.lo (D.b0+4) D.no D.fo D.ib D.fi (Zx l (Qb P) l.length)
 some':∀q v,D.fo q=some v->∃o,Zx l (Qb P) l.length q o≠[]
 full:∀q,Full (D.fi q) (Zx l (Qb P) l.length q)
 dir:MapG (QG Tryz.underlying3) W (D.b0+3) D.nd (VB l (Qb P) l.length)
 hcm:D.b0+6<=D.cm
 hlo:D.cm<D.lo
 hsz:D.lo<=W.heap.size
 hpb:D.b0+6<=D.pb/\(0<n+l.length->D.pb<D.cm)
 rows:∀x g,(QM D.fc x).ownBlock=some g->g<D.lo
 hn:D.nc<=l.length/\D.no<=2 * l.length/\D.nd<=l.length
def D9 (vl:Value)(l:List Con)(n:Nat)(w:World)(e:Ending)(w':World):Prop:=∃(D:Zj) (P:List Nat),e= .returned (.pointer (some ⟨D.b0+5,0,none⟩))/\w.heap.size<=D.b0/\xZ D w' l n P/\
 Zg w' (D.b0+5) (svL vl n D.b0 (D.b0+1) (D.b0+2) (D.b0+3) (D.b0+4) (.slice D.PA (n+l.length) D.cap) (.map (some D.cm)) (.slice none 0 0) (.slice none 0 0))/\X8 w' D.PA D.pb D.cap (n+l.length) P/\
 MapG (QG Tryz.underlying3) w' D.b0 0 (fun _=>none)/\MapG (QG Tryz.underlying3) w' (D.b0+1) 0 (fun _=>none)/\MapG (QG Tryz.underlying3) w' (D.b0+2) 0 (fun _=>none)/\Ext w w'
theorem _root_.Go.Deco.MapG.size_pos {P:Program}{k:TypeId}{κ:Type}{G:Xw P k κ}{w:World}{b n:Nat}{f:κ->Option Value}(h:MapG G w b n f){t e:TypeId}(ht:P.underlying t=some (.map k e)){x:κ}(hx:f x≠none):
  ∃m,0<m/\m<=n/\∀ty,(Builtin.len_ #[t] ty #[.map (some b)]).run P w= .ok (.int .i64 (m:Nat)) w:=by
 obtain⟨D,h1,h2⟩:=h;refine⟨Maps.size D, ?_,h1.size_le,fun ty=>h1.len ht ty⟩;rw[h2]at hx
 cases D with
 |map es=>
  cases es with
  |nil=>exact absurd (by simp[Z7,DataW.atKey]) hx
  |cons y r=>simp [Maps.size]
 |_=>exact absurd (by simp[Z7,DataW.atKey]) hx
section
variable {ops:Array Oper}{rest:List Oper}{o:Oper}{a:Act}{Q:Exit->Act->World->Prop}{W:World}
theorem gK (t:TypeId)(m:Operand)(_hgd:o.guard=none)(_ho:o.op= .call {callee:= .builtin .len,args:= #[m],argTypes:= #[t]})(h:wpList Tryz.prog ops Q (o :: rest) a W):wpList Tryz.prog ops Q (o :: rest) a W:=h
theorem fG (hgd:o.guard=none)(m:Operand)(t:TypeId)(ho:o.op= .call {callee:= .builtin .len,args:= #[m],argTypes:= #[t]}){v:Value}(hrun:∀ty,(Builtin.len_ #[t] ty #[a.eval m]).run Tryz.prog W= .ok v W)(h:wpList Tryz.prog ops Q rest (a.put o.dst v) W):
  wpList Tryz.prog ops Q (o :: rest) a W:=
 wpList_plain hgd fun _ hK=>by
  unfold Oper.wp execOp;simp only[ho,resolve,invoke,builtin,Sem.run_bind,Sem.run_pure,Result.andThen_ok,List.map_toArray,List.map_cons,List.map_nil,hrun];exact hK _ _ h
end
structure Zw (d:Nat)(D:Zj)(w0 W0:World)(vl:Value)(l:List Con)(n:Nat)(P0:List Nat):Prop where
 sl:Sl (Zf (tyR d)) w0 All vl l
 ext:Ext w0 W0
 lt:w0.heap.size<=D.b0
 base:xZ D W0 l n P0
 ok:∀c∈l,OkC n c
 hn:n<=65536
 hm:l.length<=65536
def Mut (D:Zj)(b:Nat):Prop:=(b=D.pb/\D.pb<D.cm)\/(D.mx/\b=D.b0)\/(D.mx/\b=D.b0+1)\/(D.mx/\b=D.b0+2)\/b=D.b0+5
structure Q6 (D:Zj)(W0 W:World)(vl:Value)(l:List Con)(n:Nat)(P0 P:List Nat)(v6 v7:Value):Prop where
 chg:Chg (Mut D) W0 W
 box:Zg W (D.b0+5) (svL vl n D.b0 (D.b0+1) (D.b0+2) (D.b0+3) (D.b0+4) (.slice D.PA (n+l.length) D.cap) (.map (some D.cm)) v6 v7)
 par:X8 W D.PA D.pb D.cap (n+l.length) P
 same:XM P0 P
section
variable {d:Nat}{D:Zj}{w0 W0 W W':World}{vl:Value}{l:List Con}{n:Nat}{P0 P P':List Nat}{v6 v7:Value}
theorem Q6.ext (h:Q6 D W0 W vl l n P0 P v6 v7)(he:Ext W W'):Q6 D W0 W' vl l n P0 P v6 v7:=⟨h.chg.ext he,h.box.ext he,h.par.ext he,h.same⟩
theorem Q6.find (S:Zw d D w0 W0 vl l n P0)(h:Q6 D W0 W vl l n P0 P v6 v7)(hN:0<n+l.length)(hs:XM P P')(hp:Z4 W' D.pb D.cap P')(hc:Chg (fun b=>b=D.pb) W W'):Q6 D W0 W' vl l n P0 P' v6 v7:=
 ⟨h.chg.trans' hc (fun b hb=> .inl (.inl ⟨hb,S.base.hpb.2 hN⟩)),h.box.chg hc (fun e=>by have:=S.base.hpb.1;omega),⟨hs.len.trans h.par.1,hs.dn,.inr ⟨(h.par.pos hN).1,hp⟩⟩,h.same.trans hs⟩
theorem Q6.far {M:Nat->Prop}(S:Zw d D w0 W0 vl l n P0)(h:Q6 D W0 W vl l n P0 P v6 v7)(hc:Chg M W W')(hM:∀b,M b->W0.heap.size<=b\/(D.mx/\b=D.b0)\/(D.mx/\b=D.b0+1)\/(D.mx/\b=D.b0+2)):Q6 D W0 W' vl l n P0 P v6 v7:=by
 have hb:=S.base;have h1:=hb.hcm;have h2:=hb.hlo;have h3:=hb.hsz;have h4:=hb.hpb;refine⟨h.chg.trans' hc (fun b hb=>?_),h.box.chg hc (fun e=>?_),h.par.keep (fun hN hlt=>hc.block _ hlt (fun e=>?_)),h.same⟩
 ·rcases hM b hb with e|e|e|e
  ·exact .inr e
  ·exact .inl (.inr (.inl e))
  ·exact .inl (.inr (.inr (.inl e)))
  ·exact .inl (.inr (.inr (.inr (.inl e))))
 ·have:=hM _ e;omega
 ·have:=hM _ e;have:=h4.2 hN;omega
theorem Q6.old (S:Zw d D w0 W0 vl l n P0)(h:Q6 D W0 W vl l n P0 P v6 v7):Ext w0 W:=Chg.old S.ext h.chg (fun b hb=>by
 have h1:=S.lt;have h2:=S.base.hpb;unfold Mut at hb;omega)
theorem Q6.cells (S:Zw d D w0 W0 vl l n P0)(h:Q6 D W0 W vl l n P0 P v6 v7):Zy plK W D.cm D.cm D.nc D.fc (fun p=>if 0<=p.1.1 then X4 l (Qb P0) (p.1.1.toNat,p.1.2) else []):=
 S.base.cells.chg h.chg (fun e=>by have:=S.base.hcm;unfold Mut at e;omega) (fun b hb _ e=>by have:=S.base.hcm;have hb':D.cm<=b:=hb;unfold Mut at e;omega)
theorem Q6.offs (S:Zw d D w0 W0 vl l n P0)(h:Q6 D W0 W vl l n P0 P v6 v7):Z0 W D.lo (D.b0+4) D.no D.fo D.ib D.fi (Zx l (Qb P0) l.length):=
 S.base.offs.chg h.chg (fun e=>by have:=S.base.hpb;unfold Mut at e;omega) (fun b hb _ e=>by have:=S.base.hcm;have:=S.base.hlo;unfold Mut at e;omega)
theorem Q6.dir (S:Zw d D w0 W0 vl l n P0)(h:Q6 D W0 W vl l n P0 P v6 v7):MapG (QG Tryz.underlying3) W (D.b0+3) D.nd (VB l (Qb P0) l.length):=
 h.chg.map S.base.dir (fun e=>by have:=S.base.hpb;unfold Mut at e;omega)
theorem Q6.root (h:Q6 D W0 W vl l n P0 P v6 v7)(k:Nat):Qb P k=Qb P0 k:=h.same.root k
theorem jg (S:Zw d D w0 W0 vl l n P0)(h:Q6 D W0 W vl l n P0 P v6 v7){k:Nat}(hk:k<n+l.length):
  Calls Tryz.prog 28 #[.pointer (some ⟨D.b0+5,0,none⟩),.int .i64 k] W (fun e w'=>e= .returned (.int .i64 (Qb P0 k))/\∃P',Q6 D W0 w' vl l n P0 P' v6 v7/\Chg (fun b=>b=D.pb) W w'):=by
 obtain⟨hA,hp⟩:=h.par.pos (by omega);refine(zY W (D.b0+5) D.pb D.cap P hp (by rw[h.par.1,<-hA];exact h.box.1 2 _ rfl) (by have:=S.base.hpb;omega) k (by rw[h.par.1];exact hk)).mono ?_;rintro e w' ⟨rfl,P',h1,h2,h3⟩;exact⟨by rw[h.root],P',h.find S (by omega) h1 h2 h3,h3⟩
theorem pj (S:Zw d D w0 W0 vl l n P0)(h:Q6 D W0 W vl l n P0 P v6 v7){q:Int}(hq:Qy q):
  Calls Tryz.prog 29 #[.pointer (some ⟨D.b0+5,0,none⟩),.int .i64 q] W (fun e w'=>e= .returned (.bool (D.fo q).isSome)/\Ext W w'):=by
 have c4:=h.box.1 4 _ rfl;have HLK:=hid (YZ (h.offs S).map hq)
 cases hf:D.fo q with
 | none=>
  rw[hf,Option.getD_none]at HLK
  have hlz:∀ty,(Builtin.len_ #[93] ty #[.map none]).run Tryz.prog W= .ok (.int .i64 0) W:=fun ty=>by
   simp[Builtin.len_,run_underlying Tryz.underlying93,goInt,Result.andThen]
  have HLZ:=hid hlz;clear hlz hf h S;obtain⟨sb,hsb⟩:=Qg (D.b0+5);rw[hsb]at c4 ⊢;clear hsb;go_enter Tryz.func29,Tryz.ntmps29
  go_wp2_with (first
   |((with_reducible refine Vy 68 (.tmp 8) (.tmp 9) rfl rfl ?_);refine Vf rfl (.tmp 8) (.tmp 9) 68 rfl HLK.o ?_)
   |((with_reducible refine gK 93 (.tmp 10) rfl rfl ?_);refine fG rfl (.tmp 10) 93 rfl HLZ.o ?_)
   |fail)
  go_ret;exact⟨rfl,Ext.refl _⟩
 | some v=>
  obtain⟨h1,h2,h3⟩:=(h.offs S).yes _ _ hf;subst h1;obtain⟨ob,hob⟩:=S.base.some' _ _ hf;obtain⟨m,hm0,hm1,hlen⟩:=h3.map.size_pos Tryz.underlying93 (h3.there hob);obtain⟨mb,hmb⟩:=Qg (D.ib q);rw[hf,Option.getD_some,hmb]at HLK;rw[hmb]at hlen;have HLZ:=hid hlen;have i1:(m:Int) > 0:=by omega
  obtain⟨sb,hsb⟩:=Qg (D.b0+5);rw[hsb]at c4 ⊢;clear hsb hf h S h2 h3 hob hlen hmb hm1;go_enter Tryz.func29,Tryz.ntmps29
  go_wp2_with (first
   |((with_reducible refine Vy 68 (.tmp 8) (.tmp 9) rfl rfl ?_);refine Vf rfl (.tmp 8) (.tmp 9) 68 rfl HLK.o ?_)
   |((with_reducible refine gK 93 (.tmp 10) rfl rfl ?_);refine fG rfl (.tmp 10) 93 rfl HLZ.o ?_)
   |fail)
  go_ret;exact⟨rfl,Ext.refl _⟩
end
section
variable {d:Nat}{D:Zj}{w0 W0 W W':World}{vl:Value}{l:List Con}{n:Nat}{P0 P P':List Nat}{v6 v7:Value}
theorem Q6.row (S:Zw d D w0 W0 vl l n P0)(h:Q6 D W0 W vl l n P0 P v6 v7){q:Nat}{off:Int}(hq:Qy (q:Int))(ho:Qy off){i:Nat}(hi:(X4 l (Qb P0) (q,off))[0]? =some i):
  ∃(x:Pl) (g m c:Nat),x.1=((q:Int),off)/\QM D.fc x= .slice (some ⟨g,0,none⟩) m c/\m=(X4 l (Qb P0) (q,off)).length/\0<m/\D.cm<g/\g<D.lo/\∀W',Zy plK W' D.cm D.cm D.nc D.fc (fun p=>if 0<=p.1.1 then X4 l (Qb P0) (p.1.1.toNat,p.1.2) else [])->
   W'.cell? ⟨g,0,none⟩=some (.int .i64 i)/\(Instr.lookup 67 (.map (some D.cm)) (.agg #[.int .i64 q,.int .i64 off]) false).run Tryz.prog W'= .ok (.slice (some ⟨g,0,none⟩) m c) W':=by
 obtain⟨x,hx⟩:∃x:Pl,x.1=((q:Int),off):=⟨⟨((q:Int),off),hq,ho⟩,rfl⟩;have hr:=(h.cells S).row x;have hF:(if 0<=x.1.1 then X4 l (Qb P0) (x.1.1.toNat,x.1.2) else [])=X4 l (Qb P0) (q,off):=by rw[hx];simp
 rw[hF]at hr
 have hpos:0<(X4 l (Qb P0) (q,off)).length:=by
  rcases Nat.eq_zero_or_pos (X4 l (Qb P0) (q,off)).length with h0|h0
  ·rw[List.length_eq_zero_iff.1 h0]at hi;cases hi
  ·exact h0
 obtain⟨A,c,hv, -, -⟩:=hr.form;rw[hv]at hr;obtain⟨g,rfl,hg1,hg2⟩:=hr.at0 hpos;refine⟨x,g,_,c,hx,hv,rfl,hpos, ?_,S.base.rows x g (by rw[hv];rfl),fun W' hW'=>⟨?_, ?_⟩⟩
 ·have:=(h.cells S).ne x (q:=g) (by rw[hv];rfl);omega
 ·have hr':=hW'.row x;rw[hF,hv]at hr';exact(hr'.num_cell hi).1
 ·have:=nf hW'.map x hx
  rwa [hv]at this
theorem fB (S:Zw d D w0 W0 vl l n P0)(h:Q6 D W0 W vl l n P0 P v6 v7){k:Nat}{c:Con}(hc:l[k]? =some c)(hw:QQ c=true):
  Calls Tryz.prog 50 #[.pointer (some ⟨D.b0+5,0,none⟩),.int .i64 k] W (fun e w'=>e= .returned (.int .i64 (Xv l n (Qb P0) c:Nat))/\∃P',Q6 D W0 w' vl l n P0 P' v6 v7/\Chg (fun b=>b=D.pb) W w'):=by
 have hmem:=Qx hc;have hkl:=(Qz hc).1;obtain⟨i,ce,hce, -, -, -, -,hi⟩:=zj (l:=l) (n:=n) (r:=Qb P0) hmem hw;rw[hce];have hok:=S.ok c hmem;obtain⟨an,han⟩:∃an:Nat,c.a=an:=⟨c.a.toNat,(Qk hok.a0).symm⟩;have hanl:an<n:=by have:=hok.a1;omega
 obtain⟨q,hq⟩:=Qg (Qb P0 an);have hpl:placeOf (Qb P0) c=(q,c.off):=by unfold placeOf;rw[han,<-hq];rfl
 rw[hpl]at hi
 have hql:q<n+l.length:=by
  have h1:=h.same;have h2:=h.par.2.1;have:=xj h2 (k:=an) (by have:=h.par.1;omega);rw[h.root]at this;have:=h.par.1;omega
 have hhn:=S.hn;have hhm:=S.hm
 obtain⟨A,me,hvl⟩:∃A me,vl= .slice A l.length me:=by
  obtain⟨A,me,hv, -⟩:=S.sl;exact⟨A,me,hv⟩
 subst hvl;obtain⟨d',bx,ox,P1,np1,cp1,P2,np2,cp2,hd,rfl,hv1,hbx, -⟩:=S.sl.con_at hc;have hoff:Qy c.off:=((J3 hv1).1).2.2.2.1;obtain⟨x,g,m,cg,hx,hrow,hm,hm0,hg1,hg2,hcell⟩:=h.row S (q:=q) (by unfold Qy;omega) hoff hi;have hbw:=World.block_lt_of_cell? _ _ hbx.1;have hbx':=hbx.ext (h.old S);obtain⟨-,x1, -,x3, -⟩:=hbx';have b0':=h.box.1 0 _ rfl;have b1':=h.box.1 1 _ rfl;have b3':=h.box.1 3 _ rfl;have hpb:=S.base.hpb.2 (by omega);have hpb':=S.base.hpb.1;have hlt:=S.lt;obtain⟨rc,rl⟩:=hcell W (h.cells S);have HF:=hid (fun w' (he:Ext W w')=>jg S (h.ext he) (k:=an) (by omega));have HN:=hid (fun(w':World) (P':List Nat) (h':Q6 D W0 w' (.slice (some ⟨bx,ox,none⟩) l.length me) l n P0 P' v6 v7)=>hcell w' (h'.cells S))
 have HK:=hid (fun(w':World) (P':List Nat) (h':Q6 D W0 w' (.slice (some ⟨bx,ox,none⟩) l.length me) l n P0 P' v6 v7) (hg:Chg (fun b=>b=D.pb) W w')=>(show w'.cell? ⟨D.b0+5,0,none⟩=some (.slice (some ⟨bx,ox,none⟩) l.length me)/\w'.cell? ⟨D.b0+5,1,none⟩=some (.int .i64 n)/\w'.cell? ⟨D.b0+5,3,none⟩=some (.map (some D.cm))/\w'.cell? ⟨bx,ox+k * 10+1,none⟩=some (.int .i64 an)/\w'.cell? ⟨bx,ox+k * 10+3,none⟩=some (.int .i64 c.off)/\w'.cell? ⟨g,0,none⟩=some (.int .i64 i)/\(Instr.lookup 67 (.map (some D.cm)) (.agg #[.int .i64 q,.int .i64 c.off]) false).run Tryz.prog w'= .ok (.slice (some ⟨g,0,none⟩) m cg) w' from
  ⟨h'.box.1 0 _ rfl,h'.box.1 1 _ rfl,h'.box.1 3 _ rfl,by rw[<-han];exact hg.cell x1 (fun e=>by have h1:bx=D.pb:=e;have h2:bx<w0.heap.size:=hbw;omega),hg.cell x3 (fun e=>by have h1:bx=D.pb:=e;have h2:bx<w0.heap.size:=hbw;omega),(hcell w' (h'.cells S)).1,(hcell w' (h'.cells S)).2⟩))
 have HS0:=hid (HK.o _ _ (h.ext (Ext.refl W).drew) (Chg.of_ext _ (Ext.refl W).drew))
 have e1:IntKind.i64.wrap ((n:Int)+(i:Int))=((n+i:Nat):Int):=by
  have:i<l.length:=by
   have:=Qx hi;exact(jq.1 this).1
  rw[IntWalk.i64_in _ (by omega)];omega
 obtain⟨M,hM⟩:=Qg (l.length);rw[hq]at HF;rw[hM]at HF HK HS0 hkl;clear HN hcell rc rl b0' b1' b3' x1 x3 hbx hx hrow hm hi hpl hce hv1 hoff S h hc hw hmem hok hlt hbw hpb hpb';have i1:(0:Int)<=(k:Int):=by omega
 have i2:(k:Int)<(M:Int):=by omega
 have i3:(0:Int)<(m:Int):=by omega
 obtain⟨sb,hsb⟩:=Qg (D.b0+5);rw[hsb]at HF HK HS0 ⊢;go_enter Tryz.func50,Tryz.ntmps50;go_upto_region 1 with fail
 refine wp_region_held_drew (S:=(fun w'=>w'.cell? ⟨sb,0,none⟩=some (.slice (some ⟨bx,ox,none⟩) M me)/\w'.cell? ⟨sb,1,none⟩=some (.int .i64 n)/\w'.cell? ⟨sb,3,none⟩=some (.map (some D.cm))/\w'.cell? ⟨bx,ox+k * 10+1,none⟩=some (.int .i64 an)/\w'.cell? ⟨bx,ox+k * 10+3,none⟩=some (.int .i64 c.off)/\w'.cell? ⟨g,0,none⟩=some (.int .i64 i)/\(Instr.lookup 67 (.map (some D.cm)) (.agg #[.int .i64 q,.int .i64 c.off]) false).run Tryz.prog w'= .ok (.slice (some ⟨g,0,none⟩) m cg) w')) (by kernel_rfl) HS0.o (fun hSg1q0=>?_);refine Qp 0 1 2 3 4 5 ?_;refine Qp 6 7 8 9 10 11 ?_;refine Qp 12 13 14 15 16 18 ?_;refine Qp 19 20 21 22 23 24 ?_;refine rgT 25 ?_;refine rgC 17 (fun K hK=>?_);go_simp;go_at_call 28;refine(HF.o _ ((Ext.refl W).drew)).mono ?_;rintro e w2 ⟨rfl,P2,hn2,hc2⟩;have HC2:=hid ((Chg.of_ext (fun b=>b=D.pb) ((Ext.refl W).drew)).trans hc2);have HN2:=hid hn2;clear hn2 hc2;refine rgK hK (HK.o _ _ HN2.o HC2.o) (fun hSg1q1=>?_);clear hK K;refine Qp 26 27 28 29 30 31 ?_;refine wpAnyH_done (by kernel_rfl) ?_ _
 go_wp2
 go_ret;exact⟨rfl,P2,(by rw[hM];exact HN2.o),HC2.o⟩
end
def XX (l:List Con)(z:Int)(k:Nat):Bool:=match l[k]? with
 |some c=>decide (c.kind=z)
 |none=>false
theorem pX {p:Nat->Bool}{L:List Nat}{i x:Nat}(h:L[i]? =some x):(L.take (i+1)).any p=((L.take i).any p || p x):=by
 rw[List.take_add_one,h];simp
def Dy (w:World)(a b:Bool)(e:Ending)(w':World):Prop:=e= .returned (.tuple #[.bool a,.bool b])/\Ext w w'
theorem Gm {d:Nat}(w:World)(sb:Nat)(A B:Option Addr)(m me q qe:Nat)(l:List Con)(L:List Nat)(hs:Sl (Zf (tyR d)) w All (.slice A m me) l)(hb:w.cell? ⟨sb,0,none⟩=some (.slice A m me))(hL:Sl QF w All (.slice B q qe) L)(hk:∀k∈L,k<l.length):
  Calls Tryz.prog 106 #[.pointer (some ⟨sb,0,none⟩),.slice B q qe] w (Dy w (L.any (XX l 2)) (L.any (XX l 3))):=by
 have hlen:=hL.len;obtain⟨hc1,hc2⟩:=hL.cap;have hml:=hs.len;obtain⟨hc3,hc4⟩:=hs.cap;have HS:=hid hs;have HB:=hid hb;have HL:=hid hL;have HK:=hid hk;have HLE:=hid hlen;have HML:=hid hml;clear hs hb hL hk hlen hml;go_enter Tryz.func106,Tryz.ntmps106
 go_wp2
 go_loopw [4,5,10] (fun a b i wr=>∃(k:Nat),k<=q/\i= .int .i64 k/\a= .bool ((L.take k).any (XX l 2))/\b= .bool ((L.take k).any (XX l 3))/\Hid (Ext w wr)) (fun _ _ i _=>q - (intOf i).toNat)
 case atStart=>exact⟨0,by omega,rfl,by simp,by simp,hid (Ext.refl _)⟩
 case round=>
  obtain⟨k,hk,rfl,rfl,rfl,HX⟩:=hrel;by_cases h1:k<q
  ·obtain⟨x,hx⟩:∃x,L[k]? =some x:=⟨_,Qq (by have:=HLE.o;omega)⟩;have hxl:x<l.length:=HK.o x (Qx hx);obtain⟨c,hc⟩:∃c,l[x]? =some c:=⟨_,Qq hxl⟩;have ha2:=pX (p:=XX l 2) hx;have ha3:=pX (p:=XX l 3) hx;have e2:XX l 2 x=(c.kind == 2):=by unfold XX;rw[hc];rfl
   have e3:XX l 3 x=(c.kind == 3):=by unfold XX;rw[hc];rfl
   rw[e2]at ha2;rw[e3]at ha3;have HA2:=hid ha2;have HA3:=hid ha3;obtain⟨bB,oB,hB,hcell⟩:=(HL.o.ext HX.o).num_at hx;obtain⟨d',bx,ox,P1,np1,cp1,P2,np2,cp2,hd,hA,hv1,hbx, -⟩:=(HS.o.ext HX.o).con_at hc;subst hB;subst hA;have x0:=hbx.1;have b0:=HX.o.cell HB.o;have i1:(0:Int)<=(x:Int):=by omega
   have i2:(x:Int)<(m:Int):=by have:=HML.o;omega
   obtain⟨a2,ha2'⟩:∃a2,(L.take k).any (XX l 2)=a2:=⟨_,rfl⟩;obtain⟨a3,ha3'⟩:∃a3,(L.take k).any (XX l 3)=a3:=⟨_,rfl⟩;rw[ha2']at HA2 ⊢;rw[ha3']at HA3 ⊢;obtain⟨ck,hck⟩:=Qg (c.kind);rw[hck]at x0 HA2 HA3;clear hbx hv1 hd hc hx hxl ha2 ha3 e2 e3 ha2' ha3' hck
   cases a2 <;> cases a3 <;> by_cases g2:ck=2 <;> by_cases g3:ck=3 <;> first
    |(exfalso;omega)
    |skip
   all_goals
    have k2:(ck == 2)=decide (ck=2):=rfl;have k3:(ck == 3)=decide (ck=3):=rfl;simp only[g2,g3,decide_true,decide_false]at k2 k3
    go_wp2
    first
     |go_roundw
     |refine⟨?rel, ?measure⟩
    case rel=>exact⟨k+1,by omega,by go_num,by rw[HA2.o];simp[g2,g3],by rw[HA3.o];simp[g2,g3],HX⟩
    case measure=>simp [intOf];omega
  ·obtain rfl:k=q:=by omega
   have i1:¬(k:Int)<(k:Int):=by omega
   have hf:L.take k=L:=Qj (by have:=HLE.o;omega);rw[hf];have HXX:=HX;obtain⟨a2,ha2'⟩:∃a2,L.any (XX l 2)=a2:=⟨_,rfl⟩;obtain⟨a3,ha3'⟩:∃a3,L.any (XX l 3)=a3:=⟨_,rfl⟩;have H2:=hid ha2';have H3:=hid ha3';rw[ha2',ha3'];clear ha2' ha3' hf
   go_wp2
   go_ret2;exact⟨by simp[H2.o,H3.o],HXX.o⟩
end Go.Proofs.YtlmipgdnlfjpaaaGreat
