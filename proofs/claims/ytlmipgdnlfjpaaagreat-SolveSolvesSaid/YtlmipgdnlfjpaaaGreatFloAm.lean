/- Lemmas of mine, merged. -/
import Derived.Test.YtlmipgdnlfjpaaaGreatCelm
import Derived.Test.YtlmipgdnlfjpaaaGreatCpyTm
import Derived.Laws.OwnMore
set_option linter.unusedSimpArgs false
set_option linter.unusedVariables false
namespace Go.Proofs.YtlmipgdnlfjpaaaGreat
open Go.RowKit Go.Deco Go.Maps
theorem mp (z:Array Value)(n:Nat):(madeCells z n).toList=(List.range n).map (fun i=>z[i % z.size]!):=by simp[madeCells]
theorem aX (z:Array Value)(hz:0<z.size)(n:Nat):(madeCells z ((n+1) * z.size)).toList=z.toList ++ (madeCells z (n * z.size)).toList:=by
 rw[mp,mp,Nat.succ_mul,Nat.add_comm (n * z.size),List.range_add,List.map_append,List.map_map]
 congr 1
 ·apply List.ext_getElem
  ·simp
  ·intro i h1 h2;have hi:i<z.size:=by simpa using h1
   simp[Nat.mod_eq_of_lt hi,hi]
 ·apply List.map_congr_left;intro i _;simp
theorem gC {E:Type}{R:Rep E}{w:World}{S:Nat->Prop}{z:Array Value}{e0:E}(hz:z.size=R.size)(hr:R.rel w S z.toList e0):∀n,QD R w S (madeCells z (n * R.size)).toList (List.replicate n e0)
 |0=>by simp[madeCells,QD]
 |n+1=>by
  have h:=gC hz hr n;rw[<-hz]at h ⊢;rw[aX z (by rw[hz];exact R.pos)];exact⟨_,_,rfl,hr,h⟩
theorem cV {E:Type}{R:Rep E}(W:World)(t e:TypeId)(n base:Nat)(i:TypeInfo){T:Nat->Prop}(z:Value){e0:E}(ht:Tryz.prog.underlying t=some (.slice e))(hi:Tryz.prog.info? e=some i)(hz:i.zero=some z)(hsize:i.size=R.size)(hby:i.bytes<=100)(hn:n<=1000000)(hbase:base<=W.heap.size)
  (hzs:z.cells.size=R.size) (hr:∀w S,R.rel w S z.cells.toList e0):
  ∃W',(Instr.makeSlice t (.int .i64 n) (.int .i64 n)).run Tryz.prog W= .ok (.slice (some ⟨W.heap.size,0,none⟩) n n) W'/\Qf R W' base e T (.slice (some ⟨W.heap.size,0,none⟩) n n) (List.replicate n e0)/\Ext W W':=by
 obtain⟨W',hrun,h2,h3⟩:=run_make_full (P:=Tryz.prog) W base t e i z R.size ht hi hz hsize .i64 .i64 n (by have:i.bytes * n<=100 * 1000000:=Nat.mul_le_mul hby hn;omega) (by unfold maxLen;omega) hbase;refine⟨W',hrun,⟨_, ?_,gC hzs (hr _ _) n⟩,⟨h3.os,h3.tape,h3.output,h3.size,fun k hk=>h3.block k hk (by simp)⟩⟩;rw[List.length_replicate];exact h2
structure VZ (w:World)(fb N:Nat)(g:Nat->Value)(F:Nat->List Nat):Prop where
 cell:∀i,i<N->w.cell? ⟨fb,i,none⟩=some (g i)
 fro:∀i,w.frozen? ⟨fb,i,none⟩=false
 lt:fb<w.heap.size
 row:∀i,i<N->Qf QF w (fb+1) 3 No (g i) (F i)
 apart:∀i j q,i<N->j<N->i≠j->(g i).ownBlock=some q->(g j).ownBlock≠some q
section
variable {w w' w7:World}{fb N:Nat}{g:Nat->Value}{F F':Nat->List Nat}
theorem VZ.chg {M:Nat->Prop}(h:VZ w fb N g F)(hc:Chg M w w')(h1:¬M fb)(h2:∀i b,i<N->(g i).ownBlock=some b->¬M b):VZ w' fb N g F:=
 ⟨fun i hi=>hc.cell (h.cell i hi) h1,fun i=>(hc.frozen (p:=⟨fb,i,none⟩) h.lt h1).trans (h.fro i),Nat.lt_of_lt_of_le h.lt hc.size,fun i hi=>Vd (h.row i hi) hc (fun b hb=>h2 i b hi hb),h.apart⟩
theorem VZ.ext (h:VZ w fb N g F)(he:Ext w w'):VZ w' fb N g F:=h.chg (M:=fun _=>False) (Chg.of_ext _ he) (fun h=>h) (fun _ _ _ _ h=>h)
theorem VZ.same (h:VZ w fb N g F)(he:∀i,F' i=F i):VZ w fb N g F':=⟨h.cell,h.fro,h.lt,fun i hi=>by rw[he];exact h.row i hi,h.apart⟩
theorem VZ.step (h:VZ w fb N g F){a y:Nat}(ha:a<N){v':Value}(hc:Chg (fun b=>(g a).ownBlock=some b) w w7)(ho:Qf QF w7 (fb+1) 3 No v' (F a ++ [y]))(hl:∀q,v'.ownBlock=some q->(g a).ownBlock=some q\/w.heap.size<=q):
  VZ (w7.setCell ⟨fb,a,none⟩ v') fb N (fun i=>if i=a then v' else g i) (fun i=>if i=a then F a ++ [y] else F i):=by
 have hfb:∀i,i<N->∀q,(g i).ownBlock=some q->fb<q:=fun i hi q hq=>((h.row i hi).block q hq).1;have h7:∀i,i<N->i≠a->Qf QF w7 (fb+1) 3 No (g i) (F i):=fun i hi hia=>Vd (h.row i hi) hc (fun b hb e=>h.apart i a b hi ha hia hb e);have c7:∀i,i<N->w7.cell? ⟨fb,i,none⟩=some (g i):=fun i hi=>hc.cell (h.cell i hi) (fun e=>by have h1:=hfb a ha fb e;omega);have hset:∀{v:Value} {l:List Nat},Qf QF w7 (fb+1) 3 No v l->Qf QF (w7.setCell ⟨fb,a,none⟩ v') (fb+1) 3 No v l:=fun {v l} ho=>ho.set_far (p:=⟨fb,a,none⟩) (fun e=>by have:=(ho.block _ e).1;simp at this;omega) (fun _ h=>h.elim);refine⟨fun i hi=>?_,fun i=>?_, ?_,fun i hi=>?_,fun i j q hi hj hij hq=>?_⟩
 ·by_cases hia:i=a
  ·subst hia;simp only[if_true];simp[World.cell?_setCell_same,c7 i hi]
  ·simp only[if_neg hia];have:i≠a:=hia;simp[World.cell?_setCell_other,c7 i hi,hia,Ne.symm this]
 ·rw[World.frozen?_setCell];exact(hc.frozen (p:=⟨fb,i,none⟩) h.lt (fun e=>by have h1:=hfb a ha fb e;omega)).trans (h.fro i)
 ·have:=hc.size;have:=h.lt;simp;omega
 ·by_cases hia:i=a
  ·subst hia;simp only[if_true];exact hset ho
  ·simp only[if_neg hia];exact hset (h7 i hi hia)
 ·by_cases hia:i=a
  ·subst hia;simp only[if_true]at hq;rw[if_neg (Ne.symm hij)];rcases hl q hq with e|e
   ·exact h.apart i j q hi hj hij e
   ·exact fun e2=>by have:=((h.row j hj).block q e2).2;omega
  ·simp only[if_neg hia]at hq;by_cases hja:j=a
   ·subst hja;simp only[if_true];intro e;rcases hl q e with e2|e2
    ·exact h.apart i j q hi hj hij hq e2
    ·have:=((h.row i hi).block q hq).2;omega
   ·rw[if_neg hja];exact h.apart i j q hi hj hij hq
end
end Go.Proofs.YtlmipgdnlfjpaaaGreat
