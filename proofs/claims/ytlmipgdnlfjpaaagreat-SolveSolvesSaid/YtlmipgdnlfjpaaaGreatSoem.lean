/- Lemmas of mine, merged. -/
import Derived.Test.YtlmipgdnlfjpaaaGreatSoDm
import Derived.Test.YtlmipgdnlfjpaaaGreatMpcm
import Derived.WideKeyEntry
import Derived.DeepKeys3
import Derived.Maps.Range
import Derived.Test.YtlmipgdnlfjpaaaGreatFslm
set_option maxRecDepth 100000
set_option linter.unusedSimpArgs false
set_option linter.unusedVariables false
namespace Go.Deco
open Go Go.RowKit Go.Maps
section
variable {P:Program}{k:TypeId}{κ:Type}{G:Xw P k κ}{w w':World}{b r n:Nat}{f:κ->Option Value}
theorem MapG.entry [DecidableEq κ]{t e:TypeId}(K:WideMaps.KeyLaw P k)(h:MapG G w b n f)(ht:P.underlying t=some (.map k e)){z:Value}(hz:∀u:World,(zeroValue e).run P u= .ok z u)(hn:n<maxLen){x:κ}(hx:G.ok x):
  ∃(st:Nat) (w1:World),(Instr.mapEntry t (.map (some b)) (G.val x)).run P w= .ok (.tuple #[(f x).getD z,goInt st]) w1/\w.grownBy w1 (some b)/\w1.heap.size=w.heap.size/\
   ∀(w2:World) (v:Value),w2.heap[b]? =w1.heap[b]? ->∃w3,(Instr.entryStore t (.map (some b)) (goInt st) v).run P w2= .ok () w3/\MapG G w3 b (n+1) (fun j=>if j=x then some v else f j)/\w2.grownBy w3 (some b)/\w3.heap.size=w2.heap.size:=by
 have hlt:=h.lt;have hput:=fun v=>h.put ht hn hx v;obtain⟨D,⟨es,clock,hb,F,hs,hD⟩,hf⟩:=h;obtain⟨v0,st,es1,clock1,hrun,hv0,hst⟩:=WideElems.entry_then_store K ht hz hb F (G.key hx)
 have hsb:∀(u:World) (o:Obj),b<u.heap.size->u.grownBy (ChangeMaps.setBlock u b o) (some b)/\(ChangeMaps.setBlock u b o).heap.size=u.heap.size/\(ChangeMaps.setBlock u b o).heap[b]? =some o:=fun u o hu=>by
  refine⟨⟨rfl,rfl,rfl,by simp[ChangeMaps.setBlock],fun i hi hne=>?_⟩,by simp[ChangeMaps.setBlock],by simp[ChangeMaps.setBlock,hu]⟩;have:i≠b:=fun e=>hne (by rw[e]);simp[ChangeMaps.setBlock,Array.getElem?_setIfInBounds,Ne.symm this]
 have e0:v0=(f x).getD z:=by
  rw[hf x,hD];rcases Maps.fit_look false G.law ht (hz w) hb F (G.key hx) with⟨_,hno,hat⟩|⟨e1,y,he1,hk1,_,hRv,hat,_⟩
  ·rcases hv0 with⟨e2,he2,hk2,_⟩|⟨_,h⟩
   ·exact absurd hk2 (hno e2 he2)
   ·rw[Z7,hat];exact h
  ·have hy:y.1= .held e1.val:=by
    simp[XD]at hRv;rw[<-hRv]
   rw[Z7,hat,hy];rcases hv0 with⟨e2,he2,hk2,h⟩|⟨hno,_⟩
   ·have:=entry_eq_of_key ((MapKept.stamped_iff es clock).1 F.stamped).2.2 he2 he1 (hk2.trans hk1.symm);rw[h,this];rfl
   ·exact absurd hk1 (hno e1 he1)
 subst e0;refine⟨st,_,hrun,(hsb w _ hlt).1,(hsb w _ hlt).2.1,fun w2 v hw2=>?_⟩;obtain⟨es',clock',h1,h2⟩:=hst w2 v (by rw[hw2];exact(hsb w _ hlt).2.2);obtain⟨w4,h3,h4,_⟩:=hput v;rw[h2]at h3;cases h3
 have hlt2:b<w2.heap.size:=by
  have:=(hsb w (.map es1 clock1) hlt).2.2;rw[<-hw2]at this;exact(Array.getElem?_eq_some_iff.1 this).1
 refine⟨_,h1, ?_,(hsb w2 _ hlt2).1,(hsb w2 _ hlt2).2.1⟩;obtain⟨D',⟨es2,c2,hb2,r2⟩,hf2⟩:=h4;refine⟨D',⟨es2,c2, ?_,r2⟩,hf2⟩;rw[(hsb w _ hlt).2.2]at hb2;rw[(hsb w2 _ hlt2).2.2];exact hb2
end
end Go.Deco
namespace Go.Proofs.YtlmipgdnlfjpaaaGreat
open Go.RowKit Go.Deco Go.Maps
theorem wf_i64 {x:Int}(h:Qy x):(Lit.int .i64 x).wf=true:=by
 unfold Qy at h;simp[Lit.wf,IntKind.min,IntKind.max,IntKind.signed,IntKind.bits];omega
theorem nJ {x:Int}(h:(Lit.int .i64 x).wf=true):Qy x:=by
 unfold Qy;simp[Lit.wf,IntKind.min,IntKind.max,IntKind.signed,IntKind.bits]at h;omega
def QG {P:Program}{k:TypeId}(hk:P.underlying k=some (.int .i64)):Xw P k Int where
 lit x:= .int .i64 x
 val x:= .int .i64 x
 ok x:=Qy x
 inj h:=by injection h
 key h:=keyOf_int_mk hk (wf_i64 h)
 inv h:=by
  obtain⟨x,rfl,rfl,hw⟩:=Maps.keyOf_int_inv hk h;exact⟨x,nJ hw,rfl,rfl⟩
 law:=int_keyed hk
theorem b8 {d:Nat}{cs:List Value}{L:List Lit}(h:Tryz.prog.keyLits (d+1) 3 cs=some L):∃n:Int,Qy n/\cs=[.int .i64 n]/\L=[.int .i64 n]:=by
 unfold Program.keyLits at h;rw[Tryz.underlying3]at h
 match cs,h with
 | [.int q n],h=>
  simp only at h
  split at h
  ·rename_i hq
   obtain⟨rfl,hw⟩:=hq;cases h;exact⟨n,nJ hw,rfl,rfl⟩
  ·cases h
theorem G2 {x:Int×Int}(h1:Qy x.1)(h2:Qy x.2):Tryz.prog.keyLits (Tryz.prog.types.size+1) 92 [.int .i64 x.1,.int .i64 x.2]=some [.int .i64 x.1,.int .i64 x.2]:=by
 obtain⟨s,hs⟩:∃s,Tryz.prog.types.size=s+1:=⟨Tryz.prog.types.size - 1,by kernel_rfl⟩;have c1:Tryz.prog.cellsOf 92=2:=by kernel_rfl
 have c2:Tryz.prog.cellsOf 3=1:=by kernel_rfl
 have hi:∀(n:Int),Qy n->Tryz.prog.keyLits (s+1) 3 [.int .i64 n]=some [.int .i64 n]:=fun n hn=>by
  unfold Program.keyLits;rw[Tryz.underlying3];simp[wf_i64 hn]
 rw[hs];unfold Program.keyLits;rw[Tryz.underlying92];simp[c1,c2,hi _ h1,hi _ h2]
theorem iK {cs:List Value}{L:List Lit}(h:Tryz.prog.keyLits (Tryz.prog.types.size+1) 92 cs=some L):∃x:Int×Int,(Qy x.1/\Qy x.2)/\cs=[.int .i64 x.1,.int .i64 x.2]/\L=[.int .i64 x.1,.int .i64 x.2]:=by
 obtain⟨s,hs⟩:∃s,Tryz.prog.types.size=s+1:=⟨Tryz.prog.types.size - 1,by kernel_rfl⟩;have c1:Tryz.prog.cellsOf 92=2:=by kernel_rfl
 have c2:Tryz.prog.cellsOf 3=1:=by kernel_rfl
 rw[hs]at h;obtain⟨D,hD⟩:=Qg (s+1);rw[hD]at h;unfold Program.keyLits at h;rw[Tryz.underlying92]at h;simp[c1,c2,Option.bind_eq_some_iff]at h;obtain⟨hl,l1,h1,_,⟨l2,h2,rfl⟩,rfl⟩:=h;subst hD;obtain⟨n1,k1,e1,rfl⟩:=b8 h1;obtain⟨n2,k2,e2,rfl⟩:=b8 h2;refine⟨(n1,n2),⟨k1,k2⟩, ?_,by simp⟩
 match cs,hl with
 |[a,b],_=>
  simp at e1 e2;rw[e1,e2]
theorem ux:(match Tryz.prog.underlying 92 with|some (.array _ _)|some (.struct _)=>true|_=>false)=true:=by rw[Tryz.underlying92]
theorem mV:WideMaps.KeyLaw Tryz.prog 92:=deep_law (m:=2) (by omega) (by kernel_rfl) (by kernel_rfl) ux
theorem aW {x:Int×Int}(h1:Qy x.1)(h2:Qy x.2):keyOf Tryz.prog 92 (.agg #[.int .i64 x.1,.int .i64 x.2])=some (.string (keyBytes [.int .i64 x.1,.int .i64 x.2])):=by
 have hl:=G2 h1 h2;have hk:Tryz.prog.keyType 92=true:=by kernel_rfl
 have c1:Tryz.prog.cellsOf 92=2:=by kernel_rfl
 obtain⟨D,hD⟩:=Qg (Tryz.prog.types.size+1);unfold keyOf;rw[hD]at hl ⊢;rw[Tryz.underlying92];simp only[hk,Value.formed,Tryz.underlying92,c1];simp[hl,Value.cells]
abbrev Pl:={x:Int×Int // Qy x.1/\Qy x.2}
def plK:Xw Tryz.prog 92 Pl where
 lit x:= .string (keyBytes [.int .i64 x.1.1,.int .i64 x.1.2])
 val x:= .agg #[.int .i64 x.1.1,.int .i64 x.1.2]
 ok _:=True
 inj {a b} h:=by
  injection h with h
  have h:=keyBytes_inj (l:=[.int .i64 a.1.1,.int .i64 a.1.2]) (l':=[.int .i64 b.1.1,.int .i64 b.1.2]) ⟨by simp[Lit.sameKind],⟨by simp[Lit.sameKind],trivial⟩⟩
   (by simp[Lit.keyWf,wf_i64 a.2.1,wf_i64 a.2.2]) (by simp[Lit.keyWf,wf_i64 b.2.1,wf_i64 b.2.2]) h
  simp at h;exact Subtype.ext (Prod.ext h.1 h.2)
 key {x} _:=aW x.2.1 x.2.2
 inv {v l} h:=by
  obtain⟨xs,L,rfl,h1,rfl⟩:=keyOf_top ux h;obtain⟨x,hx,h2,rfl⟩:=iK h1;refine⟨⟨x,hx⟩,trivial, ?_,rfl⟩
  congr 1
  apply Array.ext';rw[h2]
 law:=Keyed.of_law mV
section
variable {ops:Array Oper}{rest:List Oper}{o:Oper}{a:Act}{K:Act->World->Prop}{Q:Exit->Act->World->Prop}{X:Prop}{W:World}
theorem cP (ty:TypeId)(base:Nat)(v:Value)(l:List Nat)(hown:Qf QF W base 3 No v l)(q k:Nat)(hk:W.cell? ⟨q,0,none⟩=some (.int .i64 k))(hkb:k<1048576)(hl:l.length<=1048576)(hbase:base<=W.heap.size):
  ∃A' c' W',(Builtin.append_ #[26,26] ty #[v,.slice (some ⟨q,0,none⟩) 1 1]).run Tryz.prog W= .ok (.slice A' (l.length+1) c') W'/\Qf QF W' base 3 No (.slice A' (l.length+1) c') (l ++ [k])/\W.grownBy W' v.ownBlock/\
   ∀g,(Value.slice A' (l.length+1) c').ownBlock=some g->v.ownBlock=some g\/W.heap.size<=g:=by
 obtain⟨j0,hj,hj0,hj1,hj2⟩:=info_parts qy
 obtain⟨A',c',W',hrun,h2,h3,h4⟩:=Y7 (P:=Tryz.prog) W 26 ty 3 j0 _ 1 8 Tryz.underlying26 hj hj0 hj1 hj2 rfl (R:=QF) rfl v l hown ⟨q,0,none⟩ 1 1 [k] [.int .i64 k] rfl
  (QD.single ⟨rfl,hkb⟩) (fun j u hu=>by
   cases j with
   |zero=>simp at hu;subst hu;exact hk
   |succ j=>simp at hu) (by omega) (by omega) hbase
 refine⟨A',c',W',hrun,h2,h3,fun g hg=>?_⟩;rcases h4 with h4|h4
 ·exact .inl (by rw[<-h4];exact hg)
 ·have h5:some g=some W.heap.size:=hg.symm.trans h4;injection h5 with h5
  exact .inr (by omega)
theorem JP (hgd:o.guard=none)(s x:Operand)(ho:o.op= .call {callee:= .builtin .append,args:= #[s,x],argTypes:= #[26,26]})
  (base:Nat) (v:Value) (l:List Nat) (hs:a.eval s=v) (hown:Qf QF W base 3 No v l) (q k:Nat) (hx:a.eval x= .slice (some ⟨q,0,none⟩) 1 1) (hk:W.cell? ⟨q,0,none⟩=some (.int .i64 k)) (hkb:k<1048576) (hl:l.length<=1048576) (hbase:base<=W.heap.size)
  (h:∀A' c' W',Qf QF W' base 3 No (.slice A' (l.length+1) c') (l ++ [k])->W.grownBy W' v.ownBlock->(∀g,(Value.slice A' (l.length+1) c').ownBlock=some g->v.ownBlock=some g\/W.heap.size<=g)->K (a.put o.dst (.slice A' (l.length+1) c')) W'):
  if Region.wanted o (yielded ops a.tmps)=true then Oper.wp Tryz.prog o a W K Q else X:=by
 have hw:Region.wanted o (yielded ops a.tmps)=true:=by simp[Region.wanted,hgd]
 rw[if_pos hw];obtain⟨A',c',W',hrun,h2,h3,h4⟩:=cP o.type base v l hown q k hk hkb hl hbase;unfold Oper.wp execOp;simp only[ho,resolve,invoke,builtin,Sem.run_bind,Sem.run_pure,Result.andThen_ok,List.map_toArray,List.map_cons,List.map_nil,hs,hx,hrun];exact h A' c' W' h2 h3 h4
theorem Yg (hgd:o.guard=none)(s x:Operand)(ho:o.op= .call {callee:= .builtin .append,args:= #[s,x],argTypes:= #[26,26]})
  (base:Nat) (v:Value) (l:List Nat) (hs:a.eval s=v) (hown:Qf QF W base 3 No v l) (q k:Nat) (hx:a.eval x= .slice (some ⟨q,0,none⟩) 1 1) (hk:W.cell? ⟨q,0,none⟩=some (.int .i64 k)) (hkb:k<1048576) (hl:l.length<=1048576) (hbase:base<=W.heap.size)
  (h:∀A' c' W',Qf QF W' base 3 No (.slice A' (l.length+1) c') (l ++ [k])->W.grownBy W' v.ownBlock->(∀g,(Value.slice A' (l.length+1) c').ownBlock=some g->v.ownBlock=some g\/W.heap.size<=g)->wpList Tryz.prog ops Q rest (a.put o.dst (.slice A' (l.length+1) c')) W'):
  wpList Tryz.prog ops Q (o :: rest) a W:=
 wpList_plain hgd fun _ hK=>by
  obtain⟨A',c',W',hrun,h2,h3,h4⟩:=cP o.type base v l hown q k hk hkb hl hbase;unfold Oper.wp execOp;simp only[ho,resolve,invoke,builtin,Sem.run_bind,Sem.run_pure,Result.andThen_ok,List.map_toArray,List.map_cons,List.map_nil,hs,hx,hrun];exact hK _ _ (h A' c' W' h2 h3 h4)
theorem Yv (hgd:o.guard=none)(m x:Operand)(t:TypeId)(ho:o.op= .mapEntry t m x){v:Value}{W1:World}(hrun:(Instr.mapEntry t (a.eval m) (a.eval x)).run Tryz.prog W= .ok v W1)(h:K (a.put o.dst v) W1):
  if Region.wanted o (yielded ops a.tmps)=true then Oper.wp Tryz.prog o a W K Q else X:=by
 have hw:Region.wanted o (yielded ops a.tmps)=true:=by simp[Region.wanted,hgd]
 rw[if_pos hw];unfold Oper.wp;simp[execOp,ho,hrun,Result.andThen];exact h
theorem xF (hgd:o.guard=none)(m s y:Operand)(t:TypeId)(ho:o.op= .entryStore t m s y){W1:World}(hrun:(Instr.entryStore t (a.eval m) (a.eval s) (a.eval y)).run Tryz.prog W= .ok () W1)(h:wpList Tryz.prog ops Q rest (a.put o.dst undef) W1):
  wpList Tryz.prog ops Q (o :: rest) a W:=
 wpList_plain hgd fun _ hK=>by
  unfold Oper.wp;simp[execOp,ho,hrun,Result.andThen];exact hK _ _ h
end
section
variable {k:TypeId}{κ:Type}{G:Xw Tryz.prog k κ}{w w' w3:World}{lo mb n:Nat}{f:κ->Option Value}{F:κ->List Nat}
def QM (f:κ->Option Value)(x:κ):Value:=(f x).getD (.slice none 0 0)
structure Zy (G:Xw Tryz.prog k κ)(w:World)(lo mb n:Nat)(f:κ->Option Value)(F:κ->List Nat):Prop where
 map:MapG G w mb n f
 row:∀x,Qf QF w lo 3 No (QM f x) (F x)
 apart:∀x y q,x≠y->(QM f x).ownBlock=some q->(QM f y).ownBlock≠some q
theorem wj {E:Type}{R:Rep E}{w:World}{base:Nat}{e:TypeId}{T:Nat->Prop}{v:Value}{l:List E}(h:Qf R w base e T v l){q:Nat}(hq:v.ownBlock=some q):Z2 w q:=by
 obtain⟨xs,ho, -⟩:=h;rcases ho.2 with⟨rfl,_⟩|⟨g,cap,cur,rfl,hb,hg,_⟩
 ·simp[Value.ownBlock]at hq
 ·simp only[Value.ownBlock,Option.some.injEq]at hq;subst hq;exact⟨_,_,_,hg⟩
theorem Vd {M:Nat->Prop}{base:Nat}{v:Value}{l:List Nat}(h:Qf QF w base 3 No v l)(hc:Chg M w w')(hv:∀b,v.ownBlock=some b->¬M b):Qf QF w' base 3 No v l:=hc.own h hv (fun _ h=>h.elim)
theorem Zy.made (G:Xw Tryz.prog k κ)(w:World)(lo:Nat):Zy G (w.alloc (.map #[] 0)) lo w.heap.size 0 (fun _=>none) (fun _=>[]):=
 ⟨MapG.made G w,fun _=>Qf.nil,fun _ _ _ _ h=>by simp[QM,Value.ownBlock]at h⟩
theorem Zy.chg {M:Nat->Prop}(h:Zy G w lo mb n f F)(hc:Chg M w w')(h1:¬M mb)(h2:∀b,lo<=b->b<w.heap.size->¬M b):Zy G w' lo mb n f F:=
 ⟨hc.map h.map h1,fun x=>Vd (h.row x) hc fun b hb=>h2 b ((h.row x).block b hb).1 ((h.row x).block b hb).2,h.apart⟩
theorem Zy.ext (h:Zy G w lo mb n f F)(he:Ext w w'):Zy G w' lo mb n f F:=h.chg (M:=fun _=>False) (Chg.of_ext _ he) (fun h=>h) (fun _ _ _ h=>h)
theorem Zy.mono (h:Zy G w lo mb n f F){n':Nat}(hn:n<=n'):Zy G w lo mb n' f F:=⟨h.map.mono hn,h.row,h.apart⟩
theorem Zy.same {F':κ->List Nat}(h:Zy G w lo mb n f F)(he:∀x,F' x=F x):Zy G w lo mb n f F':=⟨h.map,fun x=>by rw[he];exact h.row x,h.apart⟩
theorem Zy.ne (h:Zy G w lo mb n f F)(x:κ){q:Nat}(hq:(QM f x).ownBlock=some q):q≠mb:=h.map.ne (wj (h.row x) hq)
theorem Zy.step [DecidableEq κ](h:Zy G w lo mb n f F){x:κ}{v':Value}{y:Nat}(hc:Chg (fun b=>b=mb\/(QM f x).ownBlock=some b) w w3)(hm:MapG G w3 mb (n+1) (fun j=>if j=x then some v' else f j))
  (ho:Qf QF w3 lo 3 No v' (F x ++ [y])) (hl:∀q,v'.ownBlock=some q->(QM f x).ownBlock=some q\/w.heap.size<=q):
  Zy G w3 lo mb (n+1) (fun j=>if j=x then some v' else f j) (fun j=>if j=x then F x ++ [y] else F j):=by
 have hx:QM (fun j=>if j=x then some v' else f j) x=v':=by simp[QM]
 have hy:∀b,b≠x->QM (fun j=>if j=x then some v' else f j) b=QM f b:=fun b hb=>by simp[QM,hb]
 have key:∀b,b≠x->∀q,v'.ownBlock=some q->(QM f b).ownBlock≠some q:=fun b hb q hq e=>by
  rcases hl q hq with h1|h1
  ·exact h.apart b x q hb e h1
  ·have:=((h.row b).block q e).2;omega
 refine⟨hm,fun b=>?_,fun b b' q hbb hq=>?_⟩
 ·by_cases hb:b=x
  ·subst hb;rw[hx];simp only[if_true];exact ho
  ·rw[hy b hb];simp only[if_neg hb];refine Vd (h.row b) hc fun q hq hM=>?_;rcases hM with hM|hM
   ·exact h.ne b hq hM
   ·exact h.apart b x q hb hq hM
 ·by_cases hb:b=x
  ·subst hb;rw[hx]at hq;rw[hy b' (Ne.symm hbb)];exact key b' (Ne.symm hbb) q hq
  ·rw[hy b hb]at hq;by_cases hb':b'=x
   ·subst hb';rw[hx];exact fun e=>key b hb q e hq
   ·rw[hy b' hb'];exact h.apart b b' q hbb hq
theorem cF [DecidableEq κ](x:κ)(v:Value):QM (fun j=>if j=x then some v else f j) x=v:=by simp[QM]
end
theorem eY (w:World):(zeroValue 26).run Tryz.prog w= .ok (.slice none 0 0) w:=Tryz.zeroValue26 w
end Go.Proofs.YtlmipgdnlfjpaaaGreat
