/- Merged by program from texts of my own. -/
import Derived.Test.YtlmipgdnlfjpaaaGreatSoGm
import Derived.Test.YtlmipgdnlfjpaaaGreatPlam
namespace Go.Proofs.YtlmipgdnlfjpaaaGreat
open Go.RowKit Go.Deco Go.Maps
set_option linter.unusedSimpArgs false
set_option linter.unusedVariables false
section
variable {k:TypeId}{κ:Type}{G:KeyG Tryz.prog k κ}{w w' V V1 w7 w3:World}{lo mb n:Nat}{f:κ→Option Value}{F:κ→List Nat}
theorem num_new (V:World)(j:Nat):(V.drew.alloc (.cells #[.int .i64 j] 3)).cell? ⟨V.heap.size,0,none⟩=some (.int .i64 j):=by simp[go_sem]
theorem MapO.app [DecidableEq κ](h:MapO G V lo mb n f F){x:κ}{o:Obj}{A7:Option Addr}{c7:Nat}{y:Nat}{W6:World}(hlo:lo≤V.heap.size)(h6:(V.drew.alloc o).grownBy W6 (some mb))(h6s:W6.heap.size=V.heap.size+1)
  (ho:OwnS natR w7 lo 3 No (.slice A7 ((F x).length+1) c7) (F x ++ [y])) (hg:W6.grownBy w7 (rowW f x).ownBlock) (hl:∀g,(Value.slice A7 ((F x).length+1) c7).ownBlock=some g→(rowW f x).ownBlock=some g∨W6.heap.size≤g)
  (hm:MapG G w3 mb (n+1) (fun j=>if j=x then some (.slice A7 ((F x).length+1) c7) else f j)) (hg3:w7.grownBy w3 (some mb)):
  MapO G w3 lo mb (n+1) (fun j=>if j=x then some (.slice A7 ((F x).length+1) c7) else f j) (fun j=>if j=x then F x ++ [y] else F j)∧Chg (fun b=>b=mb∨(rowW f x).ownBlock=some b) V w3:=by
 have hc:Chg (fun b=>b=mb∨(rowW f x).ownBlock=some b) V w3:=by
  have h1:Chg (fun b=>b=mb∨(rowW f x).ownBlock=some b) V (V.drew.alloc o):=Chg.of_ext _ ((Ext.refl V).drew.alloc o);exact((h1.trans (Chg.of_grown h6 (.inl rfl))).trans (Chg.of_grown' hg (fun b hb=> .inr hb))).trans (Chg.of_grown hg3 (.inl rfl))
 have hmb:=h.map.lt;refine⟨h.step hc hm (own_chg (M:=fun b=>b=mb) ho (Chg.of_grown hg3 rfl) (fun q hq=>?_)) (fun q hq=>?_),hc⟩
 ·rintro rfl;rcases hl _ hq with h1|h1
  ·exact h.ne x h1 rfl
  ·omega
 rcases hl q hq with h1|h1
 ·exact .inl h1
 ·exact .inr (by omega)
end
set_option maxRecDepth 100000 in
theorem cells_entry {V:World}{cm nc j:Nat}{fc:Pl→Option Value}{F:Pl→List Nat}(h:MapO plK V cm cm nc fc F)(hn:nc<maxLen)(x:Pl){q:Nat}{off:Int}(hx:x.1=((q:Int),off)):
  ∃ (st:Nat) (W6:World),(Instr.mapEntry 67 (.map (some cm)) (.agg #[.int .i64 q,.int .i64 off])).run Tryz.prog (V.drew.alloc (.cells #[.int .i64 j] 3))= .ok (.tuple #[rowW fc x,goInt st]) W6∧(V.drew.alloc (.cells #[.int .i64 j] 3)).grownBy W6 (some cm)∧W6.heap.size=V.heap.size+1∧OwnS natR W6 cm 3 No (rowW fc x) (F x)∧W6.cell? ⟨V.heap.size,0,none⟩=some (.int .i64 j)∧
   ∀(A7:Option Addr) (c7:Nat) (w7:World),OwnS natR w7 cm 3 No (.slice A7 ((F x).length+1) c7) (F x ++ [j])→W6.grownBy w7 (rowW fc x).ownBlock→(∀g,(Value.slice A7 ((F x).length+1) c7).ownBlock=some g→(rowW fc x).ownBlock=some g∨W6.heap.size≤g)→
    ∃w3,(Instr.entryStore 67 (.map (some cm)) (goInt st) (.slice A7 ((F x).length+1) c7)).run Tryz.prog w7= .ok () w3∧w7.grownBy w3 (some cm)∧w7.heap.size≥V.heap.size+1∧MapO plK w3 cm cm (nc+1) (fun p=>if p=x then some (.slice A7 ((F x).length+1) c7) else fc p) (fun p=>if p=x then F x ++ [j] else F p)∧Chg (fun b=>cm≤b) V w3:=by
 have h1:=h.map.ext ((Ext.refl V).drew.alloc (.cells #[.int .i64 j] 3));obtain⟨st,W6,hrun,hg,hs,hst⟩:=h1.entry place_law Tryz.underlying67 zero_ints hn (x:=x) trivial;have hval:plK.val x= .agg #[.int .i64 q,.int .i64 off]:=by show Value.agg #[.int .i64 x.1.1,.int .i64 x.1.2]=_;rw[hx]
 rw[hval]at hrun;have hs6:W6.heap.size=V.heap.size+1:=by rw[hs];simp
 have hlt:=h.map.lt;refine⟨st,W6,hrun,hg,hs6, ?_, ?_,fun A7 c7 w7 ho hg7 hl=>?_⟩
 ·exact own_chg (M:=fun b=>b=cm) ((h.row x).ext ((Ext.refl V).drew.alloc _)) (Chg.of_grown hg rfl) (fun q hq=>h.ne x hq)
 ·refine(World.cell?_of_block (hg.block V.heap.size (by simp) (fun e=>by injection e with e;omega))).trans (num_new V j)
 ·obtain⟨w3,hr3,hm3,hg3,hs3⟩:=hst w7 (.slice A7 ((F x).length+1) c7) (hg7.block cm (by omega) (fun e=>h.ne x e.symm rfl));obtain⟨k1,k2⟩:=h.app (w3:=w3) (Nat.le_of_lt hlt) hg hs6 ho hg7 hl hm3 hg3;exact⟨w3,hr3,hg3,by have:=hg7.size;omega,k1,k2.mono (fun b hb=>by rcases hb with hb|hb;omega;exact((h.row x).block b hb).1)⟩
theorem pl_look {w:World}{mb n:Nat}{f:Pl→Option Value}(h:MapG plK w mb n f)(x:Pl){q:Nat}{off:Int}(hx:x.1=((q:Int),off)):(Instr.lookup 67 (.map (some mb)) (.agg #[.int .i64 q,.int .i64 off]) false).run Tryz.prog w= .ok (rowW f x) w:=by
 obtain⟨D,h1,h2⟩:=h;have hrun:=(ownsMap_look h1 plK.law Tryz.underlying67 (z:= .slice none 0 0) (Tryz.zeroValue26 w) (plK.key (x:=x) trivial)).1;rw[←h2]at hrun;have hval:plK.val x= .agg #[.int .i64 q,.int .i64 off]:=by show Value.agg #[.int .i64 x.1.1,.int .i64 x.1.2]=_;rw[hx]
 rw[hval]at hrun;exact hrun
theorem cf_step {cf:Nat→Int→List Nat}{q:Nat}{off:Int}{F:Pl→List Nat}(hF:∀p:Pl,F p=if 0≤p.1.1 then cf p.1.1.toNat p.1.2 else []){x:Pl}(hx:x.1=((q:Int),off))(M:List Nat)(p:Pl):
  (if 0≤p.1.1 then (if p.1.1.toNat=q∧p.1.2=off then M else cf p.1.1.toNat p.1.2) else [])=if p=x then M else F p:=by
 by_cases hp:p=x
 ·subst hp;simp[hx]
 ·rw[if_neg hp,hF];by_cases h0:0≤p.1.1
  ·rw[if_pos h0,if_pos h0,if_neg];rintro⟨h1,h2⟩;apply hp;apply Subtype.ext;rw[hx];exact Prod.ext (by rw[←h1,Int.toNat_of_nonneg h0]) h2
  ·rw[if_neg h0,if_neg h0]
end Go.Proofs.YtlmipgdnlfjpaaaGreat
namespace Go.Proofs.YtlmipgdnlfjpaaaGreat
open Go.RowKit Go.Deco Go.Maps
set_option linter.unusedSimpArgs false
set_option linter.unusedVariables false
def Full {κ:Type}(f:κ→Option Value)(F:κ→List Nat):Prop:=∀x,f x≠none→F x≠[]
theorem MapO.there {k:TypeId}{κ:Type}{G:KeyG Tryz.prog k κ}{w:World}{lo mb n:Nat}{f:κ→Option Value}{F:κ→List Nat}(h:MapO G w lo mb n f F){x:κ}(hx:F x≠[]):f x≠none:=by
 intro e;have h1:=h.row x;unfold rowW at h1;rw[e]at h1;have:=h1.len;exact hx (List.length_eq_zero_iff.1 this.symm)
structure OffM (w:World)(lo ob n:Nat)(fo:Int→Option Value)(ib:Int→Nat)(fi:Int→Int→Option Value)(F:Int→Int→List Nat):Prop where
 map:MapG (intK Tryz.underlying3) w ob n fo
 no:∀q,fo q=none→∀o,F q o=[]
 yes:∀q v,fo q=some v→v= .map (some (ib q))∧lo≤ib q∧MapO (intK Tryz.underlying3) w lo (ib q) n (fi q) (F q)
 mapA:∀q q' v v',q≠q'→fo q=some v→fo q'=some v'→ib q≠ib q'
 rowA:∀q q' v v' o o' g,q≠q'→fo q=some v→fo q'=some v'→(rowW (fi q) o).ownBlock=some g→(rowW (fi q') o').ownBlock≠some g
section
variable {w w' w3:World}{lo ob n:Nat}{fo:Int→Option Value}{ib:Int→Nat}{fi:Int→Int→Option Value}{F:Int→Int→List Nat}
theorem OffM.made (h:MapG (intK Tryz.underlying3) w ob 0 (fun _=>none))(lo:Nat):OffM w lo ob 0 (fun _=>none) (fun _=>0) (fun _ _=>none) (fun _ _=>[]):=
 ⟨h,fun _ _ _=>rfl,fun _ _ h=>(by cases h),fun _ _ _ _ _ h=>(by cases h),fun _ _ _ _ _ _ _ _ h=>(by cases h)⟩
theorem OffM.chg {M:Nat→Prop}(h:OffM w lo ob n fo ib fi F)(hc:Chg M w w')(h1:¬M ob)(h2:∀b,lo≤b→b<w.heap.size→¬M b):OffM w' lo ob n fo ib fi F:=
 ⟨hc.map h.map h1,h.no,fun q v hq=>⟨(h.yes q v hq).1,(h.yes q v hq).2.1,(h.yes q v hq).2.2.chg hc (h2 _ (h.yes q v hq).2.1 (h.yes q v hq).2.2.map.lt) h2⟩,h.mapA,h.rowA⟩
theorem OffM.ext (h:OffM w lo ob n fo ib fi F)(he:Ext w w'):OffM w' lo ob n fo ib fi F:=h.chg (M:=fun _=>False) (Chg.of_ext _ he) (fun h=>h) (fun _ _ _ h=>h)
theorem OffM.mono (h:OffM w lo ob n fo ib fi F){n':Nat}(hn:n≤n'):OffM w lo ob n' fo ib fi F:=⟨h.map.mono hn,h.no,fun q v hq=>⟨(h.yes q v hq).1,(h.yes q v hq).2.1,(h.yes q v hq).2.2.mono hn⟩,h.mapA,h.rowA⟩
theorem OffM.same {F':Int→Int→List Nat}(h:OffM w lo ob n fo ib fi F)(he:∀q o,F' q o=F q o):OffM w lo ob n fo ib fi F':=
 ⟨h.map,fun q hq o=>by rw[he];exact h.no q hq o,fun q v hq=>⟨(h.yes q v hq).1,(h.yes q v hq).2.1,(h.yes q v hq).2.2.same (he q)⟩,h.mapA,h.rowA⟩
theorem OffM.new (h:OffM w lo ob n fo ib fi F){q:Int}(hq:fo q=none)(hlo:lo≤w.heap.size)(hob:ob<lo)(hm:MapG (intK Tryz.underlying3) w3 ob (n+1) (fun j=>if j=q then some (.map (some w.heap.size)) else fo j))(hg:(w.alloc (.map #[] 0)).grownBy w3 (some ob)):
  OffM w3 lo ob (n+1) (fun j=>if j=q then some (.map (some w.heap.size)) else fo j) (fun j=>if j=q then w.heap.size else ib j) (fun j=>if j=q then fun _=>none else fi j) F:=by
 have he:Ext w (w.alloc (.map #[] 0)):=(Ext.refl w).alloc _;have hc:Chg (fun b=>b=ob) (w.alloc (.map #[] 0)) w3:=Chg.of_grown hg rfl;have hne:∀j v,fo j=some v→j≠q:=fun j v hv e=>by rw[e,hq]at hv;cases hv
 have hlt:∀j v,fo j=some v→ib j<w.heap.size:=fun j v hv=>(h.yes j v hv).2.2.map.lt
 have hif:∀j v,(if j=q then some (Value.map (some w.heap.size)) else fo j)=some v→(j=q∧v= .map (some w.heap.size))∨(j≠q∧fo j=some v):=fun j v hv=>by
  by_cases hj:j=q
  ·rw[if_pos hj]at hv;injection hv with hv;exact .inl ⟨hj,hv.symm⟩
  ·rw[if_neg hj]at hv;exact .inr ⟨hj,hv⟩
 refine⟨hm,fun j hj o=>?_,fun j v hv=>?_,fun j j' v v' hjj hv hv'=>?_,fun j j' v v' o o' g hjj hv hv' hg1=>?_⟩
 ·by_cases hjq:j=q
  ·rw[if_pos hjq]at hj;cases hj
  ·rw[if_neg hjq]at hj;exact h.no j hj o
 ·rcases hif j v hv with⟨rfl,rfl⟩|⟨hj,hv⟩
  ·refine⟨by simp,by simpa using hlo, ?_⟩;simp only[if_true];have h1:=(MapO.made (intK Tryz.underlying3) w lo).mono (Nat.zero_le (n+1));exact(h1.chg hc (by omega) (fun b hb _=>by omega)).same (fun o=>h.no _ hq o)
  ·simp only[if_neg hj];obtain⟨h1,h2,h3⟩:=h.yes j v hv;exact⟨h1,h2,((h3.ext he).mono (Nat.le_succ n)).chg hc (by omega) (fun b hb _=>by omega)⟩
 ·rcases hif j v hv with⟨rfl,rfl⟩|⟨hj,hu⟩ <;> rcases hif j' v' hv' with⟨rfl,rfl⟩|⟨hj',hu'⟩
  ·exact absurd rfl hjj
  ·simp only[if_true,if_neg hj'];have:=hlt _ _ hu';omega
  ·simp only[if_true,if_neg hj];have:=hlt _ _ hu;omega
  ·simp only[if_neg hj,if_neg hj'];exact h.mapA j j' v v' hjj hu hu'
 ·rcases hif j v hv with⟨rfl,rfl⟩|⟨hj,hu⟩ <;> rcases hif j' v' hv' with⟨rfl,rfl⟩|⟨hj',hu'⟩
  ·exact absurd rfl hjj
  ·simp[rowW,Value.ownBlock]at hg1
  ·simp[rowW,Value.ownBlock]
  ·simp only[if_neg hj]at hg1;simp only[if_neg hj'];exact h.rowA j j' v v' o o' g hjj hu hu' hg1
theorem OffM.step (h:OffM w lo ob n fo ib fi F){q:Int}{v:Value}(hq:fo q=some v)(hlo:lo≤w.heap.size)(hob:ob<lo){x:Int}{v':Value}{y:Nat}
  (hm:MapO (intK Tryz.underlying3) w3 lo (ib q) (n+1) (fun j=>if j=x then some v' else fi q j) (fun j=>if j=x then F q x ++ [y] else F q j))
  (hc:Chg (fun b=>b=ib q∨(rowW (fi q) x).ownBlock=some b) w w3) (hl:∀g,v'.ownBlock=some g→(rowW (fi q) x).ownBlock=some g∨w.heap.size≤g):
  OffM w3 lo ob (n+1) fo ib (fun j=>if j=q then fun o=>if o=x then some v' else fi q o else fi j) (fun j o=>if j=q∧o=x then F q x ++ [y] else F j o):=by
 obtain⟨hv1,hv2,hv3⟩:=h.yes q v hq;have hrb:∀g,(rowW (fi q) x).ownBlock=some g→lo≤g:=fun g hg=>((hv3.row x).block g hg).1;refine⟨(hc.map h.map (fun e=>?_)).mono (Nat.le_succ n),fun j hj o=>?_,fun j u hu=>?_,h.mapA,fun j j' u u' o o' g hjj hu hu' hg1 hg2=>?_⟩
 ·rcases e with e|e
  ·omega
  ·have:=hrb _ e;omega
 ·have hjq:j≠q:=fun e=>by rw[e,hq]at hj;cases hj
  rw[if_neg (fun e=>hjq e.1)];exact h.no j hj o
 ·by_cases hjq:j=q
  ·subst hjq;rw[hq]at hu;cases hu;refine⟨hv1,hv2, ?_⟩;simp only[if_true];refine hm.same (fun o=>?_);by_cases ho:o=x
   ·simp[ho]
   ·simp[ho]
  ·obtain⟨h1,h2,h3⟩:=h.yes j u hu;simp only[if_neg hjq];refine⟨h1,h2,⟨hc.map (h3.map.mono (Nat.le_succ n)) (fun e=>?_),fun o=>?_,h3.apart⟩⟩
   ·rcases e with e|e
    ·exact h.mapA j q u v hjq hu hq e
    ·exact h3.map.ne (own_isCells (hv3.row x) e) rfl
   ·have hr:=own_chg (h3.row o) hc (fun g hg e=>by
     rcases e with e|e
     ·exact hv3.map.ne (own_isCells (h3.row o) hg) e
     ·exact h.rowA j q u v o x g hjq hu hq hg e)
    have hF:(if j=q∧o=x then F q x ++ [y] else F j o)=F j o:=if_neg fun e=>hjq e.1;rw[hF];exact hr
 ·have key:∀(j:Int) u o,j≠q→fo j=some u→(rowW (fi j) o).ownBlock=some g→∀o',(rowW (fun o=>if o=x then some v' else fi q o) o').ownBlock≠some g:=fun j u o hjq hu hg o' e=>by
   by_cases ho:o'=x
   ·rw[ho,rowW_put]at e;rcases hl g e with e|e
    ·exact h.rowA j q u v o x g hjq hu hq hg e
    ·have:=(((h.yes j u hu).2.2.row o).block g hg).2;omega
   ·have:rowW (fun o=>if o=x then some v' else fi q o) o'=rowW (fi q) o':=by simp[rowW,ho]
    rw[this]at e;exact h.rowA j q u v o o' g hjq hu hq hg e
  by_cases hjq:j=q
  ·subst hjq;have hj':j'≠j:=fun e=>hjj e.symm;simp only[if_true]at hg1;simp only[if_neg hj']at hg2;exact key j' u' o' hj' hu' hg2 o hg1
  ·simp only[if_neg hjq]at hg1;by_cases hjq':j'=q
   ·subst hjq';simp only[if_true]at hg2;exact key j u o hjq hu hg1 o' hg2
   ·simp only[if_neg hjq']at hg2;exact h.rowA j j' u u' o o' g hjj hu hu' hg1 hg2
end
theorem MapO.appP {k:TypeId}{κ:Type}{G:KeyG Tryz.prog k κ}{V w7 w3:World}{lo mb n:Nat}{f:κ→Option Value}{F:κ→List Nat}[DecidableEq κ](h:MapO G V lo mb n f F){x:κ}{o:Obj}{A7:Option Addr}{c7:Nat}{y:Nat}(hlo:lo≤V.heap.size)
  (ho:OwnS natR w7 lo 3 No (.slice A7 ((F x).length+1) c7) (F x ++ [y])) (hg:(V.drew.alloc o).grownBy w7 (rowW f x).ownBlock) (hl:∀g,(Value.slice A7 ((F x).length+1) c7).ownBlock=some g→(rowW f x).ownBlock=some g∨(V.drew.alloc o).heap.size≤g)
  (hm:MapG G w3 mb (n+1) (fun j=>if j=x then some (.slice A7 ((F x).length+1) c7) else f j)) (hg3:w7.grownBy w3 (some mb)):
  MapO G w3 lo mb (n+1) (fun j=>if j=x then some (.slice A7 ((F x).length+1) c7) else f j) (fun j=>if j=x then F x ++ [y] else F j)∧Chg (fun b=>b=mb∨(rowW f x).ownBlock=some b) V w3:=
 h.app hlo (Ext.grownBy (Ext.refl _) (some mb)) (by simp) ho hg hl hm hg3
end Go.Proofs.YtlmipgdnlfjpaaaGreat
namespace Go.Proofs.YtlmipgdnlfjpaaaGreat
open Go.RowKit Go.Deco Go.Maps
set_option linter.unusedSimpArgs false
set_option linter.unusedVariables false
section
variable {ops:Array Oper}{rest:List Oper}{o:Oper}{a:Act}{Q:Exit→Act→World→Prop}{W:World}
theorem wpList_at_lk (t:TypeId)(m x:Operand)(_hgd:o.guard=none)(_ho:o.op= .lookup t m x false)(h:wpList Tryz.prog ops Q (o :: rest) a W):wpList Tryz.prog ops Q (o :: rest) a W:=h
theorem wpList_lookR (hgd:o.guard=none)(m x:Operand)(t:TypeId)(ho:o.op= .lookup t m x false){v:Value}(hrun:(Instr.lookup t (a.eval m) (a.eval x) false).run Tryz.prog W= .ok v W)(h:wpList Tryz.prog ops Q rest (a.put o.dst v) W):
  wpList Tryz.prog ops Q (o :: rest) a W:=
 wpList_plain hgd fun _ hK=>by
  unfold Oper.wp;simp[execOp,ho,hrun,Result.andThen];exact hK _ _ h
end
section
variable {w:World}{lo ob mb n:Nat}{fo:Int→Option Value}{ib:Int→Nat}{fi:Int→Int→Option Value}{F:Int→Int→List Nat}{f:Int→Option Value}
theorem off_look (h:MapG (intK Tryz.underlying3) w ob n fo){q:Int}(hq:i64b q):(Instr.lookup 68 (.map (some ob)) (.int .i64 q) false).run Tryz.prog w= .ok ((fo q).getD (.map none)) w:=by
 obtain⟨D,h1,h2⟩:=h;have hrun:=(ownsMap_look h1 (intK Tryz.underlying3).law Tryz.underlying68 (z:= .map none) (Tryz.zeroValue93 w) ((intK Tryz.underlying3).key hq)).1;rw[←h2]at hrun;exact hrun
theorem row_look (h:MapG (intK Tryz.underlying3) w mb n f){q:Int}(hq:i64b q):(Instr.lookup 93 (.map (some mb)) (.int .i64 q) false).run Tryz.prog w= .ok (rowW f q) w:=by
 obtain⟨D,h1,h2⟩:=h;have hrun:=(ownsMap_look h1 (intK Tryz.underlying3).law Tryz.underlying93 (z:= .slice none 0 0) (Tryz.zeroValue26 w) ((intK Tryz.underlying3).key hq)).1;rw[←h2]at hrun;exact hrun
theorem dir_look (h:MapG (intK Tryz.underlying3) w mb n f){q:Int}(hq:i64b q):(Instr.lookup 69 (.map (some mb)) (.int .i64 q) false).run Tryz.prog w= .ok ((f q).getD (.bool false)) w:=by
 obtain⟨D,h1,h2⟩:=h;have hrun:=(ownsMap_look h1 (intK Tryz.underlying3).law Tryz.underlying69 (z:= .bool false) (Tryz.zeroValue4 w) ((intK Tryz.underlying3).key hq)).1;rw[←h2]at hrun;exact hrun
end
theorem offs_app {V w7:World}{lo ob n:Nat}{fo:Int→Option Value}{ib:Int→Nat}{fi:Int→Int→Option Value}{F:Int→Int→List Nat}(h:OffM V lo ob n fo ib fi F){q:Int}{v:Value}(hq:fo q=some v)(hlo:lo≤V.heap.size)(hob:ob<lo)
  {x:Int} {y:Nat} {A7:Option Addr} {c7:Nat} {o:Obj} (ho:OwnS natR w7 lo 3 No (.slice A7 ((F q x).length+1) c7) (F q x ++ [y])) (hg:(V.drew.alloc o).grownBy w7 (rowW (fi q) x).ownBlock)
  (hl:∀g,(Value.slice A7 ((F q x).length+1) c7).ownBlock=some g→(rowW (fi q) x).ownBlock=some g∨(V.drew.alloc o).heap.size≤g):
  MapG (intK Tryz.underlying3) w7 (ib q) n (fi q)∧∀w3,MapG (intK Tryz.underlying3) w3 (ib q) (n+1) (fun j=>if j=x then some (.slice A7 ((F q x).length+1) c7) else fi q j)→w7.grownBy w3 (some (ib q))→
   OffM w3 lo ob (n+1) fo ib (fun j=>if j=q then fun o=>if o=x then some (.slice A7 ((F q x).length+1) c7) else fi q o else fi j) (fun j o=>if j=q∧o=x then F q x ++ [y] else F j o)∧Chg (fun b=>lo≤b) V w3:=by
 obtain⟨h1,h2,h3⟩:=h.yes q v hq;refine⟨(h3.map.ext ((Ext.refl V).drew.alloc o)).kept hg (fun e=>h3.ne x e.symm rfl),fun w3 hm hg3=>?_⟩;obtain⟨k1,k2⟩:=h3.appP hlo ho hg hl hm hg3;refine⟨h.step hq hlo hob k1 k2 (fun g hg'=>?_),k2.mono (fun b hb=>?_)⟩
 ·rcases hl g hg' with e|e
  ·exact .inl e
  ·exact .inr (by have:(V.drew.alloc o).heap.size=V.heap.size+1:=by simp
                  omega)
 ·rcases hb with hb|hb
  ·omega
  ·exact((h3.row x).block b hb).1
def accF (l:List Con)(r:Nat→Nat)(m:Nat)(q o:Int):List Nat:=if 0≤q then accK l r m q.toNat o else []
def dirF (l:List Con)(r:Nat→Nat)(m:Nat)(q:Int):Option Value:=if 0≤q∧dirK l r m q.toNat=true then some (.bool true) else none
section
variable {l:List Con}{r:Nat→Nat}{m:Nat}{c:Con}
theorem accF_zero (q o:Int):accF l r 0 q o=[]:=by unfold accF accK;simp
theorem dirF_zero (q:Int):dirF l r 0 q=none:=by unfold dirF dirK;simp
theorem accF_step (hc:l[m]? =some c)(ha:accC c=true){p:Nat}(hp:r c.a.toNat=p)(q o:Int):accF l r (m+1) q o=if q=(p:Int)∧o=c.off then accF l r m p c.off ++ [m] else accF l r m q o:=by
 unfold accF;by_cases h:q=(p:Int)∧o=c.off
 ·obtain⟨rfl,rfl⟩:=h;rw[if_pos (by omega),if_pos ⟨rfl,rfl⟩,accK_step hc,if_pos ⟨ha,by rw[hp,Int.toNat_natCast],rfl⟩,if_pos (by omega)]
 ·rw[if_neg h];by_cases h0:0≤q
  ·rw[if_pos h0,if_pos h0,accK_step hc,if_neg (fun e=>h ⟨by rw[←hp,e.2.1,Int.toNat_of_nonneg h0],e.2.2.symm⟩)]
  ·rw[if_neg h0,if_neg h0]
theorem accF_skip (hc:l[m]? =some c)(ha:accC c=false)(q o:Int):accF l r (m+1) q o=accF l r m q o:=by
 unfold accF;rw[accK_step hc,if_neg (c:=accC c=true∧_) (fun e=>by rw[ha]at e;cases e.1)]
theorem accF_len (q o:Int):(accF l r m q o).length≤m:=by
 unfold accF accK
 split
 ·exact Nat.le_trans (List.length_filter_le _ _) (by simp)
 ·simp
theorem dirF_step (hc:l[m]? =some c)(h1:c.kind=1)(h2:c.type.kind≠0){p:Nat}(hp:r c.a.toNat=p)(q:Int):dirF l r (m+1) q=if q=(p:Int) then some (.bool true) else dirF l r m q:=by
 unfold dirF;rw[dirK_step hc,hp,h1];by_cases hq:q=(p:Int)
 ·subst hq;simp[h2]
 ·rw[if_neg hq];by_cases h0:0≤q
  ·have:¬p=q.toNat:=fun e=>hq (by rw[e,Int.toNat_of_nonneg h0]);simp[this]
  ·rw[if_neg (fun e=>h0 e.1),if_neg (fun e=>h0 e.1)]
theorem dirF_skip (hc:l[m]? =some c)(h:¬(c.kind=1∧c.type.kind≠0))(q:Int):dirF l r (m+1) q=dirF l r m q:=by
 unfold dirF;rw[dirK_step hc]
 have:(decide (c.kind=1) && decide (c.type.kind≠0) && decide (r c.a.toNat=q.toNat))=false:=by
  rw[←Bool.decide_and,decide_eq_false h,Bool.false_and]
 rw[this,Bool.or_false]
end
end Go.Proofs.YtlmipgdnlfjpaaaGreat
namespace Go.Proofs.YtlmipgdnlfjpaaaGreat
open Go.RowKit Go.Deco Go.Maps
set_option linter.unusedSimpArgs false
set_option linter.unusedVariables false
def svL (vl:Value)(n tb cb rb db ob:Nat)(v2 v3 v6 v7:Value):List Value:=[vl,.int .i64 n,v2,v3,.map (some ob),.map (some db),v6,v7,.map (some tb),.map (some cb),.map (some rb)]
def ParQ (w:World)(PA:Option Addr)(pb cap N:Nat)(P:List Nat):Prop:=P.length=N∧DnP P∧(N=0∨(PA=some ⟨pb,0,none⟩∧ParR w pb cap P))
theorem ParQ.keep {w w':World}{PA:Option Addr}{pb cap N:Nat}{P:List Nat}(h:ParQ w PA pb cap N P)(hk:0<N→pb<w.heap.size→w'.heap[pb]? =w.heap[pb]?):ParQ w' PA pb cap N P:=by
 refine⟨h.1,h.2.1, ?_⟩;rcases Nat.eq_zero_or_pos N with h0|h0
 ·exact .inl h0
 ·rcases h.2.2 with h1|h1
  ·exact .inl h1
  ·exact .inr ⟨h1.1,h1.2.keep (hk h0 h1.2.lt)⟩
theorem ParQ.ext {w w':World}{PA:Option Addr}{pb cap N:Nat}{P:List Nat}(h:ParQ w PA pb cap N P)(he:Ext w w'):ParQ w' PA pb cap N P:=
 ⟨h.1,h.2.1,h.2.2.imp id fun k=>⟨k.1,k.2.ext he⟩⟩
theorem ParQ.pos {w:World}{PA:Option Addr}{pb cap N:Nat}{P:List Nat}(h:ParQ w PA pb cap N P)(hN:0<N):PA=some ⟨pb,0,none⟩∧ParR w pb cap P:=by
 rcases h.2.2 with h|h
 ·omega
 ·exact h
theorem sv_app {w w5:World}{o:Obj}{b lo:Nat}{v:Value}{L:List Value}(h:BoxL w b L)(hg:(w.alloc o).grownBy w5 v.ownBlock)(hv:∀g,v.ownBlock=some g→lo≤g)(hb:b<lo):BoxL w5 b L:=by
 have h1:=h.ext ((Ext.refl w).alloc o);exact h1.keep (hg.block b h1.2.2 fun e=>by have:=hv b e.symm;omega) hg.size
theorem Chg.pb {M:Nat→Prop}{w w':World}{k:Nat}(h:Chg M w w')(hk:k<w.heap.size)(hn:¬M k):w'.heap[k]? =w.heap[k]? :=h.block k hk hn
def parSum (w:World)(pb N:Nat):Nat:=match w.heap[pb]? with
 |some (.cells cur _ _)=>((cur.toList.take N).map fun v=>match v with| .int _ x=>x.toNat|_=>0).sum
 |_=>0
theorem parSum_eq {w:World}{PA:Option Addr}{pb cap N:Nat}{P:List Nat}(h:ParQ w PA pb cap N P):parSum w pb N=P.sum:=by
 obtain⟨h1,h2,h3⟩:=h;rcases h3 with h3|⟨_,⟨xs,⟨hx1,hx2⟩,hx3⟩,_⟩
 ·subst h3;rw[List.length_eq_zero_iff.1 h1];unfold parSum
  split <;> simp
 ·rcases hx2 with⟨hv,_⟩|⟨g,cap',cur,hv,hb,hg,hle,_,_,ht⟩
  ·cases hv
  ·injection hv with hv _ _
   injection hv with hv
   injection hv with hv
   subst hv;unfold parSum;rw[hg];have h4:=(chunks_num.1 hx3).1
   have h5:cur.toList.take N=P.map (fun x:Nat=>Value.int .i64 x):=by
    rw[←h4,←ht,h1];show _=List.take (N * 1) _;rw[Nat.mul_one]
   simp only;rw[h5,List.map_map]
   congr 1
   conv=>rhs;rw[←List.map_id P]
   exact List.map_congr_left fun x _=>by simp
theorem newPl (w:World):∃wA sz,w.alloc (.cells #[.int .i64 0,.int .i64 0] 92)=wA∧w.heap.size=sz∧Ext w wA∧Box2 wA sz (.int .i64 0) (.int .i64 0)∧wA.heap.size=sz+1:=⟨_,_,rfl,rfl,(Ext.refl w).alloc _,Box2.new w _ _ _,by simp⟩
theorem _root_.Go.Deco.MapG.kept' {P:Program}{k:TypeId}{κ:Type}{G:KeyG P k κ}{w w':World}{b n:Nat}{f:κ→Option Value}{M:Nat→Prop}(h:MapG G w b n f)(hc:Chg M w w')(hn:¬M b):MapG G w' b n f:=hc.map h hn
theorem acc_ne1 {c:Con}(h:accC c=true):¬(c.kind=1∧c.type.kind≠0):=fun e=>by
 unfold accC at h;rw[e.1]at h
 revert h
 decide
theorem nf_step {fo:Int→Option Value}{fi:Int→Int→Option Value}{F:Int→Int→List Nat}{q x:Int}{y:Nat}{v':Value}(h1:∀q',q'≠q→∀v,fo q'=some v→∃o,F q' o≠[])(h2:∀q',Full (fi q') (F q')):
  (∀q' v,fo q'=some v→∃o,(if q'=q∧o=x then F q x ++ [y] else F q' o)≠[])∧∀q',Full ((fun j=>if j=q then fun o=>if o=x then some v' else fi q o else fi j) q') (fun o=>if q'=q∧o=x then F q x ++ [y] else F q' o):=by
 refine⟨fun q' v hv=>?_,fun q' o ho=>?_⟩
 ·by_cases hq:q'=q
  ·exact⟨x,by rw[if_pos ⟨hq,rfl⟩];simp⟩
  ·obtain⟨o,h⟩:=h1 q' hq v hv;exact⟨o,by rw[if_neg (fun e=>hq e.1)];exact h⟩
 ·show(if q'=q∧o=x then F q x ++ [y] else F q' o)≠[];by_cases hh:q'=q∧o=x
  ·rw[if_pos hh];simp
  ·rw[if_neg hh];apply h2 q' o;intro e;apply ho;by_cases hq:q'=q
   ·subst hq;have hx:¬o=x:=fun e=>hh ⟨rfl,e⟩;simp[hx,e]
   ·simp[hq,e]
structure SvDat where
 b0:Nat
 pb:Nat
 cap:Nat
 cm:Nat
 nc:Nat
 lo:Nat
 no:Nat
 nd:Nat
 PA:Option Addr
 fc:Pl→Option Value
 fo:Int→Option Value
 ib:Int→Nat
 fi:Int→Int→Option Value
 /-- Whether the maps of results may change. -/
 mx:Prop
structure SvBase (D:SvDat)(W:World)(l:List Con)(n:Nat)(P:List Nat):Prop where
 cls:ClassR l n (rootP P)
 cells:MapO plK W D.cm D.cm D.nc D.fc (fun p=>if 0≤p.1.1 then placeL l (rootP P) (p.1.1.toNat,p.1.2) else [])
 offs:OffM W D.lo (D.b0+4) D.no D.fo D.ib D.fi (accF l (rootP P) l.length)
 some':∀q v,D.fo q=some v→∃o,accF l (rootP P) l.length q o≠[]
 full:∀q,Full (D.fi q) (accF l (rootP P) l.length q)
 dir:MapG (intK Tryz.underlying3) W (D.b0+3) D.nd (dirF l (rootP P) l.length)
 hcm:D.b0+6≤D.cm
 hlo:D.cm<D.lo
 hsz:D.lo≤W.heap.size
 hpb:D.b0+6≤D.pb∧(0<n+l.length→D.pb<D.cm)
 rows:∀x g,(rowW D.fc x).ownBlock=some g→g<D.lo
 hn:D.nc≤l.length∧D.no≤2 * l.length∧D.nd≤l.length
def NewIs (vl:Value)(l:List Con)(n:Nat)(w:World)(e:Ending)(w':World):Prop:=∃(D:SvDat) (P:List Nat),e= .returned (.pointer (some ⟨D.b0+5,0,none⟩))∧w.heap.size≤D.b0∧SvBase D w' l n P∧
 BoxL w' (D.b0+5) (svL vl n D.b0 (D.b0+1) (D.b0+2) (D.b0+3) (D.b0+4) (.slice D.PA (n+l.length) D.cap) (.map (some D.cm)) (.slice none 0 0) (.slice none 0 0))∧ParQ w' D.PA D.pb D.cap (n+l.length) P∧
 MapG (intK Tryz.underlying3) w' D.b0 0 (fun _=>none)∧MapG (intK Tryz.underlying3) w' (D.b0+1) 0 (fun _=>none)∧MapG (intK Tryz.underlying3) w' (D.b0+2) 0 (fun _=>none)∧Ext w w'
end Go.Proofs.YtlmipgdnlfjpaaaGreat
namespace Go.Proofs.YtlmipgdnlfjpaaaGreat
open Go.RowKit Go.Deco Go.Maps
set_option linter.unusedSimpArgs false
set_option linter.unusedVariables false
theorem _root_.Go.Deco.MapG.size_pos {P:Program}{k:TypeId}{κ:Type}{G:KeyG P k κ}{w:World}{b n:Nat}{f:κ→Option Value}(h:MapG G w b n f){t e:TypeId}(ht:P.underlying t=some (.map k e)){x:κ}(hx:f x≠none):
  ∃m,0<m∧m≤n∧∀ty,(Builtin.len_ #[t] ty #[.map (some b)]).run P w= .ok (.int .i64 (m:Nat)) w:=by
 obtain⟨D,h1,h2⟩:=h;refine⟨Maps.size D, ?_,h1.size_le,fun ty=>h1.len ht ty⟩;rw[h2]at hx
 cases D with
 |map es=>
  cases es with
  |nil=>exact absurd (by simp[lookV,DataW.atKey]) hx
  |cons y r=>simp [Maps.size]
 |_=>exact absurd (by simp[lookV,DataW.atKey]) hx
section
variable {ops:Array Oper}{rest:List Oper}{o:Oper}{a:Act}{Q:Exit→Act→World→Prop}{W:World}
theorem wpList_at_lenM (t:TypeId)(m:Operand)(_hgd:o.guard=none)(_ho:o.op= .call {callee:= .builtin .len,args:= #[m],argTypes:= #[t]})(h:wpList Tryz.prog ops Q (o :: rest) a W):wpList Tryz.prog ops Q (o :: rest) a W:=h
theorem wpList_lenM (hgd:o.guard=none)(m:Operand)(t:TypeId)(ho:o.op= .call {callee:= .builtin .len,args:= #[m],argTypes:= #[t]}){v:Value}(hrun:∀ty,(Builtin.len_ #[t] ty #[a.eval m]).run Tryz.prog W= .ok v W)(h:wpList Tryz.prog ops Q rest (a.put o.dst v) W):
  wpList Tryz.prog ops Q (o :: rest) a W:=
 wpList_plain hgd fun _ hK=>by
  unfold Oper.wp execOp;simp only[ho,resolve,invoke,builtin,Sem.run_bind,Sem.run_pure,Result.andThen_ok,List.map_toArray,List.map_cons,List.map_nil,hrun];exact hK _ _ h
end
structure SvSt (d:Nat)(D:SvDat)(w0 W0:World)(vl:Value)(l:List Con)(n:Nat)(P0:List Nat):Prop where
 sl:Sl (conR (tyR d)) w0 All vl l
 ext:Ext w0 W0
 lt:w0.heap.size≤D.b0
 base:SvBase D W0 l n P0
 ok:∀c∈l,OkC n c
 hn:n≤65536
 hm:l.length≤65536
def Mut (D:SvDat)(b:Nat):Prop:=(b=D.pb∧D.pb<D.cm)∨(D.mx∧b=D.b0)∨(D.mx∧b=D.b0+1)∨(D.mx∧b=D.b0+2)∨b=D.b0+5
structure SvNow (D:SvDat)(W0 W:World)(vl:Value)(l:List Con)(n:Nat)(P0 P:List Nat)(v6 v7:Value):Prop where
 chg:Chg (Mut D) W0 W
 box:BoxL W (D.b0+5) (svL vl n D.b0 (D.b0+1) (D.b0+2) (D.b0+3) (D.b0+4) (.slice D.PA (n+l.length) D.cap) (.map (some D.cm)) v6 v7)
 par:ParQ W D.PA D.pb D.cap (n+l.length) P
 same:SameP P0 P
section
variable {d:Nat}{D:SvDat}{w0 W0 W W':World}{vl:Value}{l:List Con}{n:Nat}{P0 P P':List Nat}{v6 v7:Value}
theorem SvNow.ext (h:SvNow D W0 W vl l n P0 P v6 v7)(he:Ext W W'):SvNow D W0 W' vl l n P0 P v6 v7:=⟨h.chg.ext he,h.box.ext he,h.par.ext he,h.same⟩
theorem SvNow.find (S:SvSt d D w0 W0 vl l n P0)(h:SvNow D W0 W vl l n P0 P v6 v7)(hN:0<n+l.length)(hs:SameP P P')(hp:ParR W' D.pb D.cap P')(hc:Chg (fun b=>b=D.pb) W W'):SvNow D W0 W' vl l n P0 P' v6 v7:=
 ⟨h.chg.trans' hc (fun b hb=> .inl (.inl ⟨hb,S.base.hpb.2 hN⟩)),h.box.chg hc (fun e=>by have:=S.base.hpb.1;omega),⟨hs.len.trans h.par.1,hs.dn,.inr ⟨(h.par.pos hN).1,hp⟩⟩,h.same.trans hs⟩
theorem SvNow.far {M:Nat→Prop}(S:SvSt d D w0 W0 vl l n P0)(h:SvNow D W0 W vl l n P0 P v6 v7)(hc:Chg M W W')(hM:∀b,M b→W0.heap.size≤b∨(D.mx∧b=D.b0)∨(D.mx∧b=D.b0+1)∨(D.mx∧b=D.b0+2)):SvNow D W0 W' vl l n P0 P v6 v7:=by
 have hb:=S.base;have h1:=hb.hcm;have h2:=hb.hlo;have h3:=hb.hsz;have h4:=hb.hpb;refine⟨h.chg.trans' hc (fun b hb=>?_),h.box.chg hc (fun e=>?_),h.par.keep (fun hN hlt=>hc.block _ hlt (fun e=>?_)),h.same⟩
 ·rcases hM b hb with e|e|e|e
  ·exact .inr e
  ·exact .inl (.inr (.inl e))
  ·exact .inl (.inr (.inr (.inl e)))
  ·exact .inl (.inr (.inr (.inr (.inl e))))
 ·have:=hM _ e;omega
 ·have:=hM _ e;have:=h4.2 hN;omega
theorem SvNow.old (S:SvSt d D w0 W0 vl l n P0)(h:SvNow D W0 W vl l n P0 P v6 v7):Ext w0 W:=Chg.old S.ext h.chg (fun b hb=>by
 have h1:=S.lt;have h2:=S.base.hpb;unfold Mut at hb;omega)
theorem SvNow.cells (S:SvSt d D w0 W0 vl l n P0)(h:SvNow D W0 W vl l n P0 P v6 v7):MapO plK W D.cm D.cm D.nc D.fc (fun p=>if 0≤p.1.1 then placeL l (rootP P0) (p.1.1.toNat,p.1.2) else []):=
 S.base.cells.chg h.chg (fun e=>by have:=S.base.hcm;unfold Mut at e;omega) (fun b hb _ e=>by have:=S.base.hcm;have hb':D.cm≤b:=hb;unfold Mut at e;omega)
theorem SvNow.offs (S:SvSt d D w0 W0 vl l n P0)(h:SvNow D W0 W vl l n P0 P v6 v7):OffM W D.lo (D.b0+4) D.no D.fo D.ib D.fi (accF l (rootP P0) l.length):=
 S.base.offs.chg h.chg (fun e=>by have:=S.base.hpb;unfold Mut at e;omega) (fun b hb _ e=>by have:=S.base.hcm;have:=S.base.hlo;unfold Mut at e;omega)
theorem SvNow.dir (S:SvSt d D w0 W0 vl l n P0)(h:SvNow D W0 W vl l n P0 P v6 v7):MapG (intK Tryz.underlying3) W (D.b0+3) D.nd (dirF l (rootP P0) l.length):=
 h.chg.map S.base.dir (fun e=>by have:=S.base.hpb;unfold Mut at e;omega)
theorem SvNow.root (h:SvNow D W0 W vl l n P0 P v6 v7)(k:Nat):rootP P k=rootP P0 k:=h.same.root k
theorem svfind_any (S:SvSt d D w0 W0 vl l n P0)(h:SvNow D W0 W vl l n P0 P v6 v7){k:Nat}(hk:k<n+l.length):
  Calls Tryz.prog 28 #[.pointer (some ⟨D.b0+5,0,none⟩),.int .i64 k] W (fun e w'=>e= .returned (.int .i64 (rootP P0 k))∧∃P',SvNow D W0 w' vl l n P0 P' v6 v7∧Chg (fun b=>b=D.pb) W w'):=by
 obtain⟨hA,hp⟩:=h.par.pos (by omega);refine(find_any W (D.b0+5) D.pb D.cap P hp (by rw[h.par.1,←hA];exact h.box.1 2 _ rfl) (by have:=S.base.hpb;omega) k (by rw[h.par.1];exact hk)).mono ?_;rintro e w' ⟨rfl,P',h1,h2,h3⟩;exact⟨by rw[h.root],P',h.find S (by omega) h1 h2 h3,h3⟩
set_option maxRecDepth 100000 in
set_option maxHeartbeats 4000000 in
theorem isptr_any (S:SvSt d D w0 W0 vl l n P0)(h:SvNow D W0 W vl l n P0 P v6 v7){q:Int}(hq:i64b q):
  Calls Tryz.prog 29 #[.pointer (some ⟨D.b0+5,0,none⟩),.int .i64 q] W (fun e w'=>e= .returned (.bool (D.fo q).isSome)∧Ext W w'):=by
 have c4:=h.box.1 4 _ rfl;have HLK:=hid (off_look (h.offs S).map hq)
 cases hf:D.fo q with
 | none=>
  rw[hf,Option.getD_none]at HLK
  have hlz:∀ty,(Builtin.len_ #[93] ty #[.map none]).run Tryz.prog W= .ok (.int .i64 0) W:=fun ty=>by
   simp[Builtin.len_,run_underlying Tryz.underlying93,goInt,Result.andThen]
  have HLZ:=hid hlz;clear hlz hf h S;obtain⟨sb,hsb⟩:∃sb,D.b0+5=sb:=⟨_,rfl⟩;rw[hsb]at c4 ⊢;clear hsb;go_enter Tryz.func29,Tryz.ntmps29
  go_wp2_with (first
   |((with_reducible refine wpList_at_lk 68 (.tmp 8) (.tmp 9) rfl rfl ?_);refine wpList_lookR rfl (.tmp 8) (.tmp 9) 68 rfl HLK.out ?_)
   |((with_reducible refine wpList_at_lenM 93 (.tmp 10) rfl rfl ?_);refine wpList_lenM rfl (.tmp 10) 93 rfl HLZ.out ?_)
   |fail)
  go_ret;exact⟨rfl,Ext.refl _⟩
 | some v=>
  obtain⟨h1,h2,h3⟩:=(h.offs S).yes _ _ hf;subst h1;obtain⟨ob,hob⟩:=S.base.some' _ _ hf;obtain⟨m,hm0,hm1,hlen⟩:=h3.map.size_pos Tryz.underlying93 (h3.there hob);obtain⟨mb,hmb⟩:∃mb,D.ib q=mb:=⟨_,rfl⟩;rw[hf,Option.getD_some,hmb]at HLK;rw[hmb]at hlen;have HLZ:=hid hlen;have i1:(m:Int) > 0:=by omega
  obtain⟨sb,hsb⟩:∃sb,D.b0+5=sb:=⟨_,rfl⟩;rw[hsb]at c4 ⊢;clear hsb hf h S h2 h3 hob hlen hmb hm1;go_enter Tryz.func29,Tryz.ntmps29
  go_wp2_with (first
   |((with_reducible refine wpList_at_lk 68 (.tmp 8) (.tmp 9) rfl rfl ?_);refine wpList_lookR rfl (.tmp 8) (.tmp 9) 68 rfl HLK.out ?_)
   |((with_reducible refine wpList_at_lenM 93 (.tmp 10) rfl rfl ?_);refine wpList_lenM rfl (.tmp 10) 93 rfl HLZ.out ?_)
   |fail)
  go_ret;exact⟨rfl,Ext.refl _⟩
end
end Go.Proofs.YtlmipgdnlfjpaaaGreat
namespace Go.Proofs.YtlmipgdnlfjpaaaGreat
open Go.RowKit Go.Deco Go.Maps
set_option linter.unusedSimpArgs false
set_option linter.unusedVariables false
section
variable {d:Nat}{D:SvDat}{w0 W0 W W':World}{vl:Value}{l:List Con}{n:Nat}{P0 P P':List Nat}{v6 v7:Value}
theorem SvNow.row (S:SvSt d D w0 W0 vl l n P0)(h:SvNow D W0 W vl l n P0 P v6 v7){q:Nat}{off:Int}(hq:i64b (q:Int))(ho:i64b off){i:Nat}(hi:(placeL l (rootP P0) (q,off))[0]? =some i):
  ∃(x:Pl) (g m c:Nat),x.1=((q:Int),off)∧rowW D.fc x= .slice (some ⟨g,0,none⟩) m c∧m=(placeL l (rootP P0) (q,off)).length∧0<m∧D.cm<g∧g<D.lo∧∀W',MapO plK W' D.cm D.cm D.nc D.fc (fun p=>if 0≤p.1.1 then placeL l (rootP P0) (p.1.1.toNat,p.1.2) else [])→
   W'.cell? ⟨g,0,none⟩=some (.int .i64 i)∧(Instr.lookup 67 (.map (some D.cm)) (.agg #[.int .i64 q,.int .i64 off]) false).run Tryz.prog W'= .ok (.slice (some ⟨g,0,none⟩) m c) W':=by
 obtain⟨x,hx⟩:∃x:Pl,x.1=((q:Int),off):=⟨⟨((q:Int),off),hq,ho⟩,rfl⟩;have hr:=(h.cells S).row x;have hF:(if 0≤x.1.1 then placeL l (rootP P0) (x.1.1.toNat,x.1.2) else [])=placeL l (rootP P0) (q,off):=by rw[hx];simp
 rw[hF]at hr
 have hpos:0<(placeL l (rootP P0) (q,off)).length:=by
  rcases Nat.eq_zero_or_pos (placeL l (rootP P0) (q,off)).length with h0|h0
  ·rw[List.length_eq_zero_iff.1 h0]at hi;cases hi
  ·exact h0
 obtain⟨A,c,hv, -, -⟩:=hr.form;rw[hv]at hr;obtain⟨g,rfl,hg1,hg2⟩:=hr.at0 hpos;refine⟨x,g,_,c,hx,hv,rfl,hpos, ?_,S.base.rows x g (by rw[hv];rfl),fun W' hW'=>⟨?_, ?_⟩⟩
 ·have:=(h.cells S).ne x (q:=g) (by rw[hv];rfl);omega
 ·have hr':=hW'.row x;rw[hF,hv]at hr';exact(hr'.num_cell hi).1
 ·have:=pl_look hW'.map x hx
  rwa [hv]at this
set_option maxRecDepth 100000 in
set_option maxHeartbeats 4000000 in
theorem cellof_any (S:SvSt d D w0 W0 vl l n P0)(h:SvNow D W0 W vl l n P0 P v6 v7){k:Nat}{c:Con}(hc:l[k]? =some c)(hw:wideC c=true):
  Calls Tryz.prog 50 #[.pointer (some ⟨D.b0+5,0,none⟩),.int .i64 k] W (fun e w'=>e= .returned (.int .i64 (cellN l n (rootP P0) c:Nat))∧∃P',SvNow D W0 w' vl l n P0 P' v6 v7∧Chg (fun b=>b=D.pb) W w'):=by
 have hmem:=List.mem_of_getElem? hc;have hkl:=(List.getElem?_eq_some_iff.1 hc).1;obtain⟨i,ce,hce, -, -, -, -,hi⟩:=cellN_spec (l:=l) (n:=n) (r:=rootP P0) hmem hw;rw[hce];have hok:=S.ok c hmem;obtain⟨an,han⟩:∃an:Nat,c.a=an:=⟨c.a.toNat,(Int.toNat_of_nonneg hok.a0).symm⟩;have hanl:an<n:=by have:=hok.a1;omega
 obtain⟨q,hq⟩:∃q,rootP P0 an=q:=⟨_,rfl⟩;have hpl:placeOf (rootP P0) c=(q,c.off):=by unfold placeOf;rw[han,←hq];rfl
 rw[hpl]at hi
 have hql:q<n+l.length:=by
  have h1:=h.same;have h2:=h.par.2.1;have:=rootP_lt h2 (k:=an) (by have:=h.par.1;omega);rw[h.root]at this;have:=h.par.1;omega
 have hhn:=S.hn;have hhm:=S.hm
 obtain⟨A,me,hvl⟩:∃A me,vl= .slice A l.length me:=by
  obtain⟨A,me,hv, -⟩:=S.sl;exact⟨A,me,hv⟩
 subst hvl;obtain⟨d',bx,ox,P1,np1,cp1,P2,np2,cp2,hd,rfl,hv1,hbx, -⟩:=S.sl.con_at hc;have hoff:i64b c.off:=((conV_ty hv1).1).2.2.2.1;obtain⟨x,g,m,cg,hx,hrow,hm,hm0,hg1,hg2,hcell⟩:=h.row S (q:=q) (by unfold i64b;omega) hoff hi;have hbw:=World.block_lt_of_cell? _ _ hbx.1;have hbx':=hbx.ext (h.old S);obtain⟨-,x1, -,x3, -⟩:=hbx';have b0':=h.box.1 0 _ rfl;have b1':=h.box.1 1 _ rfl;have b3':=h.box.1 3 _ rfl;have hpb:=S.base.hpb.2 (by omega);have hpb':=S.base.hpb.1;have hlt:=S.lt;obtain⟨rc,rl⟩:=hcell W (h.cells S);have HF:=hid (fun w' (he:Ext W w')=>svfind_any S (h.ext he) (k:=an) (by omega));have HN:=hid (fun(w':World) (P':List Nat) (h':SvNow D W0 w' (.slice (some ⟨bx,ox,none⟩) l.length me) l n P0 P' v6 v7)=>hcell w' (h'.cells S))
 have HK:=hid (fun(w':World) (P':List Nat) (h':SvNow D W0 w' (.slice (some ⟨bx,ox,none⟩) l.length me) l n P0 P' v6 v7) (hg:Chg (fun b=>b=D.pb) W w')=>(show w'.cell? ⟨D.b0+5,0,none⟩=some (.slice (some ⟨bx,ox,none⟩) l.length me)∧w'.cell? ⟨D.b0+5,1,none⟩=some (.int .i64 n)∧w'.cell? ⟨D.b0+5,3,none⟩=some (.map (some D.cm))∧w'.cell? ⟨bx,ox+k * 10+1,none⟩=some (.int .i64 an)∧w'.cell? ⟨bx,ox+k * 10+3,none⟩=some (.int .i64 c.off)∧w'.cell? ⟨g,0,none⟩=some (.int .i64 i)∧(Instr.lookup 67 (.map (some D.cm)) (.agg #[.int .i64 q,.int .i64 c.off]) false).run Tryz.prog w'= .ok (.slice (some ⟨g,0,none⟩) m cg) w' from
  ⟨h'.box.1 0 _ rfl,h'.box.1 1 _ rfl,h'.box.1 3 _ rfl,by rw[←han];exact hg.cell x1 (fun e=>by have h1:bx=D.pb:=e;have h2:bx<w0.heap.size:=hbw;omega),hg.cell x3 (fun e=>by have h1:bx=D.pb:=e;have h2:bx<w0.heap.size:=hbw;omega),(hcell w' (h'.cells S)).1,(hcell w' (h'.cells S)).2⟩))
 have HS0:=hid (HK.out _ _ (h.ext (Ext.refl W).drew) (Chg.of_ext _ (Ext.refl W).drew))
 have e1:IntKind.i64.wrap ((n:Int)+(i:Int))=((n+i:Nat):Int):=by
  have:i<l.length:=by
   have:=List.mem_of_getElem? hi;exact(placeK_mem.1 this).1
  rw[IntWalk.i64_in _ (by omega)];omega
 obtain⟨M,hM⟩:∃M,l.length=M:=⟨_,rfl⟩;rw[hq]at HF;rw[hM]at HF HK HS0 hkl;clear HN hcell rc rl b0' b1' b3' x1 x3 hbx hx hrow hm hi hpl hce hv1 hoff S h hc hw hmem hok hlt hbw hpb hpb';have i1:(0:Int)≤(k:Int):=by omega
 have i2:(k:Int)<(M:Int):=by omega
 have i3:(0:Int)<(m:Int):=by omega
 obtain⟨sb,hsb⟩:∃sb,D.b0+5=sb:=⟨_,rfl⟩;rw[hsb]at HF HK HS0 ⊢;go_enter Tryz.func50,Tryz.ntmps50;go_upto_region 1 with fail
 refine wp_region_held_drew (S:=(fun w'=>w'.cell? ⟨sb,0,none⟩=some (.slice (some ⟨bx,ox,none⟩) M me)∧w'.cell? ⟨sb,1,none⟩=some (.int .i64 n)∧w'.cell? ⟨sb,3,none⟩=some (.map (some D.cm))∧w'.cell? ⟨bx,ox+k * 10+1,none⟩=some (.int .i64 an)∧w'.cell? ⟨bx,ox+k * 10+3,none⟩=some (.int .i64 c.off)∧w'.cell? ⟨g,0,none⟩=some (.int .i64 i)∧(Instr.lookup 67 (.map (some D.cm)) (.agg #[.int .i64 q,.int .i64 c.off]) false).run Tryz.prog w'= .ok (.slice (some ⟨g,0,none⟩) m cg) w')) (by kernel_rfl) HS0.out (fun hSg1q0=>?_);refine rgT6 0 1 2 3 4 5 ?_;refine rgT6 6 7 8 9 10 11 ?_;refine rgT6 12 13 14 15 16 18 ?_;refine rgT6 19 20 21 22 23 24 ?_;refine rgT 25 ?_;refine rgC 17 (fun K hK=>?_);go_simp;go_at_call 28;refine(HF.out _ ((Ext.refl W).drew)).mono ?_;rintro e w2 ⟨rfl,P2,hn2,hc2⟩;have HC2:=hid ((Chg.of_ext (fun b=>b=D.pb) ((Ext.refl W).drew)).trans hc2);have HN2:=hid hn2;clear hn2 hc2;refine rgK hK (HK.out _ _ HN2.out HC2.out) (fun hSg1q1=>?_);clear hK K;refine rgT6 26 27 28 29 30 31 ?_;refine wpAnyH_done (by kernel_rfl) ?_ _
 go_wp2
 go_ret;exact⟨rfl,P2,(by rw[hM];exact HN2.out),HC2.out⟩
end
end Go.Proofs.YtlmipgdnlfjpaaaGreat
namespace Go.Proofs.YtlmipgdnlfjpaaaGreat
open Go.RowKit Go.Deco Go.Maps
set_option linter.unusedSimpArgs false
set_option linter.unusedVariables false
def kindK (l:List Con)(z:Int)(k:Nat):Bool:=match l[k]? with
 |some c=>decide (c.kind=z)
 |none=>false
theorem any_snoc {p:Nat→Bool}{L:List Nat}{i x:Nat}(h:L[i]? =some x):(L.take (i+1)).any p=((L.take i).any p || p x):=by
 rw[List.take_add_one,h];simp
def UsesIs (w:World)(a b:Bool)(e:Ending)(w':World):Prop:=e= .returned (.tuple #[.bool a,.bool b])∧Ext w w'
set_option maxRecDepth 100000 in
set_option maxHeartbeats 4000000 in
theorem uses_any {d:Nat}(w:World)(sb:Nat)(A B:Option Addr)(m me q qe:Nat)(l:List Con)(L:List Nat)(hs:Sl (conR (tyR d)) w All (.slice A m me) l)(hb:w.cell? ⟨sb,0,none⟩=some (.slice A m me))(hL:Sl natR w All (.slice B q qe) L)(hk:∀k∈L,k<l.length):
  Calls Tryz.prog 106 #[.pointer (some ⟨sb,0,none⟩),.slice B q qe] w (UsesIs w (L.any (kindK l 2)) (L.any (kindK l 3))):=by
 have hlen:=hL.len;obtain⟨hc1,hc2⟩:=hL.cap;have hml:=hs.len;obtain⟨hc3,hc4⟩:=hs.cap;have HS:=hid hs;have HB:=hid hb;have HL:=hid hL;have HK:=hid hk;have HLE:=hid hlen;have HML:=hid hml;clear hs hb hL hk hlen hml;go_enter Tryz.func106,Tryz.ntmps106
 go_wp2
 go_loopw [4,5,10] (fun a b i wr=>∃(k:Nat),k≤q∧i= .int .i64 k∧a= .bool ((L.take k).any (kindK l 2))∧b= .bool ((L.take k).any (kindK l 3))∧Hid (Ext w wr)) (fun _ _ i _=>q - (intOf i).toNat)
 case atStart=>exact⟨0,by omega,rfl,by simp,by simp,hid (Ext.refl _)⟩
 case round=>
  obtain⟨k,hk,rfl,rfl,rfl,HX⟩:=hrel;by_cases h1:k<q
  ·obtain⟨x,hx⟩:∃x,L[k]? =some x:=⟨_,List.getElem?_eq_getElem (by have:=HLE.out;omega)⟩;have hxl:x<l.length:=HK.out x (List.mem_of_getElem? hx);obtain⟨c,hc⟩:∃c,l[x]? =some c:=⟨_,List.getElem?_eq_getElem hxl⟩;have ha2:=any_snoc (p:=kindK l 2) hx;have ha3:=any_snoc (p:=kindK l 3) hx;have e2:kindK l 2 x=(c.kind == 2):=by unfold kindK;rw[hc];rfl
   have e3:kindK l 3 x=(c.kind == 3):=by unfold kindK;rw[hc];rfl
   rw[e2]at ha2;rw[e3]at ha3;have HA2:=hid ha2;have HA3:=hid ha3;obtain⟨bB,oB,hB,hcell⟩:=(HL.out.ext HX.out).num_at hx;obtain⟨d',bx,ox,P1,np1,cp1,P2,np2,cp2,hd,hA,hv1,hbx, -⟩:=(HS.out.ext HX.out).con_at hc;subst hB;subst hA;have x0:=hbx.1;have b0:=HX.out.cell HB.out;have i1:(0:Int)≤(x:Int):=by omega
   have i2:(x:Int)<(m:Int):=by have:=HML.out;omega
   obtain⟨a2,ha2'⟩:∃a2,(L.take k).any (kindK l 2)=a2:=⟨_,rfl⟩;obtain⟨a3,ha3'⟩:∃a3,(L.take k).any (kindK l 3)=a3:=⟨_,rfl⟩;rw[ha2']at HA2 ⊢;rw[ha3']at HA3 ⊢;obtain⟨ck,hck⟩:∃ck,c.kind=ck:=⟨_,rfl⟩;rw[hck]at x0 HA2 HA3;clear hbx hv1 hd hc hx hxl ha2 ha3 e2 e3 ha2' ha3' hck
   cases a2 <;> cases a3 <;> by_cases g2:ck=2 <;> by_cases g3:ck=3 <;> first
    |(exfalso;omega)
    |skip
   all_goals
    have k2:(ck == 2)=decide (ck=2):=rfl;have k3:(ck == 3)=decide (ck=3):=rfl;simp only[g2,g3,decide_true,decide_false]at k2 k3
    go_wp2
    first
     |go_roundw
     |refine⟨?rel, ?measure⟩
    case rel=>exact⟨k+1,by omega,by go_num,by rw[HA2.out];simp[g2,g3],by rw[HA3.out];simp[g2,g3],HX⟩
    case measure=>simp [intOf];omega
  ·obtain rfl:k=q:=by omega
   have i1:¬(k:Int)<(k:Int):=by omega
   have hf:L.take k=L:=List.take_of_length_le (by have:=HLE.out;omega);rw[hf];have HXX:=HX;obtain⟨a2,ha2'⟩:∃a2,L.any (kindK l 2)=a2:=⟨_,rfl⟩;obtain⟨a3,ha3'⟩:∃a3,L.any (kindK l 3)=a3:=⟨_,rfl⟩;have H2:=hid ha2';have H3:=hid ha3';rw[ha2',ha3'];clear ha2' ha3' hf
   go_wp2
   go_ret2;exact⟨by simp[H2.out,H3.out],HXX.out⟩
end Go.Proofs.YtlmipgdnlfjpaaaGreat
