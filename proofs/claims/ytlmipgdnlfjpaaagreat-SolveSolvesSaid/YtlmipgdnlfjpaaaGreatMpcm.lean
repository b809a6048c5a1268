/- Lemmas of mine, merged. -/
import Derived.Test.YtlmipgdnlfjpaaaGreatBasm
import Derived.Maps.OwnSet
import Derived.Maps.RangeWalk
import Derived.Test.YtlmipgdnlfjpaaaGreatTymm
set_option linter.unusedSimpArgs false
set_option linter.unusedVariables false
namespace Go.Deco
open Go Go.RowKit Go.Maps
structure Xw (P:Program)(k:TypeId)(κ:Type) where
 lit:κ->Lit
 val:κ->Value
 ok:κ->Prop
 inj:∀{a b:κ},lit a=lit b->a=b
 key:∀{x:κ},ok x->keyOf P k (val x)=some (lit x)
 inv:∀{v:Value} {l:Lit},keyOf P k v=some l->∃x,ok x/\v=val x/\l=lit x
 law:Keyed P k
theorem wf_u32 {x:Nat}(h:x<4294967296):(Lit.int .u32 (x:Int)).wf=true:=by
 simp[Lit.wf,IntKind.min,IntKind.max,IntKind.signed,IntKind.bits];omega
def Hp {P:Program}{k:TypeId}(hk:P.underlying k=some (.int .u32)):Xw P k Nat where
 lit x:= .int .u32 x
 val x:= .int .u32 x
 ok x:=x<4294967296
 inj h:=by
  injection h with _ h
  exact_mod_cast h
 key h:=keyOf_int_mk hk (wf_u32 h)
 inv h:=by
  obtain⟨x,rfl,rfl,hw⟩:=Maps.keyOf_int_inv hk h;have:=gX hw;exact⟨x.toNat,by omega,by rw[Qk this.1],by rw[Qk this.1]⟩
 law:=int_keyed hk
def Hy {P:Program}{k:TypeId}(hk:P.underlying k=some .string):Xw P k (List UInt8) where
 lit x:= .string x
 val x:= .string ⟨x.toArray⟩
 ok x:=x.length<=maxLen
 inj h:=by
  injection h
 key {x} h:=by
  have:=Go.WideMaps.keyOf_string_mk hk (s:=⟨x.toArray⟩) (by simpa [ByteArray.size] using h);simpa using this
 inv {v l} h:=by
  cases v <;> simp[keyOf,hk,mapKey]at h
  rename_i s
  obtain⟨hs,rfl⟩:=h;exact⟨s.data.toList,by simpa using hs,by simp,rfl⟩
 law:=string_keyed hk
def XD (v:Value):Option (DataW Value×List MemPlace):=some (.held v,[])
def Z7 (D:DataW Value)(kl:Lit):Option Value:=match D.atKey kl .nil with| .held v=>some v|_=>none
section
variable {P:Program}{k:TypeId}{κ:Type}{G:Xw P k κ}{w w':World}{b r n:Nat}{f:κ->Option Value}
def MapG (G:Xw P k κ)(w:World)(b n:Nat)(f:κ->Option Value):Prop:=∃D,w.ownsMap P k XD b n D/\∀x,f x=Z7 D (G.lit x)
theorem MapG.made (G:Xw P k κ)(w:World):MapG G (w.alloc (.map #[] 0)) w.heap.size 0 (fun _=>none):=
 ⟨_,World.ownsMap_made w P k XD,fun x=>by simp[Z7,DataW.atKey]⟩
theorem MapG.mono (h:MapG G w b n f){n':Nat}(hn:n<=n'):MapG G w b n' f:=by
 obtain⟨D,h1,h2⟩:=h;exact⟨D,h1.mono hn,h2⟩
theorem MapG.lt (h:MapG G w b n f):b<w.heap.size:=by
 obtain⟨D,h1,h2⟩:=h;exact h1.lt
theorem MapG.kept {row:Option Nat}(h:MapG G w b n f)(hg:w.grownBy w' row)(hne:some b≠row):MapG G w' b n f:=by
 obtain⟨D,h1,h2⟩:=h;exact⟨D,h1.kept hg hne,h2⟩
theorem MapG.ext (h:MapG G w b n f)(he:Ext w w'):MapG G w' b n f:=h.kept (he.grownBy none) (by simp)
theorem MapG.setCell (h:MapG G w b n f){a:Addr}(ha:b≠a.block)(u:Value):MapG G (w.setCell a u) b n f:=by
 obtain⟨D,h1,h2⟩:=h;exact⟨D,h1.setCell ha u,h2⟩
theorem MapG.same {f':κ->Option Value}(h:MapG G w b n f)(he:∀x,f' x=f x):MapG G w b n f':=by
 obtain⟨D,h1,h2⟩:=h;exact⟨D,h1,fun x=>(he x).trans (h2 x)⟩
theorem MapG.ne (h:MapG G w b n f){q:Nat}(hc:Z2 w q):q≠b:=by
 rintro rfl;obtain⟨c,e,g,hq⟩:=hc;obtain⟨D,⟨es,clock,hb,_⟩,_⟩:=h;rw[hq]at hb;cases hb
theorem MapG.block (h:MapG G w b n f)(hg:w.grownBy w' (some b)){q:Nat}(hc:Z2 w q):w'.heap[q]? =w.heap[q]? :=
 hg.block q hc.lt fun e=>h.ne hc (by injection e)
theorem MapG.cell (h:MapG G w b n f)(hg:w.grownBy w' (some b)){p:Addr}{v:Value}(hc:w.cell? p=some v):w'.cell? p=some v:=
 (World.cell?_of_block (w:=w) (h.block hg (wW hc))).trans hc
theorem MapG.sl (h:MapG G w b n f)(hg:w.grownBy w' (some b)){E:Type}{R:Rep E}{S:Nat->Prop}{v:Value}{l:List E}(hs:Sl R w S v l):Sl R w' S v l:=
 hs.keep fun q _ hq=>h.block hg hq
theorem Yw {D:DataW Value}{t e:TypeId}(h:w.ownsMap P k XD b n D)(K:Keyed P k)(ht:P.underlying t=some (.map k e)){z:Value}(hz:(zeroValue e).run P w= .ok z w){key:Value}{kl:Lit}(hkey:keyOf P k key=some kl):
  (Instr.lookup t (.map (some b)) key false).run P w= .ok ((Z7 D kl).getD z) w/\(Instr.lookup t (.map (some b)) key true).run P w= .ok (.tuple #[(Z7 D kl).getD z,.bool (Z7 D kl).isSome]) w:=by
 obtain⟨es,clock,hb,F,_,rfl⟩:=h
 have h1:∀c,(Instr.lookup t (.map (some b)) key c).run P w= .ok (if c then .tuple #[(Z7 (DataW.map ((es.toList.map (WideElems.rg P k XD)).foldr DataW.insert [])) kl).getD z,.bool (Z7 (DataW.map ((es.toList.map (WideElems.rg P k XD)).foldr DataW.insert [])) kl).isSome] else (Z7 (DataW.map ((es.toList.map (WideElems.rg P k XD)).foldr DataW.insert [])) kl).getD z) w:=by
  intro c;rcases Maps.fit_look c K ht hz hb F hkey with⟨hrun,_,hat⟩|⟨e0,y,_,_,hrun,hRv,hat,_⟩
  ·have e0:Z7 (DataW.map ((es.toList.map (WideElems.rg P k XD)).foldr DataW.insert [])) kl=none:=by rw[Z7,hat]
   rw[e0,hrun];cases c <;> rfl
  ·have e1:Z7 (DataW.map ((es.toList.map (WideElems.rg P k XD)).foldr DataW.insert [])) kl=some e0.val:=by
    rw[Z7,hat];simp[XD]at hRv;rw[<-hRv]
   rw[e1,hrun];cases c <;> rfl
 exact⟨h1 false,h1 true⟩
theorem MapG.put [DecidableEq κ]{t e:TypeId}(h:MapG G w b n f)(ht:P.underlying t=some (.map k e))(hn:n<maxLen){x:κ}(hx:G.ok x)(v:Value):
  ∃w',(Instr.mapUpdate t (.map (some b)) (G.val x) v).run P w= .ok () w'/\MapG G w' b (n+1) (fun j=>if j=x then some v else f j)/\w.grownBy w' (some b):=by
 obtain⟨D,h1,h2⟩:=h;have hk:=G.key hx;obtain⟨w',hrun,ho,hg⟩:=h1.update G.law ht hn hk (d:= .held v) (ps:=[]) rfl;refine⟨w',hrun,⟨_,ho,fun j=>?_⟩,hg⟩;show(if j=x then some v else f j)=_;by_cases hj:j=x
 ·subst hj;rw[if_pos rfl,Z7,Maps.atKey_put_same h1.isMap (G.law.key hk)]
 ·rw[if_neg hj,h2,Z7,Z7,Maps.atKey_put_other fun e=>hj (G.inj e)]
def Z6 (G:Xw P k κ)(w:World)(b r n:Nat)(f:κ->Option Value)(left:κ->Bool)(cnt:Nat):Prop:=
 ∃D lf,w.ranges P k XD b r n D lf cnt/\(∀x,f x=Z7 D (G.lit x))/\∀x,G.ok x->left x=lf (G.lit x)
theorem Z6.map {left:κ->Bool}{cnt:Nat}(h:Z6 G w b r n f left cnt):MapG G w b n f:=by
 obtain⟨D,lf,h1,h2,_⟩:=h;exact⟨D,h1.owns,h2⟩
theorem Z6.kept {left:κ->Bool}{cnt:Nat}{row:Option Nat}(h:Z6 G w b r n f left cnt)(hg:w.grownBy w' row)(hb:some b≠row)(hr:some r≠row):Z6 G w' b r n f left cnt:=by
 obtain⟨D,lf,h1,h2,h3⟩:=h;exact⟨D,lf,h1.kept hg hb hr,h2,h3⟩
theorem Z6.ext {left:κ->Bool}{cnt:Nat}(h:Z6 G w b r n f left cnt)(he:Ext w w'):Z6 G w' b r n f left cnt:=h.kept (he.grownBy none) (by simp) (by simp)
theorem Z6.left_eq {left:κ->Bool}{cnt:Nat}(h:Z6 G w b r n f left cnt):w.rangeLeft b r=cnt:=by
 obtain⟨D,lf,h1,_⟩:=h;exact h1.left_eq
theorem Z6.iter {left:κ->Bool}{cnt:Nat}(h:Z6 G w b r n f left cnt):r<w.heap.size/\¬Z2 w r:=by
 obtain⟨D,lf,h1,_⟩:=h;refine⟨h1.lt, ?_⟩;obtain⟨es,clock,since,seen,c0,_,_,_,_,hr,_⟩:=h1;rintro⟨c,e,g,hq⟩;rw[hq]at hr;cases hr
theorem iQ {D:DataW Value}(h:w.ownsMap P k XD b n D){kl:Lit}(hk:∃key,keyOf P k key=some kl)(K:Keyed P k):Maps.has D kl=(Z7 D kl).isSome:=by
 obtain⟨es,clock,_,F,_,rfl⟩:=h;obtain⟨key,hkey⟩:=hk
 cases hh:Maps.has (DataW.map ((es.toList.map (WideElems.rg P k XD)).foldr DataW.insert [])) kl with
 |false=>rw [Z7,Maps.atKey_of_not_has hh];rfl
 |true=>
  obtain⟨p,hp,hpk⟩:=List.any_eq_true.1 hh;have hs:(((es.toList.map (WideElems.rg P k XD)).foldr DataW.insert []).find? (fun p=>p.1.sameKey kl)).isSome=true:=List.find?_isSome.2 ⟨p,hp,hpk⟩;obtain⟨y,hy⟩:=Option.isSome_iff_exists.1 hs;have hm:=List.mem_of_find?_eq_some hy;obtain⟨x,hx,rfl⟩:=List.mem_map.1 (mem_sorted.1 hm);obtain⟨z,hz⟩:=F.reads x hx;rw[Z7,DataW.atKey,hy,WideElems.rg_of hz];obtain⟨y',hy',hyd⟩:=WideElems.rd_val hz;simp[XD]at hy';simp only;rw[hyd,<-hy'];rfl
theorem MapG.range {t e:TypeId}(h:MapG G w b n f)(ht:P.underlying t=some (.map k e)):
  ∃w',(Instr.range t (.map (some b))).run P w= .ok (.pointer (some ⟨w.heap.size,0,none⟩)) w'/\(∃cnt,cnt<=n/\Z6 G w' b w.heap.size n f (fun x=>(f x).isSome) cnt)/\w.grownBy w' none/\w'.heap.size=w.heap.size+1:=by
 obtain⟨D,h1,h2⟩:=h;obtain⟨w',hrun,hr,hg,hs⟩:=h1.range G.law ht;exact⟨w',hrun,⟨_,h1.size_le,D,_,hr,h2,fun x hx=>by show(f x).isSome=_;rw[h2,iQ h1 ⟨_,G.key hx⟩ G.law]⟩,hg,hs⟩
theorem Z6.next [DecidableEq κ]{left:κ->Bool}{cnt:Nat}(h:Z6 G w b r n f left cnt)(ty:TypeId):
  (cnt=0/\(∀x,G.ok x->left x=false)/\(Instr.next (.pointer (some ⟨r,0,none⟩)) false ty).run P w= .ok (.tuple #[.bool false]) w)\/
  ∃x v w' cnt',G.ok x/\left x=true/\f x=some v/\(Instr.next (.pointer (some ⟨r,0,none⟩)) false ty).run P w= .ok (.tuple #[.bool true,G.val x,v]) w'/\
   Z6 G w' b r n f (fun j=>left j && !decide (j=x)) cnt'/\cnt'<cnt/\w.grownBy w' (some r)/\w'.heap.size=w.heap.size/\(Instr.entry (.pointer (some ⟨r,0,none⟩))).run P w'= .ok (.tuple #[G.val x,v]) w':=by
 obtain⟨D,lf,h1,h2,h3⟩:=h;rcases h1.next G.law ty with⟨h0,hl,hrun⟩|⟨key,v,kl,y,w',cnt',hkey,hlk,hv,hat,hrun,hrg,hlt,hgr,hsz,hen⟩
 ·exact .inl ⟨h0,fun x hx=>by rw[h3 x hx];exact hl _,hrun⟩
 ·obtain⟨x,hx,rfl,rfl⟩:=G.inv hkey;refine .inr ⟨x,v,w',cnt',hx,by rw[h3 x hx];exact hlk, ?_,hrun,⟨D,_,hrg,h2,fun j hj=>?_⟩,hlt,hgr,hsz,hen⟩
  ·rw[h2,Z7,hat];simp[XD]at hv;rw[<-hv]
  ·show(left j && !decide (j=x))=(lf (G.lit j) && !(G.lit j).sameKey (G.lit x));rw[h3 j hj]
   congr 1
   by_cases e:j=x
   ·subst e;simp[WideAt.sameKey_self (G.law.key hkey)]
   ·rw[Maps.sameKey_ne fun e'=>e (G.inj e')];simp[e]
variable (w){ops:Array Oper}{rest:List Oper}{o:Oper}{a:Act}{Q:Exit->Act->World->Prop}
theorem jb [DecidableEq κ](hg:o.guard=none)(m x y:Operand)(t:TypeId)(hop:o.op=Op.mapUpdate t m x y)(e:TypeId)(ht:P.underlying t=some (.map k e))
  (G:Xw P k κ) (b n:Nat) (f:κ->Option Value) (hm:a.eval m= .map (some b)) (h:MapG G w b n f) (hn:n<maxLen) (kx:κ) (hx:a.eval x=G.val kx) (hok:G.ok kx) (v:Value) (hv:a.eval y=v)
  (hK:∀w',MapG G w' b (n+1) (fun j=>if j=kx then some v else f j)->w.grownBy w' (some b)->wpList P ops Q rest (a.put o.dst undef) w'):wpList P ops Q (o :: rest) a w:=by
 refine wpList_plain hg fun K' hK'=>?_;obtain⟨w',hrun,r1,r2⟩:=h.put ht hn hok v;unfold Oper.wp;simp[execOp,hop,hm,hx,hv,hrun,Result.andThen];exact hK' _ _ (hK w' r1 r2)
theorem gY (hg:o.guard=none)(m:Operand)(t:TypeId)(hop:o.op=Op.range t m)(e:TypeId)(ht:P.underlying t=some (.map k e))
  (G:Xw P k κ) (b n:Nat) (f:κ->Option Value) (hm:a.eval m= .map (some b)) (h:MapG G w b n f)
  (hK:∀w' cnt,cnt<=n->Z6 G w' b w.heap.size n f (fun x=>(f x).isSome) cnt->w.grownBy w' none->w'.heap.size=w.heap.size+1->wpList P ops Q rest (a.put o.dst (.pointer (some ⟨w.heap.size,0,none⟩))) w'):wpList P ops Q (o :: rest) a w:=by
 refine wpList_plain hg fun K' hK'=>?_;obtain⟨w',hrun,⟨cnt,r0,r1⟩,r2,r3⟩:=h.range ht;unfold Oper.wp;simp[execOp,hop,hm,hrun,Result.andThen];exact hK' _ _ (hK w' cnt r0 r1 r2 r3)
theorem sC [DecidableEq κ](hg:o.guard=none)(it:Operand)(hop:o.op=Op.next it false)(G:Xw P k κ)(b r n:Nat)(f:κ->Option Value)(left:κ->Bool)(cnt:Nat)(hit:a.eval it= .pointer (some ⟨r,0,none⟩))(h:Z6 G w b r n f left cnt)
  (hDone:cnt=0->(∀x,G.ok x->left x=false)->wpList P ops Q rest (a.put o.dst (.tuple #[.bool false])) w)
  (hMore:∀x v w' cnt',G.ok x->left x=true->f x=some v->Z6 G w' b r n f (fun j=>left j && !decide (j=x)) cnt'->cnt'<cnt->w.grownBy w' (some r)->w'.heap.size=w.heap.size->
   (Instr.entry (.pointer (some ⟨r,0,none⟩))).run P w'= .ok (.tuple #[G.val x,v]) w'->wpList P ops Q rest (a.put o.dst (.tuple #[.bool true,G.val x,v])) w'):wpList P ops Q (o :: rest) a w:=by
 refine wpList_plain hg fun K' hK'=>?_;unfold Oper.wp;rcases h.next o.type with⟨h0,hl,hrun⟩|⟨x,v,w',cnt',h1,h2,h3,hrun,h4,h5,h6,h7,h8⟩
 ·simp[execOp,hop,hit,hrun,Result.andThen];exact hK' _ _ (hDone h0 hl)
 ·simp[execOp,hop,hit,hrun,Result.andThen];exact hK' _ _ (hMore x v w' cnt' h1 h2 h3 h4 h5 h6 h7 h8)
end
structure Chg (M:Nat->Prop)(w w':World):Prop where
 os:w'.os=w.os
 tape:w'.tape=w.tape
 output:w'.output=w.output
 size:w.heap.size<=w'.heap.size
 block:∀k,k<w.heap.size->¬M k->w'.heap[k]? =w.heap[k]?
namespace Chg
variable {M M':Nat->Prop}{a w w' w'':World}
theorem refl (M:Nat->Prop)(w:World):Chg M w w:=⟨rfl,rfl,rfl,Nat.le_refl _,fun _ _ _=>rfl⟩
theorem trans (h:Chg M w w')(k:Chg M w' w''):Chg M w w'':=
 ⟨k.os.trans h.os,k.tape.trans h.tape,k.output.trans h.output,Nat.le_trans h.size k.size,fun i hi hm=>(k.block i (Nat.lt_of_lt_of_le hi h.size) hm).trans (h.block i hi hm)⟩
theorem trans' {N:Nat->Prop}(h:Chg M w w')(k:Chg N w' w'')(hN:∀b,N b->M b\/w.heap.size<=b):Chg M w w'':=
 ⟨k.os.trans h.os,k.tape.trans h.tape,k.output.trans h.output,Nat.le_trans h.size k.size,fun i hi hm=>(k.block i (Nat.lt_of_lt_of_le hi h.size) (fun e=>by rcases hN i e with e|e;exact hm e;omega)).trans (h.block i hi hm)⟩
theorem mono (h:Chg M w w')(hm:∀b,M b->M' b):Chg M' w w':=⟨h.os,h.tape,h.output,h.size,fun i hi hn=>h.block i hi fun e=>hn (hm i e)⟩
theorem of_ext (M:Nat->Prop)(h:Ext w w'):Chg M w w':=⟨Below.os h,Below.tape h,Below.output h,h.size,fun _ hk _=>h.block hk⟩
theorem of_grown {b:Nat}(h:w.grownBy w' (some b))(hb:M b):Chg M w w':=⟨h.os,h.tape,h.output,h.size,fun k hk hn=>h.block k hk fun e=>by cases e;exact hn hb⟩
theorem of_grown' {row:Option Nat}(h:w.grownBy w' row)(hb:∀b,row=some b->M b):Chg M w w':=⟨h.os,h.tape,h.output,h.size,fun k hk hn=>h.block k hk fun e=>hn (hb k e.symm)⟩
theorem of_set {p:Addr}(u:Value)(w:World)(hb:M p.block):Chg M w (w.setCell p u):=by
 have h:Below 0 w (w.setCell p u):=Below.setCell (Below.refl _ _) (Nat.zero_le _) u;exact⟨h.os,h.tape,h.output,Below.size h,fun k _ hn=>Below.heap_setCell _ _ _ k fun e=>hn (by rw[e];exact hb)⟩
theorem ext (h:Chg M w w')(k:Ext w' w''):Chg M w w'':=h.trans (of_ext M k)
theorem set (h:Chg M w w'){p:Addr}(u:Value)(hb:M p.block):Chg M w (w'.setCell p u):=h.trans (of_set u w' hb)
theorem setN (h:Chg M w w'){p:Addr}(u:Value)(hb:w.heap.size<=p.block):Chg M w (w'.setCell p u):=h.trans' (of_set (M:=fun b=>b=p.block) u w' rfl) fun b e=> .inr (by rw[e];exact hb)
theorem old (h:Ext a w)(k:Chg M w w')(hM:∀b,M b->a.heap.size<=b):Ext a w':=
 ⟨k.os.trans (Below.os h),k.tape.trans (Below.tape h),k.output.trans (Below.output h),Nat.le_trans (Ext.size h) k.size,fun i hi=>(k.block i (Nat.lt_of_lt_of_le hi (Ext.size h)) (fun e=>by have:=hM i e;omega)).trans (Ext.block h hi)⟩
theorem grown {k:Nat}(h:Chg (fun b=>b=k) w w'):w.grownBy w' (some k):=⟨h.os,h.tape,h.output,h.size,fun i hi hn=>h.block i hi fun e=>hn (by rw[e])⟩
theorem cell (h:Chg M w w'){p:Addr}{v:Value}(hc:w.cell? p=some v)(hp:¬M p.block):w'.cell? p=some v:=
 (World.cell?_of_block (w:=w) (h.block _ (World.block_lt_of_cell? _ _ hc) hp)).trans hc
theorem frozen (h:Chg M w w'){p:Addr}(hp:p.block<w.heap.size)(hn:¬M p.block):w'.frozen? p=w.frozen? p:=World.frozen?_of_block (h.block _ hp hn)
theorem sl {E:Type}{R:Rep E}{S:Nat->Prop}{v:Value}{l:List E}(h:Chg M w w')(hs:Sl R w S v l)(hS:∀b,S b->¬M b):Sl R w' S v l:=hs.keep fun b hb hi=>h.block b hi.lt (hS b hb)
theorem own {E:Type}{R:Rep E}{T:Nat->Prop}{base:Nat}{e:TypeId}{v:Value}{l:List E}(h:Chg M w w')(ho:Qf R w base e T v l)(hv:∀b,v.ownBlock=some b->¬M b)(hT:∀b,T b->¬M b):Qf R w' base e T v l:=by
 obtain⟨xs,h1,h2⟩:=ho;refine⟨xs,⟨h1.1, ?_⟩,h2.keep fun b hb hi=>h.block b hi.lt (hT b hb.1)⟩;rcases h1.2 with hn|⟨g,cap,cur,rfl,hb,hg,rest⟩
 ·exact .inl hn
 ·refine .inr ⟨g,cap,cur,rfl,hb, ?_,rest⟩;rw[h.block g (Array.getElem?_eq_some_iff.1 hg).1 (hv g rfl)];exact hg
theorem map {P:Program}{k:TypeId}{κ:Type}{G:Xw P k κ}{b n:Nat}{f:κ->Option Value}(h:Chg M w w')(hm:MapG G w b n f)(hb:¬M b):MapG G w' b n f:=by
 obtain⟨D,h1,h2⟩:=hm;have hlt:=h1.lt;obtain⟨es,clock,hh,r⟩:=h1;exact⟨D,⟨es,clock,(h.block b hlt hb).trans hh,r⟩,h2⟩
theorem ty {d:Nat}{S:Nat->Prop}{v:Value}{t:Ty}(h:Chg M w w')(hs:TyV d w S v t)(hS:∀b,S b->¬M b):TyV d w' S v t:=hs.keep fun b hb hi=>h.block b hi.lt (hS b hb)
end Chg
end Go.Deco
