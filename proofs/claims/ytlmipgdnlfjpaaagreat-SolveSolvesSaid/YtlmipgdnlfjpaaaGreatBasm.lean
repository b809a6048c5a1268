/- Lemmas of mine, merged. -/
import Derived.Test.YtlmipgdnlfjpaaaGreatZm
import Derived.WalkKit
import Derived.WalkSpells
import Derived.WalkLawsBesides
import Derived.BigQuiet
import Derived.Deep.QuietTactic
import Derived.Deep.LoopGhost
import Derived.Deep.Slices
import Derived.Deep.AppendLies
import Derived.Deep.Draws
import Derived.Laws.CopyOwn
import Derived.Maps.AppendAt
set_option linter.unusedVariables false
namespace Go.Deco
open Go Go.RowKit
theorem hid {p:Prop}(h:p):Hid p:=h
theorem XP {a b:Bool}(h:a=b):Ending.returned (.bool a)= .returned (.bool b):=by rw[h]
theorem Kf {k:IntKind}{a b:Int}(h:a=b):Ending.returned (.int k a)= .returned (.int k b):=by rw[h]
theorem gX {n:Int}(h:(Lit.int .u32 n).wf=true):0<=n/\n<=4294967295:=by
 simp[Lit.wf,IntKind.min,IntKind.max,IntKind.signed,IntKind.bits]at h;omega
theorem KC {n:Int}(h:(Lit.int .i64 n).wf=true): -9223372036854775808<=n/\n<=9223372036854775807:=by
 simp[Lit.wf,IntKind.min,IntKind.max,IntKind.signed,IntKind.bits]at h;omega
theorem Y6 {P:Program}{f:FuncId}{fn:Func}(hf:P.funcs[f]? =some fn)(hn:(fn.name == "runtime.NumGoroutine")=false)(hb:fn.body.isNone=false)(args:Array Value)(w:World):
  (callFunc f args).run P w= .ok (.enter f args) w:=by
 have h1:fn.name≠ "runtime.NumGoroutine" :=by simpa using hn
 have h2:fn.body≠none:=by intro h;simp[h]at hb
 simp[callFunc,hf,h1,h2]
def Ext (w w':World):Prop:=Below w.heap.size w w'
namespace Ext
variable {a b c w w':World}
theorem below (h:Ext w w'):Below w.heap.size w w':=h
theorem refl (w:World):Ext w w:=Below.refl _ _
theorem trans (h:Ext a b)(k:Ext b c):Ext a c:=Below.trans h (Below.mono k (Below.size h))
theorem size (h:Ext w w'):w.heap.size<=w'.heap.size:=Below.size h
theorem alloc (h:Ext a w)(o:Obj):Ext a (w.alloc o):=Below.alloc h (Below.size h) o
theorem drew (h:Ext a w):Ext a w.drew:=Below.drew h
theorem drew_left (h:Ext a.drew w):Ext a w:=Below.trans (Below.drew (Below.refl _ _)) h
theorem setCell (h:Ext a w){p:Addr}(hp:a.heap.size<=p.block)(u:Value):Ext a (w.setCell p u):=Below.setCell h hp u
theorem grown (h:Ext a w){row:Option Nat}(hg:w.grownBy w' row)(hr:∀k,row=some k->a.heap.size<=k):Ext a w':=
 Below.grown h hg (Below.size h) hr
theorem block (h:Ext w w'){k:Nat}(hk:k<w.heap.size):w'.heap[k]? =w.heap[k]? :=Below.block h k hk
theorem cell (h:Ext w w'){p:Addr}{v:Value}(hc:w.cell? p=some v):w'.cell? p=some v:=
 (Below.cell h (World.block_lt_of_cell? _ _ hc)).trans hc
theorem frozen (h:Ext w w'){p:Addr}(hp:p.block<w.heap.size):w'.frozen? p=w.frozen? p:=Below.frozen h hp
theorem grownBy (h:Ext w w')(row:Option Nat):w.grownBy w' row:=⟨Below.os h,Below.tape h,Below.output h,Below.size h,fun _ hk _=>h.block hk⟩
theorem two {P Q:World->Prop}(h:∀w',Ext a w'->P w')(k:∀w',Ext a w'->Q w'):∀w',Ext a w'->P w'/\Q w':=fun w' e=>⟨h w' e,k w' e⟩
theorem hc1 {p0:Addr}{v0:Value}(h0:a.cell? p0=some v0):∀w',Ext a w'->w'.cell? p0=some v0:=fun _ e=>e.cell h0
theorem hc2 {p0 p1:Addr}{v0 v1:Value}(h0:a.cell? p0=some v0)(h1:a.cell? p1=some v1):∀w',Ext a w'->w'.cell? p0=some v0/\w'.cell? p1=some v1:=fun _ e=>⟨e.cell h0,e.cell h1⟩
theorem hc3 {p0 p1 p2:Addr}{v0 v1 v2:Value}(h0:a.cell? p0=some v0)(h1:a.cell? p1=some v1)(h2:a.cell? p2=some v2):∀w',Ext a w'->w'.cell? p0=some v0/\w'.cell? p1=some v1/\w'.cell? p2=some v2:=fun _ e=>⟨e.cell h0,e.cell h1,e.cell h2⟩
theorem hc4 {p0 p1 p2 p3:Addr}{v0 v1 v2 v3:Value}(h0:a.cell? p0=some v0)(h1:a.cell? p1=some v1)(h2:a.cell? p2=some v2)(h3:a.cell? p3=some v3):∀w',Ext a w'->w'.cell? p0=some v0/\w'.cell? p1=some v1/\w'.cell? p2=some v2/\w'.cell? p3=some v3:=fun _ e=>⟨e.cell h0,e.cell h1,e.cell h2,e.cell h3⟩
theorem hc5 {p0 p1 p2 p3 p4:Addr}{v0 v1 v2 v3 v4:Value}(h0:a.cell? p0=some v0)(h1:a.cell? p1=some v1)(h2:a.cell? p2=some v2)(h3:a.cell? p3=some v3)(h4:a.cell? p4=some v4):∀w',Ext a w'->w'.cell? p0=some v0/\w'.cell? p1=some v1/\w'.cell? p2=some v2/\w'.cell? p3=some v3/\w'.cell? p4=some v4:=fun _ e=>⟨e.cell h0,e.cell h1,e.cell h2,e.cell h3,e.cell h4⟩
theorem hc6 {p0 p1 p2 p3 p4 p5:Addr}{v0 v1 v2 v3 v4 v5:Value}(h0:a.cell? p0=some v0)(h1:a.cell? p1=some v1)(h2:a.cell? p2=some v2)(h3:a.cell? p3=some v3)(h4:a.cell? p4=some v4)(h5:a.cell? p5=some v5):∀w',Ext a w'->w'.cell? p0=some v0/\w'.cell? p1=some v1/\w'.cell? p2=some v2/\w'.cell? p3=some v3/\w'.cell? p4=some v4/\w'.cell? p5=some v5:=fun _ e=>⟨e.cell h0,e.cell h1,e.cell h2,e.cell h3,e.cell h4,e.cell h5⟩
theorem hc7 {p0 p1 p2 p3 p4 p5 p6:Addr}{v0 v1 v2 v3 v4 v5 v6:Value}(h0:a.cell? p0=some v0)(h1:a.cell? p1=some v1)(h2:a.cell? p2=some v2)(h3:a.cell? p3=some v3)(h4:a.cell? p4=some v4)(h5:a.cell? p5=some v5)(h6:a.cell? p6=some v6):∀w',Ext a w'->w'.cell? p0=some v0/\w'.cell? p1=some v1/\w'.cell? p2=some v2/\w'.cell? p3=some v3/\w'.cell? p4=some v4/\w'.cell? p5=some v5/\w'.cell? p6=some v6:=fun _ e=>⟨e.cell h0,e.cell h1,e.cell h2,e.cell h3,e.cell h4,e.cell h5,e.cell h6⟩
theorem hc8 {p0 p1 p2 p3 p4 p5 p6 p7:Addr}{v0 v1 v2 v3 v4 v5 v6 v7:Value}(h0:a.cell? p0=some v0)(h1:a.cell? p1=some v1)(h2:a.cell? p2=some v2)(h3:a.cell? p3=some v3)(h4:a.cell? p4=some v4)(h5:a.cell? p5=some v5)(h6:a.cell? p6=some v6)(h7:a.cell? p7=some v7):∀w',Ext a w'->w'.cell? p0=some v0/\w'.cell? p1=some v1/\w'.cell? p2=some v2/\w'.cell? p3=some v3/\w'.cell? p4=some v4/\w'.cell? p5=some v5/\w'.cell? p6=some v6/\w'.cell? p7=some v7:=fun _ e=>⟨e.cell h0,e.cell h1,e.cell h2,e.cell h3,e.cell h4,e.cell h5,e.cell h6,e.cell h7⟩
theorem hc9 {p0 p1 p2 p3 p4 p5 p6 p7 p8:Addr}{v0 v1 v2 v3 v4 v5 v6 v7 v8:Value}(h0:a.cell? p0=some v0)(h1:a.cell? p1=some v1)(h2:a.cell? p2=some v2)(h3:a.cell? p3=some v3)(h4:a.cell? p4=some v4)(h5:a.cell? p5=some v5)(h6:a.cell? p6=some v6)(h7:a.cell? p7=some v7)(h8:a.cell? p8=some v8):∀w',Ext a w'->w'.cell? p0=some v0/\w'.cell? p1=some v1/\w'.cell? p2=some v2/\w'.cell? p3=some v3/\w'.cell? p4=some v4/\w'.cell? p5=some v5/\w'.cell? p6=some v6/\w'.cell? p7=some v7/\w'.cell? p8=some v8:=fun _ e=>⟨e.cell h0,e.cell h1,e.cell h2,e.cell h3,e.cell h4,e.cell h5,e.cell h6,e.cell h7,e.cell h8⟩
theorem hc10 {p0 p1 p2 p3 p4 p5 p6 p7 p8 p9:Addr}{v0 v1 v2 v3 v4 v5 v6 v7 v8 v9:Value}(h0:a.cell? p0=some v0)(h1:a.cell? p1=some v1)(h2:a.cell? p2=some v2)(h3:a.cell? p3=some v3)(h4:a.cell? p4=some v4)(h5:a.cell? p5=some v5)(h6:a.cell? p6=some v6)(h7:a.cell? p7=some v7)(h8:a.cell? p8=some v8)(h9:a.cell? p9=some v9):∀w',Ext a w'->w'.cell? p0=some v0/\w'.cell? p1=some v1/\w'.cell? p2=some v2/\w'.cell? p3=some v3/\w'.cell? p4=some v4/\w'.cell? p5=some v5/\w'.cell? p6=some v6/\w'.cell? p7=some v7/\w'.cell? p8=some v8/\w'.cell? p9=some v9:=fun _ e=>⟨e.cell h0,e.cell h1,e.cell h2,e.cell h3,e.cell h4,e.cell h5,e.cell h6,e.cell h7,e.cell h8,e.cell h9⟩
theorem hc11 {p0 p1 p2 p3 p4 p5 p6 p7 p8 p9 p10:Addr}{v0 v1 v2 v3 v4 v5 v6 v7 v8 v9 v10:Value}(h0:a.cell? p0=some v0)(h1:a.cell? p1=some v1)(h2:a.cell? p2=some v2)(h3:a.cell? p3=some v3)(h4:a.cell? p4=some v4)(h5:a.cell? p5=some v5)(h6:a.cell? p6=some v6)(h7:a.cell? p7=some v7)(h8:a.cell? p8=some v8)(h9:a.cell? p9=some v9)(h10:a.cell? p10=some v10):∀w',Ext a w'->w'.cell? p0=some v0/\w'.cell? p1=some v1/\w'.cell? p2=some v2/\w'.cell? p3=some v3/\w'.cell? p4=some v4/\w'.cell? p5=some v5/\w'.cell? p6=some v6/\w'.cell? p7=some v7/\w'.cell? p8=some v8/\w'.cell? p9=some v9/\w'.cell? p10=some v10:=fun _ e=>⟨e.cell h0,e.cell h1,e.cell h2,e.cell h3,e.cell h4,e.cell h5,e.cell h6,e.cell h7,e.cell h8,e.cell h9,e.cell h10⟩
theorem hc12 {p0 p1 p2 p3 p4 p5 p6 p7 p8 p9 p10 p11:Addr}{v0 v1 v2 v3 v4 v5 v6 v7 v8 v9 v10 v11:Value}(h0:a.cell? p0=some v0)(h1:a.cell? p1=some v1)(h2:a.cell? p2=some v2)(h3:a.cell? p3=some v3)(h4:a.cell? p4=some v4)(h5:a.cell? p5=some v5)(h6:a.cell? p6=some v6)(h7:a.cell? p7=some v7)(h8:a.cell? p8=some v8)(h9:a.cell? p9=some v9)(h10:a.cell? p10=some v10)(h11:a.cell? p11=some v11):∀w',Ext a w'->w'.cell? p0=some v0/\w'.cell? p1=some v1/\w'.cell? p2=some v2/\w'.cell? p3=some v3/\w'.cell? p4=some v4/\w'.cell? p5=some v5/\w'.cell? p6=some v6/\w'.cell? p7=some v7/\w'.cell? p8=some v8/\w'.cell? p9=some v9/\w'.cell? p10=some v10/\w'.cell? p11=some v11:=fun _ e=>⟨e.cell h0,e.cell h1,e.cell h2,e.cell h3,e.cell h4,e.cell h5,e.cell h6,e.cell h7,e.cell h8,e.cell h9,e.cell h10,e.cell h11⟩
end Ext
theorem Ext.c {w w':World}{p:Addr}{v:Value}(h:Ext w w')(k:w.cell? p=some v):w'.cell? p=some v:=h.cell k
def Z2 (w:World)(b:Nat):Prop:=∃c e f,w.heap[b]? =some (.cells c e f)
theorem Z2.lt {w:World}{b:Nat}(h:Z2 w b):b<w.heap.size:=by
 obtain⟨c,e,f,h⟩:=h;exact(Array.getElem?_eq_some_iff.1 h).1
theorem wW {w:World}{p:Addr}{u:Value}(h:w.cell? p=some u):Z2 w p.block:=by
 unfold World.cell? at h
 split at h
 ·exact⟨_,_,_,by assumption⟩
 ·cases h
structure Rep (E:Type) where
 size:Nat
 pos:0<size
 rel:World->(Nat->Prop)->List Value->E->Prop
 keep:∀{w w':World} {S:Nat->Prop} {cs:List Value} {e:E},(∀b,S b->Z2 w b->w'.heap[b]? =w.heap[b]?)->rel w S cs e->rel w' S cs e
 mono:∀{w:World} {S S':Nat->Prop} {cs:List Value} {e:E},(∀b,S b->Z2 w b->S' b)->rel w S cs e->rel w S' cs e
 len:∀{w:World} {S:Nat->Prop} {cs:List Value} {e:E},rel w S cs e->cs.length=size
 one:∀{w:World} {S:Nat->Prop} {cs:List Value} {e:E},rel w S cs e->∀u∈cs,u.oneCell'=true
def All (_:Nat):Prop:=True
section
variable {E:Type}{R:Rep E}{w w':World}{S S':Nat->Prop}{v:Value}{l:List E}
theorem Rep.ext (R:Rep E){cs:List Value}{e:E}(h:Ext w w')(hr:R.rel w S cs e):R.rel w' S cs e:=R.keep (fun _ _ hb=>h.block hb.lt) hr
theorem Rep.all (R:Rep E){cs:List Value}{e:E}(hr:R.rel w S cs e):R.rel w All cs e:=R.mono (fun _ _ _=>trivial) hr
def Sl (R:Rep E)(w:World)(S:Nat->Prop)(v:Value)(l:List E):Prop:=
 ∃A c,v= .slice A l.length c/\l.length<=c/\c<=maxLen/\(A=none->c=0)/\
  (l≠[]->∃b off,A=some ⟨b,off,none⟩/\S b/\∀k e,l[k]? =some e->∃cs,R.rel w S cs e/\∀j u,cs[j]? =some u->w.cell? ⟨b,off+(k * R.size+j),none⟩=some u)
theorem Sl.keep (hk:∀b,S b->Z2 w b->w'.heap[b]? =w.heap[b]?)(h:Sl R w S v l):Sl R w' S v l:=by
 obtain⟨A,c,rfl,h1,h2,h3,h4⟩:=h;refine⟨A,c,rfl,h1,h2,h3,fun hl=>?_⟩;obtain⟨b,off,rfl,hS,hc⟩:=h4 hl;refine⟨b,off,rfl,hS,fun k e he=>?_⟩;obtain⟨cs,hr,hcs⟩:=hc k e he;refine⟨cs,R.keep hk hr,fun j u hu=>?_⟩;have hcell:=hcs j u hu;exact(World.cell?_of_block (w:=w) (hk b hS (wW hcell))).trans hcell
theorem Sl.mono (hk:∀b,S b->Z2 w b->S' b)(h:Sl R w S v l):Sl R w S' v l:=by
 obtain⟨A,c,rfl,h1,h2,h3,h4⟩:=h;refine⟨A,c,rfl,h1,h2,h3,fun hl=>?_⟩;obtain⟨b,off,rfl,hS,hc⟩:=h4 hl;refine⟨b,off,rfl, ?_,fun k e he=>?_⟩
 ·obtain⟨e0,l0,rfl⟩:=List.exists_cons_of_ne_nil hl;obtain⟨cs,hr,hcs⟩:=hc 0 e0 rfl;have hlen:=R.len hr;have hp:=R.pos;have h0:=hcs 0 cs[0] (Qq (by omega));exact hk b hS (wW h0)
 ·obtain⟨cs,hr,hcs⟩:=hc k e he;exact⟨cs,R.mono hk hr,hcs⟩
theorem Sl.ext (h:Sl R w S v l)(he:Ext w w'):Sl R w' S v l:=h.keep fun _ _ hb=>he.block hb.lt
theorem Sl.all (h:Sl R w S v l):Sl R w All v l:=h.mono fun _ _ _=>trivial
theorem Sl.form (h:Sl R w S v l):∃A c,v= .slice A l.length c/\l.length<=c/\c<=9223372036854775807:=by
 obtain⟨A,c,rfl,h1,h2,_⟩:=h;exact⟨A,c,rfl,h1,h2⟩
theorem Sl.nil:Sl R w S (.slice none 0 0) ([]:List E):=⟨none,0,rfl,by simp,by simp[maxLen],fun _=>rfl,fun h=>absurd rfl h⟩
theorem Sl.get {A:Option Addr}{n c k:Nat}{e:E}(h:Sl R w S (.slice A n c) l)(hk:l[k]? =some e):
  ∃b off cs,A=some ⟨b,off,none⟩/\R.rel w S cs e/\∀j u,cs[j]? =some u->w.cell? ⟨b,off+(k * R.size+j),none⟩=some u:=by
 obtain⟨A',c',hv,h1,h2,h3,h4⟩:=h;simp only[Value.slice.injEq]at hv;obtain⟨rfl,rfl,rfl⟩:=hv;have hne:l≠[]:=by rintro rfl;simp at hk
 obtain⟨b,off,rfl,_,hc⟩:=h4 hne;obtain⟨cs,hr,hcs⟩:=hc k e hk;exact⟨b,off,cs,rfl,hr,hcs⟩
theorem Sl.len {A:Option Addr}{n c:Nat}(h:Sl R w S (.slice A n c) l):n=l.length:=by
 obtain⟨A',c',hv,_⟩:=h;simp only[Value.slice.injEq]at hv;exact hv.2.1
theorem Sl.cap {A:Option Addr}{n c:Nat}(h:Sl R w S (.slice A n c) l):n<=c/\c<=9223372036854775807:=by
 obtain⟨A',c',hv,h1,h2,_⟩:=h;simp only[Value.slice.injEq]at hv;obtain⟨_,rfl,rfl⟩:=hv;exact⟨h1,h2⟩
theorem Sl.at0 {A:Option Addr}{n c:Nat}(h:Sl R w S (.slice A n c) l)(hl:0<n):∃b off,A=some ⟨b,off,none⟩:=by
 obtain⟨A',c',hv,h1,h2,h3,h4⟩:=h;simp only[Value.slice.injEq]at hv;obtain⟨rfl,rfl,rfl⟩:=hv;obtain⟨b,off,rfl,_⟩:=h4 (by rintro rfl;simp at hl);exact⟨b,off,rfl⟩
theorem Sl.take {A:Option Addr}{n c k:Nat}(h:Sl R w S (.slice A n c) l)(hk:k<=n):Sl R w S (.slice A k c) (l.take k):=by
 have hn:=h.len;obtain⟨A',c',hv,h1,h2,h3,h4⟩:=h;simp only[Value.slice.injEq]at hv;obtain⟨rfl,_,rfl⟩:=hv;have hl:(l.take k).length=k:=by rw[List.length_take];omega
 refine⟨A,c,by rw[hl],by omega,h2,h3,fun hne=>?_⟩;obtain⟨b,off,hA,hS,hc⟩:=h4 (by rintro rfl;simp at hne);refine⟨b,off,hA,hS,fun j e he=>?_⟩;rw[List.getElem?_take]at he
 split at he
 ·exact hc j e he
 ·cases he
theorem Sl.sub {b off n c i j:Nat}(h:Sl R w S (.slice (some ⟨b,off,none⟩) n c) l)(hij:i<=j)(hj:j<=n):Sl R w S (.slice (some ⟨b,off+i * R.size,none⟩) (j - i) (c - i)) ((l.drop i).take (j - i)):=by
 have hn:=h.len;obtain⟨A',c',hv,h1,h2,h3,h4⟩:=h;simp only[Value.slice.injEq]at hv;obtain⟨hA,_,hc⟩:=hv;subst hA;subst hc;have hl:((l.drop i).take (j - i)).length=j - i:=by rw[List.length_take,List.length_drop];omega
 refine⟨_,c - i,by rw[hl],by omega,by omega,by simp,fun hne=>?_⟩;obtain⟨b',off',hA,hS,hcell⟩:=h4 (by rintro rfl;simp at hne);simp only[Option.some.injEq,Addr.mk.injEq,and_true]at hA;obtain⟨rfl,rfl⟩:=hA;refine⟨b,off+i * R.size,rfl,hS,fun k e he=>?_⟩;rw[List.getElem?_take]at he
 split at he
 ·rw[List.getElem?_drop]at he;obtain⟨cs,hr,hcs⟩:=hcell (i+k) e he;refine⟨cs,hr,fun t u hu=>?_⟩;have:=hcs t u hu
  rwa [show off+((i+k) * R.size+t)=off+i * R.size+(k * R.size+t) by rw[Nat.add_mul];omega]at this
 ·cases he
def QD (R:Rep E)(w:World)(S:Nat->Prop):List Value->List E->Prop
 |xs,[]=>xs=[]
 |xs,e :: l=>∃cs rest,xs=cs ++ rest/\R.rel w S cs e/\QD R w S rest l
theorem QD.keep (hk:∀b,S b->Z2 w b->w'.heap[b]? =w.heap[b]?):∀{l:List E} {xs:List Value},QD R w S xs l->QD R w' S xs l
 |[],_,h=>h
 |_ :: _,_,⟨cs,rest,hx,hr,h⟩=>⟨cs,rest,hx,R.keep hk hr,QD.keep hk h⟩
theorem QD.mono (hk:∀b,S b->Z2 w b->S' b):∀{l:List E} {xs:List Value},QD R w S xs l->QD R w S' xs l
 |[],_,h=>h
 |_ :: _,_,⟨cs,rest,hx,hr,h⟩=>⟨cs,rest,hx,R.mono hk hr,QD.mono hk h⟩
theorem QD.append:∀{l:List E} {xs ys:List Value} {l':List E},QD R w S xs l->QD R w S ys l'->QD R w S (xs ++ ys) (l ++ l')
 |[],_,_,_,h,h'=>by rw[show _=[] from h];exact h'
 |_ :: _,_,_,_,⟨cs,rest,hx,hr,h⟩,h'=>⟨cs,rest ++ _,by rw[hx,List.append_assoc],hr,QD.append h h'⟩
theorem QD.single {cs:List Value}{e:E}(h:R.rel w S cs e):QD R w S cs [e]:=⟨cs,[],by simp,h,rfl⟩
theorem QD.length:∀{l:List E} {xs:List Value},QD R w S xs l->xs.length=l.length * R.size
 |[],_,h=>by rw[show _=[] from h];simp
 |_ :: l,_,⟨cs,rest,hx,hr,h⟩=>by
  rw[hx,List.length_append,R.len hr,QD.length h,List.length_cons,Nat.succ_mul,Nat.add_comm]
theorem QD.one:∀{l:List E} {xs:List Value},QD R w S xs l->∀u∈xs,u.oneCell'=true
 |[],_,h,u,hu=>by rw[show _=[] from h]at hu;simp at hu
 |_ :: _,_,⟨cs,rest,hx,hr,h⟩,u,hu=>by
  rw[hx,List.mem_append]at hu;exact hu.elim (R.one hr u) (QD.one h u)
theorem QD.get:∀{l:List E} {xs:List Value} {k:Nat} {e:E},QD R w S xs l->l[k]? =some e->∃cs,R.rel w S cs e/\∀j u,cs[j]? =some u->xs[k * R.size+j]? =some u
 |[],_,_,_,_,hk=>by simp at hk
 |_ :: _,_,0,_,⟨cs,rest,hx,hr,h⟩,hk=>by
  simp at hk;subst hk;refine⟨cs,hr,fun j u hu=>?_⟩;rw[hx,Nat.zero_mul,Nat.zero_add,List.getElem?_append_left (Qz hu).1];exact hu
 |_ :: _,_,k+1,_,⟨cs,rest,hx,hr,h⟩,hk=>by
  obtain⟨cs',hr',hc'⟩:=QD.get h (by simpa using hk);refine⟨cs',hr',fun j u hu=>?_⟩;have hl:=R.len hr;rw[hx,List.getElem?_append_right (by rw[hl,Nat.succ_mul];omega),hl,show(k+1) * R.size+j - R.size=k * R.size+j by rw[Nat.succ_mul];omega];exact hc' j u hu
theorem uB (b off:Nat):∀(l:List E) (k0:Nat),(∀k e,l[k]? =some e->∃cs,R.rel w S cs e/\∀j u,cs[j]? =some u->w.cell? ⟨b,off+((k0+k) * R.size+j),none⟩=some u)->
  ∃xs,QD R w S xs l/\∀j u,xs[j]? =some u->w.cell? ⟨b,off+(k0 * R.size+j),none⟩=some u
 |[],_,_=>⟨[],rfl,fun j u hu=>by simp at hu⟩
 | e :: l,k0,h=>by
  obtain⟨cs,hr,hc⟩:=h 0 e rfl
  obtain⟨xs,hx,hxc⟩:=uB b off l (k0+1) (fun k e' he=>by
   have:=h (k+1) e' (by simpa using he)
   rwa [show k0+(k+1)=k0+1+k by omega]at this)
  refine⟨cs ++ xs,⟨cs,xs,rfl,hr,hx⟩,fun j u hu=>?_⟩;have hl:=R.len hr;by_cases hj:j<cs.length
  ·rw[List.getElem?_append_left hj]at hu;simpa using hc j u hu
  ·rw[List.getElem?_append_right (by omega)]at hu;have:=hxc _ u hu
   rwa [show(k0+1) * R.size+(j - cs.length)=k0 * R.size+j by rw[Nat.succ_mul];omega]at this
theorem Sl.chunks {b off n c:Nat}(h:Sl R w S (.slice (some ⟨b,off,none⟩) n c) l):∃xs,QD R w S xs l/\∀j u,xs[j]? =some u->w.cell? ⟨b,off+j,none⟩=some u:=by
 by_cases hl:l=[]
 ·subst hl;exact⟨[],rfl,fun j u hu=>by simp at hu⟩
 ·obtain⟨A',c',hv,h1,h2,h3,h4⟩:=h;simp only[Value.slice.injEq]at hv;obtain⟨hA,_,_⟩:=hv;subst hA;obtain⟨b',off',hA,_,hc⟩:=h4 hl;simp only[Option.some.injEq,Addr.mk.injEq,and_true]at hA;obtain⟨rfl,rfl⟩:=hA;obtain⟨xs,hx,hxc⟩:=uB b off l 0 (by simpa using hc);exact⟨xs,hx,by simpa using hxc⟩
theorem Sl.chunksA {ad:Addr}{n c:Nat}(h:Sl R w S (.slice (some ad) n c) l):∃xs,QD R w S xs l/\∀j u,xs[j]? =some u->w.cell? (ad.add j)=some u:=by
 by_cases hl:l=[]
 ·subst hl;exact⟨[],rfl,fun j u hu=>by simp at hu⟩
 ·obtain⟨b,off,hA⟩:=h.at0 (by rw[h.len];exact List.length_pos_iff.2 hl);injection hA with hA
  subst hA;obtain⟨xs,hx,hc⟩:=h.chunks;refine⟨xs,hx,fun j u hu=>?_⟩;have e:(⟨b,off,none⟩:Addr).add j=⟨b,off+j,none⟩:=by unfold Addr.add;split <;> simp_all
  rw[e];exact hc j u hu
theorem JG {b off c:Nat}{xs:List Value}(hS:S b)(h:QD R w S xs l)(hc:∀j u,xs[j]? =some u->w.cell? ⟨b,off+j,none⟩=some u)(h1:l.length<=c)(h2:c<=maxLen):
  Sl R w S (.slice (some ⟨b,off,none⟩) l.length c) l:=by
 refine⟨_,c,rfl,h1,h2,by simp,fun _=>⟨b,off,rfl,hS,fun k e he=>?_⟩⟩;obtain⟨cs,hr,hg⟩:=h.get he;exact⟨cs,hr,fun j u hu=>hc _ u (hg j u hu)⟩
def Qf (R:Rep E)(w:World)(base:Nat)(e:TypeId)(T:Nat->Prop)(v:Value)(l:List E):Prop:=
 ∃xs,w.ownsRow base e R.size v l.length xs/\QD R w (fun b=>T b/\some b≠v.ownBlock) xs l
abbrev Own (R:Rep E)(w:World)(base:Nat)(e:TypeId)(v:Value)(l:List E):Prop:=Qf R w base e All v l
variable {base:Nat}{e:TypeId}{T:Nat->Prop}
theorem Qf.nil:Qf R w base e T (.slice none 0 0) ([]:List E):=⟨[],by simpa using World.ownsRow_nil w base e R.size,rfl⟩
theorem Qf.ext (h:Qf R w base e T v l)(he:Ext w w'):Qf R w' base e T v l:=by
 obtain⟨xs,ho,hc⟩:=h;exact⟨xs,ho.kept (he.grownBy none) (by cases v.ownBlock <;> simp),hc.keep fun b _ hb=>he.block hb.lt⟩
theorem Qf.al (h:Qf R w base e T v l)(o:Obj):Qf R (w.alloc o) base e T v l:=h.ext ((Ext.refl w).alloc o)
theorem Qf.dr (h:Qf R w base e T v l):Qf R w.drew base e T v l:=h.ext (Ext.refl w).drew
theorem Qf.form (h:Qf R w base e T v l):∃A c,v= .slice A l.length c/\l.length<=c/\c<=9223372036854775807:=by
 obtain⟨xs,ho,_⟩:=h;rcases ho.2 with⟨rfl,hn⟩|⟨g,cap,cur,rfl,_,_,h1,h2,_⟩
 ·exact⟨none,0,by rw[hn],by omega,by omega⟩
 ·exact⟨_,cap,rfl,h1,by simpa [maxLen] using h2⟩
theorem Qf.sl (h:Qf R w base e T v l):Sl R w All v l:=by
 obtain⟨xs,ho,hc⟩:=h;have hc':QD R w All xs l:=hc.mono fun _ _ _=>trivial;rcases ho.2 with⟨rfl,hn⟩|⟨g,cap,cur,rfl,_,hg,h1,h2,_⟩
 ·obtain rfl:l=[]:=List.eq_nil_of_length_eq_zero hn;exact Sl.nil
 ·refine JG trivial hc' (fun j u hu=>?_) h1 h2;have:=ho.cells (g:=g) rfl j u hu;have e:(⟨g,0,none⟩:Addr).add j=⟨g,0+j,none⟩:=by unfold Addr.add;split <;> simp_all
  rwa [e]at this
theorem Qf.block (h:Qf R w base e T v l):∀k,v.ownBlock=some k->base<=k/\k<w.heap.size:=by
 obtain⟨xs,ho,_⟩:=h;exact ho.lt
theorem Qf.kept {row:Option Nat}(h:Qf R w base e T v l)(hg:w.grownBy w' row)(hne:v.ownBlock=none\/v.ownBlock≠row)(hk:∀b,T b->some b≠v.ownBlock->Z2 w b->w'.heap[b]? =w.heap[b]?):Qf R w' base e T v l:=by
 obtain⟨xs,ho,hc⟩:=h;exact⟨xs,ho.kept hg hne,hc.keep fun b hb hi=>hk b hb.1 hb.2 hi⟩
theorem Qf.lower {base':Nat}(h:Qf R w base e T v l)(hb:base'<=base):Qf R w base' e T v l:=by
 obtain⟨xs,⟨h1,h2⟩,hc⟩:=h;refine⟨xs,⟨h1, ?_⟩,hc⟩;rcases h2 with h2|⟨g,cap,cur,hv,hg,r⟩
 ·exact .inl h2
 ·exact .inr ⟨g,cap,cur,hv,by omega,r⟩
theorem Jf {b g n c:Nat}(h:b<g):some b≠(Value.slice (some ⟨g,0,none⟩) n c).ownBlock:=by
 intro he;simp only[Value.ownBlock,Option.some.injEq]at he;omega
theorem xX {g n c k:Nat}(h:(Value.slice (some ⟨g,0,none⟩) n c).ownBlock=some k):k=g:=by
 simp only[Value.ownBlock,Option.some.injEq]at h;exact h.symm
theorem Qf.set_far (h:Qf R w base e T v l){p:Addr}{u:Value}(hp:v.ownBlock≠some p.block)(hT:∀b,T b->b≠p.block):Qf R (w.setCell p u) base e T v l:=by
 refine h.kept (row:=some p.block) ⟨rfl,rfl,rfl,by simp,fun k _ hk=>Below.heap_setCell _ _ _ _ (fun e=>hk (by rw[e]))⟩ (.inr hp) fun b hb _ _=>Below.heap_setCell _ _ _ _ (hT b hb)
theorem Qf.slT (h:Qf R w base e T v l)(h1:∀b,T b->S b)(h2:∀k,v.ownBlock=some k->S k):Sl R w S v l:=by
 obtain⟨xs,ho,hc⟩:=h;have hc':QD R w S xs l:=hc.mono fun b hb _=>h1 b hb.1;rcases ho.2 with⟨rfl,hn⟩|⟨g,cap,cur,rfl,_,hg,h3,h4,_⟩
 ·obtain rfl:l=[]:=List.eq_nil_of_length_eq_zero hn;exact Sl.nil
 ·refine JG (h2 g rfl) hc' (fun j u hu=>?_) h3 h4;have:=ho.cells (g:=g) rfl j u hu;have e:(⟨g,0,none⟩:Addr).add j=⟨g,0+j,none⟩:=by unfold Addr.add;split <;> simp_all
  rwa [e]at this
theorem Qf.fresh0 (w:World)(hb:base<=w.heap.size):Qf R (w.alloc (.cells #[] e)) base e T (.slice (some ⟨w.heap.size,0,none⟩) 0 0) ([]:List E):=
 ⟨[],by simpa using World.ownsRow_made w #[] 0 hb (by simp[maxLen]) (by simp),rfl⟩
theorem JF (w:World)(cs:List Value)(t:TypeId):∀j u,cs[j]? =some u->(w.alloc (.cells cs.toArray t)).cell? ((⟨w.heap.size,0,none⟩:Addr).add j)=some u:=by
 intro j u hu;have e:(⟨w.heap.size,0,none⟩:Addr).add j=⟨w.heap.size,j,none⟩:=by unfold Addr.add;split <;> simp_all
 rw[e];simpa using hu
section
variable {P:Program}
theorem Y7 (W:World)(t ty e:TypeId)(i:TypeInfo)(z:Value)(size bytes:Nat)(ht:P.underlying t=some (.slice e))(hi:P.info? e=some i)(hz:i.zero=some z)
  (hsize:i.size=size) (hby:i.bytes=bytes) (hzs:z.cells.size=size) (hR:R.size=size)
  (v:Value) (l:List E) (hown:Qf R W base e T v l)
  (ad:Addr) (m c:Nat) (ys:List E) (news:List Value) (hm:m=ys.length) (hnews:QD R W (fun b=>T b/\some b≠v.ownBlock) news ys)
  (hcell:∀j u,news[j]? =some u->W.cell? (ad.add j)=some u)
  (h63:l.length+m<=9223372036854775807) (hbytes:(l.length+m) * bytes<=140737488355328) (hbase:base<=W.heap.size):
  ∃A' c' W',(Builtin.append_ #[t,t] ty #[v,.slice (some ad) m c]).run P W= .ok (.slice A' (l.length+m) c') W'/\Qf R W' base e T (.slice A' (l.length+m) c') (l ++ ys)/\W.grownBy W' v.ownBlock/\
   ((Value.slice A' (l.length+m) c').ownBlock=v.ownBlock\/(Value.slice A' (l.length+m) c').ownBlock=some W.heap.size):=by
 obtain⟨xs,ho,hc⟩:=hown;have hpos:=R.pos;subst hm;subst hR;obtain⟨v',W',hrun,h2,h3,_,h5⟩:=run_append_own_at (P:=P) W base t ty e i z R.size bytes ht hi hz hsize hby hzs hpos v l.length xs ho ad ys.length c news hnews.length hcell hnews.one (by simpa [maxLen] using h63) hbytes hbase
 have hform:∃A' c',v'= .slice A' (l.length+ys.length) c':=by
  rcases h2.2 with⟨rfl,hn⟩|⟨g,cap,cur,rfl,_⟩
  ·exact⟨none,0,by rw[hn]⟩
  ·exact⟨_,_,rfl⟩
 obtain⟨A',c',rfl⟩:=hform;refine⟨A',c',W',hrun,⟨xs ++ news,by simpa using h2, ?_⟩,h3,h5⟩;have hcat:=hc.append hnews
 have hk:QD R W' (fun b=>(T b/\some b≠v.ownBlock)/\b<W.heap.size) (xs ++ news) (l ++ ys):=
  (hcat.mono (S':=fun b=>(T b/\some b≠v.ownBlock)/\b<W.heap.size) fun b hb hlt=>⟨hb,hlt.lt⟩).keep fun b hb hlt=>h3.block b hlt.lt hb.1.2
 refine hk.mono fun b hb _=>⟨hb.1.1, ?_⟩;rcases h5 with e|e <;> rw[e]
 ·exact hb.1.2
 ·intro he;injection he with he
  omega
theorem l7 {ops:Array Oper}{rest:List Oper}{o:Oper}{a:Act}{Q:Exit->Act->World->Prop}{W:World}(hgd:o.guard=none)(s x:Operand)(t:TypeId)
  (ho:o.op= .call {callee:= .builtin .append,args:= #[s,x],argTypes:= #[t,t]})
  (base:Nat) (e:TypeId) (i:TypeInfo) (z:Value) (size bytes:Nat) (ht:P.underlying t=some (.slice e)) (hi:P.info? e=some i) (hz:i.zero=some z)
  (hsize:i.size=size) (hby:i.bytes=bytes) (hzs:z.cells.size=size) (R:Rep E) (hR:R.size=size)
  (v:Value) (l:List E) (hs:a.eval s=v) (hown:Qf R W base e T v l)
  (ad:Addr) (m c:Nat) (ys:List E) (news:List Value) (hx:a.eval x= .slice (some ad) m c) (hm:m=ys.length) (hnews:QD R W (fun b=>T b/\some b≠v.ownBlock) news ys)
  (hcell:∀j u,news[j]? =some u->W.cell? (ad.add j)=some u)
  (h63:l.length+m<=9223372036854775807) (hbytes:(l.length+m) * bytes<=140737488355328) (hbase:base<=W.heap.size)
  (h:∀A' c' W',Qf R W' base e T (.slice A' (l.length+m) c') (l ++ ys)->W.grownBy W' v.ownBlock->
   ((Value.slice A' (l.length+m) c').ownBlock=v.ownBlock\/(Value.slice A' (l.length+m) c').ownBlock=some W.heap.size)->wpList P ops Q rest (a.put o.dst (.slice A' (l.length+m) c')) W'):
  wpList P ops Q (o :: rest) a W:=
 wpList_plain hgd fun _ hK=>by
  obtain⟨A',c',W',hrun,h2,h3,h4⟩:=Y7 (P:=P) W t o.type e i z size bytes ht hi hz hsize hby hzs hR v l hown ad m c ys news hm hnews hcell h63 hbytes hbase;unfold Oper.wp execOp;simp only[ho,resolve,invoke,builtin,Sem.run_bind,Sem.run_pure,Result.andThen_ok,List.map_toArray,List.map_cons,List.map_nil,hs,hx,hrun];exact hK _ _ (h A' c' W' h2 h3 h4)
theorem sq (W:World)(t ty e:TypeId)(i:TypeInfo)(ht:P.underlying t=some (.slice e))(hi:P.info? e=some i)
  (v:Value) (l:List E) (hown:Qf R W base e T v l) (c:Nat):(Builtin.append_ #[t,t] ty #[v,.slice none 0 c]).run P W= .ok v W:=by
 obtain⟨xs,ho,_⟩:=hown;rcases ho.2 with⟨rfl,_⟩|⟨g,cap,cur,rfl,_,_,hnc,_⟩
 ·simp[Builtin.append_,run_underlying ht,sizeOf,typeInfo,hi,Builtin.lenOf,Builtin.firstCells]
 ·simp[Builtin.append_,run_underlying ht,sizeOf,typeInfo,hi,Builtin.lenOf,Builtin.firstCells,hnc,storeCells]
theorem sv (W:World)(t ty e:TypeId)(i:TypeInfo)(z:Value)(size bytes:Nat)(ht:P.underlying t=some (.slice e))(hi:P.info? e=some i)(hz:i.zero=some z)
  (hsize:i.size=size) (hby:i.bytes=bytes) (hzs:z.cells.size=size) (hR:R.size=size)
  (v:Value) (l:List E) (hown:Qf R W base e T v l)
  (A:Option Addr) (m c:Nat) (ys:List E) (hsrc:Sl R W S (.slice A m c) ys) (hS:∀b,S b->Z2 W b->T b/\some b≠v.ownBlock)
  (h63:l.length+m<=9223372036854775807) (hbytes:(l.length+m) * bytes<=140737488355328) (hbase:base<=W.heap.size):
  ∃A' c' W',(Builtin.append_ #[t,t] ty #[v,.slice A m c]).run P W= .ok (.slice A' (l.length+m) c') W'/\Qf R W' base e T (.slice A' (l.length+m) c') (l ++ ys)/\W.grownBy W' v.ownBlock/\
   ((Value.slice A' (l.length+m) c').ownBlock=v.ownBlock\/(Value.slice A' (l.length+m) c').ownBlock=some W.heap.size):=by
 have hm:=hsrc.len;rcases A with _|ad
 ·have hys:ys=[]:=by
   cases ys with
   |nil=>rfl
   |cons y ys=>
    obtain⟨b,off,h⟩:=hsrc.at0 (by rw[hm];simp);cases h
  subst hys;obtain rfl:m=0:=by simpa using hm
  obtain⟨A0,c0,hv,_⟩:=hown.form;subst hv;exact⟨A0,c0,W,sq W t ty e i ht hi _ l hown c,by simpa using hown,World.grownBy.refl W _,.inl rfl⟩
 ·obtain⟨news,hc,hcell⟩:=hsrc.chunksA;exact Y7 W t ty e i z size bytes ht hi hz hsize hby hzs hR v l hown ad m c ys news hm (hc.mono hS) hcell h63 hbytes hbase
theorem Yy {ops:Array Oper}{rest:List Oper}{o:Oper}{a:Act}{Q:Exit->Act->World->Prop}{W:World}(hgd:o.guard=none)(s x:Operand)(t:TypeId)
  (ho:o.op= .call {callee:= .builtin .append,args:= #[s,x],argTypes:= #[t,t]})
  (base:Nat) (e:TypeId) (i:TypeInfo) (z:Value) (size bytes:Nat) (ht:P.underlying t=some (.slice e)) (hi:P.info? e=some i) (hz:i.zero=some z)
  (hsize:i.size=size) (hby:i.bytes=bytes) (hzs:z.cells.size=size) (R:Rep E) (hR:R.size=size)
  (v:Value) (l:List E) (hs:a.eval s=v) (hown:Qf R W base e T v l)
  (A:Option Addr) (m c:Nat) (ys:List E) (S:Nat->Prop) (hx:a.eval x= .slice A m c) (hsrc:Sl R W S (.slice A m c) ys) (hS:∀b,S b->Z2 W b->T b/\some b≠v.ownBlock)
  (h63:l.length+m<=9223372036854775807) (hbytes:(l.length+m) * bytes<=140737488355328) (hbase:base<=W.heap.size)
  (h:∀A' c' W',Qf R W' base e T (.slice A' (l.length+m) c') (l ++ ys)->W.grownBy W' v.ownBlock->
   ((Value.slice A' (l.length+m) c').ownBlock=v.ownBlock\/(Value.slice A' (l.length+m) c').ownBlock=some W.heap.size)->wpList P ops Q rest (a.put o.dst (.slice A' (l.length+m) c')) W'):
  wpList P ops Q (o :: rest) a W:=
 wpList_plain hgd fun _ hK=>by
  obtain⟨A',c',W',hrun,h2,h3,h4⟩:=sv (P:=P) W t o.type e i z size bytes ht hi hz hsize hby hzs hR v l hown A m c ys hsrc hS h63 hbytes hbase;unfold Oper.wp execOp;simp only[ho,resolve,invoke,builtin,Sem.run_bind,Sem.run_pure,Result.andThen_ok,List.map_toArray,List.map_cons,List.map_nil,hs,hx,hrun];exact hK _ _ (h A' c' W' h2 h3 h4)
end
end
def XG (k:IntKind)(bd:Nat):Rep Nat where
 size:=1
 pos:=by omega
 rel _ _ cs x:=cs=[.int k x]/\x<bd
 keep _ h:=h
 mono _ h:=h
 len h:=by rw[h.1];rfl
 one h u hu:=by rw[h.1]at hu;simp at hu;rw[hu];rfl
abbrev u8R:Rep Nat:=XG .u8 256
abbrev Hb:Rep Nat:=XG .u32 4294967296
def VM:Rep Int where
 size:=1
 pos:=by omega
 rel _ _ cs x:=cs=[.int .i64 x]/\ -9223372036854775808<=x/\x<=9223372036854775807
 keep _ h:=h
 mono _ h:=h
 len h:=by rw[h.1];rfl
 one h u hu:=by rw[h.1]at hu;simp at hu;rw[hu];rfl
def slR {E:Type}(R:Rep E):Rep (List E) where
 size:=1
 pos:=by omega
 rel w S cs l:=∃v,cs=[v]/\Sl R w S v l
 keep hk:=fun⟨v,h1,h2⟩=>⟨v,h1,h2.keep hk⟩
 mono hk:=fun⟨v,h1,h2⟩=>⟨v,h1,h2.mono hk⟩
 len:=fun⟨v,h1,_⟩=>by rw[h1];rfl
 one:=fun⟨v,h1,h2⟩ u hu=>by
  obtain⟨A,c,rfl,_⟩:=h2.form;rw[h1]at hu;simp at hu;rw[hu];rfl
section
variable {w:World}{S T:Nat->Prop}{A:Option Addr}{n c k:Nat}
theorem Qf.at0 {E:Type}{R:Rep E}{base:Nat}{e:TypeId}{l:List E}(h:Qf R w base e T (.slice A n c) l)(hn:0<n):∃g,A=some ⟨g,0,none⟩/\base<=g/\g<w.heap.size:=by
 obtain⟨xs,ho,_⟩:=h;have hlt:=ho.lt;rcases ho.2 with⟨hv,h0⟩|⟨g,cap,cur,hv,_⟩
 ·injection hv with _ hv _
  omega
 ·injection hv with hA _ _
  subst hA;have:=hlt g rfl;exact⟨g,rfl,this.1,this.2⟩
theorem Qf.len {E:Type}{R:Rep E}{base:Nat}{e:TypeId}{l:List E}(h:Qf R w base e T (.slice A n c) l):n=l.length:=by
 obtain⟨A',c',hv,_⟩:=h.form;injection hv
theorem XV {kd:IntKind}{bd:Nat}:∀{l:List Nat} {xs:List Value},QD (XG kd bd) w S xs l↔(xs=l.map (fun x:Nat=>Value.int kd x)/\∀x∈l,x<bd)
 |[],xs=>by simp[QD]
 | y :: l,xs=>by
  constructor
  ·rintro⟨cs,rest,rfl,⟨rfl,hy⟩,h⟩;obtain⟨h1,h2⟩:=XV.1 h;refine⟨by rw[h1];rfl,fun x hx=>?_⟩;rcases List.mem_cons.1 hx with rfl|hx
   ·exact hy
   ·exact h2 x hx
  ·rintro⟨rfl,h⟩;exact⟨_,_,rfl,⟨rfl,h y (by simp)⟩,XV.2 ⟨rfl,fun x hx=>h x (by simp[hx])⟩⟩
theorem Qf.num_lt {kd:IntKind}{bd base:Nat}{e:TypeId}{l:List Nat}{v:Value}(h:Qf (XG kd bd) w base e T v l):∀x∈l,x<bd:=by
 obtain⟨xs,_,hc⟩:=h;exact(XV.1 hc).2
theorem Qf.num_cell {kd:IntKind}{bd base g:Nat}{e:TypeId}{l:List Nat}(h:Qf (XG kd bd) w base e T (.slice (some ⟨g,0,none⟩) n c) l){x:Nat}(hk:l[k]? =some x):
  w.cell? ⟨g,k,none⟩=some (.int kd x)/\w.frozen? ⟨g,k,none⟩=false:=by
 have hn:=h.len;obtain⟨xs,ho,hc⟩:=h;obtain⟨rfl,_⟩:=XV.1 hc;rw[<-hn]at ho;refine⟨?_,ho.frozenAt k⟩;rw[ho.cellAt k (by have:=(Qz hk).1;simp[XG];omega),List.getElem?_map,hk];rfl
theorem Qf.num_set {kd:IntKind}{bd base g:Nat}{e:TypeId}{l:List Nat}(h:Qf (XG kd bd) w base e T (.slice (some ⟨g,0,none⟩) n c) l){x:Nat}(hx:x<bd)(k:Nat):
  Qf (XG kd bd) (w.setCell ⟨g,k,none⟩ (.int kd x)) base e T (.slice (some ⟨g,0,none⟩) n c) (l.set k x):=by
 obtain⟨xs,ho,hc⟩:=h;obtain⟨rfl,hb⟩:=XV.1 hc
 have hn:n=l.length:=by
  rcases ho.2 with⟨hv,_⟩|⟨_,_,_,hv,_⟩
  ·cases hv
  ·injection hv
 subst hn;refine⟨(l.set k x).map (fun x:Nat=>Value.int kd x), ?_,XV.2 ⟨rfl,fun y hy=>?_⟩⟩
 ·have:=(ho.stored k (.int kd x)).1;rw[List.length_set,List.map_set];exact this
 ·rcases List.mem_or_eq_of_mem_set hy with h|rfl
  ·exact hb y h
  ·exact hx
theorem Qf.num_set_ext {kd:IntKind}{w0:World}{g k:Nat}{x:Nat}(he:Ext w0 w)(hg:w0.heap.size<=g):Ext w0 (w.setCell ⟨g,k,none⟩ (.int kd x)):=he.setCell hg _
theorem Qf.num_sl {kd:IntKind}{bd base:Nat}{e:TypeId}{T:Nat->Prop}{v:Value}{l:List Nat}(h:Qf (XG kd bd) w base e T v l)(hS:∀k,base<=k->S k):Sl (XG kd bd) w S v l:=by
 obtain⟨xs,ho,hc⟩:=h;have hb:=ho.lt;exact Qf.slT (T:=fun _=>False) ⟨xs,ho,XV.2 (XV.1 hc)⟩ (fun _ h=>h.elim) (fun k hk=>hS k (hb k hk).1)
theorem Sl.num_at {kd:IntKind}{bd:Nat}{l:List Nat}{x:Nat}(h:Sl (XG kd bd) w S (.slice A n c) l)(hk:l[k]? =some x):
  ∃b off,A=some ⟨b,off,none⟩/\w.cell? ⟨b,off+k,none⟩=some (.int kd x)/\x<bd:=by
 obtain⟨b,off,cs,hA,⟨hcs,hb⟩,hc⟩:=h.get hk;subst hcs;exact⟨b,off,hA,by simpa [XG] using hc 0 _ rfl,hb⟩
theorem Sl.num_lt {kd:IntKind}{bd:Nat}{l:List Nat}{v:Value}(h:Sl (XG kd bd) w S v l):∀x∈l,x<bd:=by
 intro x hx;obtain⟨k,hk,rfl⟩:=List.getElem_of_mem hx;obtain⟨A,c,rfl,_⟩:=h.form;exact(h.num_at (Qq hk)).choose_spec.choose_spec.2.2
end
end Go.Deco
namespace Go.Deco
open Go Go.RowKit
section
variable {E:Type}{R:Rep E}{base:Nat}{e:TypeId}{T:Nat->Prop}{P:Program}
theorem zq {ops:Array Oper}{rest:List Oper}{o:Oper}{a:Act}{Q:Exit->Act->World->Prop}{W:World}{cs:List Value}{u:TypeId}(hgd:o.guard=none)(s x:Operand)(t:TypeId)
  (ho:o.op= .call {callee:= .builtin .append,args:= #[s,x],argTypes:= #[t,t]})
  (base:Nat) (e:TypeId) (i:TypeInfo) (z:Value) (size bytes:Nat) (ht:P.underlying t=some (.slice e)) (hi:P.info? e=some i) (hz:i.zero=some z)
  (hsize:i.size=size) (hby:i.bytes=bytes) (hzs:z.cells.size=size) (R:Rep E) (hR:R.size=size)
  (v:Value) (l:List E) (hs:a.eval s=v) (hown:Qf R W base e T v l)
  (q:Nat) (hq:W.heap.size=q) (y:E) (hx:a.eval x= .slice (some ⟨q,0,none⟩) 1 1) (hy:R.rel W (fun b=>T b/\some b≠v.ownBlock) cs y)
  (h63:l.length+1<=9223372036854775807) (hbytes:(l.length+1) * bytes<=140737488355328) (hbase:base<=W.heap.size)
  (h:∀A' c' W',Qf R W' base e T (.slice A' (l.length+1) c') (l ++ [y])->(W.alloc (.cells cs.toArray u)).grownBy W' v.ownBlock->
   (∀g,(Value.slice A' (l.length+1) c').ownBlock=some g->v.ownBlock=some g\/W.heap.size<g)->
   wpList P ops Q rest (a.put o.dst (.slice A' (l.length+1) c')) W'):
  wpList P ops Q (o :: rest) a (W.alloc (.cells cs.toArray u)):=by
 subst hq
 refine l7 hgd s x t ho base e i z size bytes ht hi hz hsize hby hzs R hR v l hs (hown.al _) ⟨W.heap.size,0,none⟩ 1 1 [y] cs hx rfl
  (QD.single (R.ext ((Ext.refl W).alloc _) hy)) (JF W cs u) h63 hbytes (by simp;omega) fun A' c' W' h1 h2 h3=>h A' c' W' h1 h2 fun g hg=>?_
 rcases h3 with h3|h3
 ·exact .inl (by rw[<-h3];exact hg)
 ·have h4:some g=some (W.alloc (.cells cs.toArray u)).heap.size:=hg.symm.trans h3;injection h4 with h4
  simp at h4;exact .inr (by omega)
end
structure Sec where
 name:ByteArray
 addr:Nat
 data:List Nat
 wr:Bool
 ex:Bool
def FG (c:Nat):Bool:=(97<=c && c<=122) || (65<=c && c<=90) || (48<=c && c<=57) || c == 95 || c == 46
def Ff (s:ByteArray):Bool:=s.data.toList.all (fun c=>FG c.toNat) && decide (1<=s.size) && decide (s.size<=32)
def Hk (s:ByteArray)(k:Nat):Nat:=(s.data.toList[k]?.map (·.toNat)).getD 0
def gp (s:Sec):Nat:=min (s.addr+s.data.length) 4294967295
def rG (a b c d:Nat):Bool:=decide (max a c<min b d)
def G6 (x y:Sec):Bool:=rG x.addr (gp x) y.addr (gp y)
def rZ (pre:List Sec)(s:Sec):Nat:=
 if 65536<s.data.length then 6 else if Ff s.name=false then 3 else if pre.any (fun x=>x.name.toList == s.name.toList) then 8
 else if 4294967295<s.addr+s.data.length\/rG s.addr (gp s) 978944 983040=true then 7 else 0
def pB (pre:List Sec):List Sec->Nat
 |[]=>0
 |s :: r=>if rZ pre s=0 then pB (pre ++ [s]) r else rZ pre s
def overl (pre:List Sec):List Sec->Bool
 |[]=>false
 |s :: r=>pre.any (fun x=>G6 x s) || overl (pre ++ [s]) r
def FP (l:List Sec):Nat:=
 if 16<l.length then 6 else if pB [] l≠0 then pB [] l else if overl [] l then 10 else 0
theorem VC {E:Type}{l:List E}{k:Nat}{s:E}(hk:l[k]? =some s):l.take (k+1)=l.take k ++ [s]:=by
 rw[List.take_add_one,hk];rfl
def Hg:Rep Sec where
 size:=5
 pos:=by omega
 rel w S cs s:=∃dv,cs=[.string s.name,.int .u32 s.addr,dv,.bool s.wr,.bool s.ex]/\Sl u8R w S dv s.data/\s.addr<4294967296/\s.name.size<=9223372036854775807
 keep hk:=fun⟨dv,h1,h2,h3⟩=>⟨dv,h1,h2.keep hk,h3⟩
 mono hk:=fun⟨dv,h1,h2,h3⟩=>⟨dv,h1,h2.mono hk,h3⟩
 len:=fun⟨dv,h1,_⟩=>by rw[h1];rfl
 one:=fun⟨dv,h1,h2,_⟩ u hu=>by
  obtain⟨A,c,rfl,_⟩:=h2.form;rw[h1]at hu;simp at hu;rcases hu with rfl|rfl|rfl|rfl|rfl <;> rfl
section
variable {E:Type}{R:Rep E}{w:World}{S:Nat->Prop}{l:List E}
theorem Sl.part {A:Option Addr}{n c i j:Nat}(h:Sl R w S (.slice A n c) l)(hij:i<=j)(hj:j<=n):
  ∃A2,sliced A i j c R.size= .slice A2 (j - i) (c - i)/\Sl R w S (.slice A2 (j - i) (c - i)) ((l.drop i).take (j - i)):=by
 have hn:=h.len;obtain⟨hnc,hcm⟩:=h.cap;by_cases hl:l=[]
 ·subst hl;simp at hn;subst hn;obtain rfl:j=0:=by omega
  obtain rfl:i=0:=by omega
  refine⟨_,rfl, ?_⟩;obtain⟨A',c',hv,h1,h2,h3,h4⟩:=h;simp only[Value.slice.injEq]at hv;obtain⟨rfl,_,rfl⟩:=hv;refine⟨if c=0 then A else Option.map (fun x=>x.add (0 * R.size)) A,c,by simp,by simp,by simpa using h2, ?_,fun h=>absurd (by simp) h⟩;intro he
  split at he
  ·exact h3 he
  ·cases A with
   |none=>exact h3 rfl
   |some a=>cases he
 ·obtain⟨b,off,rfl⟩:=h.at0 (by rw[hn];exact List.length_pos_iff.2 hl);unfold sliced;refine⟨_,rfl, ?_⟩;by_cases hc:c=i
  ·subst hc;rw[if_pos rfl];obtain rfl:j=c:=by omega
   have e:(l.drop j).take (j - j)=[]:=by simp
   rw[e];exact⟨some ⟨b,off,none⟩,0,by simp,by simp,by simp[maxLen],by simp,fun h=>absurd rfl h⟩
  ·rw[if_neg hc]
   have e:Option.map (fun x:Addr=>x.add (i * R.size)) (some ⟨b,off,none⟩)=some ⟨b,off+i * R.size,none⟩:=by
    show some (Addr.add _ _)=_;unfold Addr.add
    split <;> simp_all
   rw[e];exact h.sub hij hj
variable {P:Program}
def D2 (a:Act):Option Operand->Nat->Prop
 |none,i=>i=0
 |some x,i=>a.eval x= .int .i64 i
def D1 (a:Act)(n:Nat):Option Operand->Nat->Prop
 |none,j=>j=n
 |some x,j=>a.eval x= .int .i64 j
theorem iC {t e:TypeId}{ti:TypeInfo}(ht:P.underlying t=some (.slice e))(hi:P.info? e=some ti)(hsz:ti.size=R.size){A:Option Addr}{n c i j:Nat}(h:Sl R w S (.slice A n c) l)
  (hij:i<=j) (hj:j<=n) (W:World) (lo hi':Option Value) (hlo:lo=none/\i=0\/lo=some (.int .i64 i)) (hhi:hi'=none/\j=n\/hi'=some (.int .i64 j)):
  ∃A2,(Instr.slice t (.slice A n c) lo hi' none).run P W= .ok (.slice A2 (j - i) (c - i)) W/\Sl R w S (.slice A2 (j - i) (c - i)) ((l.drop i).take (j - i)):=by
 obtain⟨A2,h1,h2⟩:=h.part hij hj;obtain⟨hnc,hcm⟩:=h.cap;refine⟨A2, ?_,h2⟩;have hel:P.elem t=e:=by simp[Program.elem,ht]
 have hs:(sizeOf (P.elem t)).run P W= .ok R.size W:=by rw[hel];simp[sizeOf,typeInfo,hi,hsz]
 rw[<-h1];have ht':P.underlying t=some (.slice (P.elem t)):=by rw[hel];exact ht
 rcases hlo with⟨rfl,rfl⟩|rfl <;> rcases hhi with⟨rfl,rfl⟩|rfl
 ·rw[run_slice_all (ht:=ht'),hs];rfl
 ·rw[run_slice_h (ht:=ht') (h0:=by omega) (h2:=by omega),hs];simp
 ·rw[run_slice_l (ht:=ht') (h0:=by omega) (h1:=by omega),hs];simp
 ·rw[run_slice_lh (ht:=ht') (h0:=by omega) (h1:=by omega) (h2:=by omega),hs];simp
theorem uX {ops:Array Oper}{rest:List Oper}{o:Oper}{a:Act}{Q:Exit->Act->World->Prop}{W:World}(hgd:o.guard=none)(t e:TypeId)(x:Operand)(lo hi:Option Operand)
  (ho:o.op= .slice t x lo hi none) (ht:P.underlying t=some (.slice e)) (ti:TypeInfo) (hinf:P.info? e=some ti) (R:Rep E) (hsz:ti.size=R.size)
  {A:Option Addr} {n c:Nat} (hx:a.eval x= .slice A n c) (hs:Sl R w S (.slice A n c) l) (i j:Nat) (hlo:D2 a lo i) (hhi:D1 a n hi j) (hij:i<=j) (hj:j<=n)
  (h:∀A2,Sl R w S (.slice A2 (j - i) (c - i)) ((l.drop i).take (j - i))->wpList P ops Q rest (a.put o.dst (.slice A2 (j - i) (c - i))) W):
  wpList P ops Q (o :: rest) a W:=
 wpList_plain hgd fun _ hK=>by
  obtain⟨A2,h1,h2⟩:=iC (P:=P) ht hinf hsz hs hij hj W (lo.map a.eval) (hi.map a.eval)
   (by cases lo with|none=>exact .inl ⟨rfl,hlo⟩|some y=>exact .inr (by show some (a.eval y)=_;rw[show a.eval y=_ from hlo]))
   (by cases hi with|none=>exact .inl ⟨rfl,hhi⟩|some y=>exact .inr (by show some (a.eval y)=_;rw[show a.eval y=_ from hhi]))
  unfold Oper.wp execOp;have hel:P.elem t=e:=by simp[Program.elem,ht]
  have ht':P.underlying t=some (.slice (P.elem t)):=by rw[hel];exact ht
  simp only[ho,Sem.run_bind,hx,Option.map_none,run_sliceAt_slice (h:=ht'),h1,Result.andThen_ok,Sem.run_pure];exact hK _ _ (h A2 h2)
theorem xP {ops:Array Oper}{rest:List Oper}{o:Oper}{a:Act}{Q:Exit->Act->World->Prop}{W:World}(t:TypeId)(x:Operand)(lo hi:Option Operand)(hgd:o.guard=none)
  (ho:o.op= .slice t x lo hi none) (h:wpList P ops Q (o :: rest) a W):wpList P ops Q (o :: rest) a W:=h
theorem bz {ops:Array Oper}{rest:List Oper}{o:Oper}{a:Act}{Q:Exit->Act->World->Prop}{W:World}(hgd:o.guard=none)(t e:TypeId)(x hi:Operand)
  (ho:o.op= .slice t x none (some hi) none) (ht:P.underlying t=some (.slice e)) (ti:TypeInfo) (hinf:P.info? e=some ti) (R:Rep E) (hsz:ti.size=R.size)
  {A:Option Addr} {n c:Nat} (hx:a.eval x= .slice A n c) (hs:Sl R w S (.slice A n c) l) (j:Nat) (hhi:a.eval hi= .int .i64 j) (hj:j<=n)
  (h:∀A2,Sl R w S (.slice A2 j c) (l.take j)->wpList P ops Q rest (a.put o.dst (.slice A2 j c)) W):wpList P ops Q (o :: rest) a W:=
 uX hgd t e x none (some hi) ho ht ti hinf R hsz hx hs 0 j rfl hhi (by omega) hj fun A2 h2=>h A2 (by simpa using h2)
theorem fW {ops:Array Oper}{rest:List Oper}{o:Oper}{a:Act}{Q:Exit->Act->World->Prop}{W:World}(hgd:o.guard=none)(t e:TypeId)(x lo:Operand)
  (ho:o.op= .slice t x (some lo) none none) (ht:P.underlying t=some (.slice e)) (ti:TypeInfo) (hinf:P.info? e=some ti) (R:Rep E) (hsz:ti.size=R.size)
  {A:Option Addr} {n c:Nat} (hx:a.eval x= .slice A n c) (hs:Sl R w S (.slice A n c) l) (i:Nat) (hlo:a.eval lo= .int .i64 i) (hi:i<=n)
  (h:∀A2,Sl R w S (.slice A2 (n - i) (c - i)) (l.drop i)->wpList P ops Q rest (a.put o.dst (.slice A2 (n - i) (c - i))) W):wpList P ops Q (o :: rest) a W:=
 uX hgd t e x (some lo) none ho ht ti hinf R hsz hx hs i n hlo rfl hi (Nat.le_refl _) fun A2 h2=>h A2 (by
  have hn:=hs.len
  rwa [Qj (by rw[List.length_drop];omega)]at h2)
end
end Go.Deco
