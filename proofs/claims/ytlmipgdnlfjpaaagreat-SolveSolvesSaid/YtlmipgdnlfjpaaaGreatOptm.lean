/- Lemmas of mine, merged. -/
import Derived.Test.YtlmipgdnlfjpaaaGreatRows
import Derived.Test.YtlmipgdnlfjpaaaGreatOpenm
import Derived.Test.YtlmipgdnlfjpaaaGreatTymm
set_option maxRecDepth 100000
namespace Go.Proofs.YtlmipgdnlfjpaaaGreat
open Go Go.RowKit Go.ChangeShapes Go.WideShapes Go.Deep Go.Joins Go.Deco
theorem vK {E:Type}{R:Rep E}{t e:TypeId}{H:Type}{enc:TypeId×Value->H}{w:World}{base:Nat}{spare:Nat->Bool}{held:Bool}{fuel:Nat}(ht:Tryz.prog.underlying t=some (.slice e))(hC:Tryz.prog.cellsOf e=R.size)
  (h:∀n,n<fuel->∀cs x,DataW.trod enc Tryz.prog w base spare held n e cs=some x->∃el,R.rel w All cs el) {cs:List Value} {x:DataW H×List MemPlace}
  (hx:DataW.trod enc Tryz.prog w base spare held fuel t cs=some x):∃l v,cs=[v]/\Sl R w All v l:=by
 rcases DataW.trod_slice ht hx with⟨rfl,_⟩|⟨a,len,cap,elems,rest,n,rfl,rfl,_,hb,hl,hm,hlen,hel, -, -⟩
 ·exact⟨[],_,rfl,Sl.nil⟩
 ·obtain⟨l,hll,hlp⟩:=nv (E:=E) (p:=fun i el=>∃cs,R.rel w All cs el/\∀j u,cs[j]? =some u->w.cell? ((a.add (i * R.size)).add j)=some u) len (fun i hi=>by
   have h0:=hel i hi;rw[Qq (by omega)]at h0;obtain⟨cs',hc,ht'⟩:=Option.bind_eq_some_iff.1 h0;rw[hC]at hc;obtain⟨el,hr⟩:=h n (by omega) cs' _ ht';obtain⟨_,hcl,hat⟩:=World.cells?_some hc;refine⟨el,cs',hr,fun j u hu=>?_⟩;have:=(Qz hu).1;rw[hat j (by omega),hu])
  refine⟨l,_,rfl,some a,cap,by rw[hll],by omega,hm,by simp,fun hne=>?_⟩;have hpos:=R.pos
  have h0:∃u,w.cell? a=some u:=by
   obtain⟨e0,l0,rfl⟩:=List.exists_cons_of_ne_nil hne;obtain⟨cs,hr,hc⟩:=hlp 0 e0 rfl;have hlen:=R.len hr;have:=hc 0 cs[0] (Qq (by omega));rw[Nat.zero_mul]at this;exact⟨_,this⟩
  obtain⟨u,h0⟩:=h0;have hsp:=ey h0;refine⟨a.block,a.off,by rw[<-hsp],trivial,fun k el hk=>?_⟩;obtain⟨cs,hr,hc⟩:=hlp k el hk;refine⟨cs,hr,fun j v hv=>?_⟩;have:=hc j v hv;rw[hsp,bj,bj]at this
  rwa [<-Nat.add_assoc]
theorem td {H:Type}{enc:TypeId×Value->H}{w:World}{base:Nat}{spare:Nat->Bool}{held:Bool}:∀(fuel:Nat) (cs:List Value) (x:DataW H×List MemPlace),
  DataW.trod enc Tryz.prog w base spare held fuel 42 cs=some x->∃t,(tyR fuel).rel w All cs t:=by
 intro fuel
 induction fuel using Nat.strongRecOn with
 | _ fuel ih=>
  intro cs x hx;obtain⟨xs,n,rfl,_,hcl,hlen,hf⟩:=DataW.trod_struct Tryz.underlying42 hx;have hcl:cs.length=5:=hcl.trans (by kernel_rfl)
  match cs,hcl with
  | [c0,c1,c2,c3,c4],_=>
   match xs,hlen with
   | [y0,y1,y2,y3,y4],_=>
    have h0:DataW.trod enc Tryz.prog w base spare held n 3 [c0]=some y0:=hf 0 _ rfl;have h1:DataW.trod enc Tryz.prog w base spare held n 3 [c1]=some y1:=hf 1 _ rfl;have h2:DataW.trod enc Tryz.prog w base spare held n 3 [c2]=some y2:=hf 2 _ rfl;have h3:DataW.trod enc Tryz.prog w base spare held n 25 [c3]=some y3:=hf 3 _ rfl;have h4:DataW.trod enc Tryz.prog w base spare held n 40 [c4]=some y4:=hf 4 _ rfl;obtain⟨k,hk,_,g0⟩:=DataW.trod_int Tryz.underlying3 h0;obtain⟨s,hs,_,g1⟩:=DataW.trod_int Tryz.underlying3 h1;obtain⟨c,hc,_,g2⟩:=DataW.trod_int Tryz.underlying3 h2;cases hk;cases hs;cases hc
    obtain⟨el,ve,he,hse⟩:=vK (R:=tyR n) Tryz.underlying25 ((show Tryz.prog.cellsOf 42=5 by kernel_rfl).trans (ZY n).symm) (fun m hm cs x hx=>by
     obtain⟨t,ht⟩:=ih m (by omega) cs x hx;exact⟨t,Km (by omega) _ _ _ _ ht⟩) h3
    obtain⟨fl,vf,hf',hsf⟩:=vK (R:=fdR (tyR n)) Tryz.underlying40 ((show Tryz.prog.cellsOf 59=6 by kernel_rfl).trans (ZJ n).symm) (fun m hm cs x hx=>by
     obtain⟨xs,q,rfl,_,hcl,hlen,hf⟩:=DataW.trod_struct Tryz.underlying59 hx;have hcl:cs.length=6:=hcl.trans (by kernel_rfl)
     match cs,hcl with
     | [d0,d1,d2,d3,d4,d5],_=>
      match xs,hlen with
      |[z0,z1],_=>
       have i0:DataW.trod enc Tryz.prog w base spare held q 3 [d0]=some z0:=hf 0 _ rfl;have i1:DataW.trod enc Tryz.prog w base spare held q 42 [d1,d2,d3,d4,d5]=some z1:=hf 1 _ rfl;obtain⟨o,ho,_,g3⟩:=DataW.trod_int Tryz.underlying3 i0;cases ho;obtain⟨t,ht⟩:=ih q (by omega) _ _ i1;have g3:=KC g3;exact⟨(o,t),_,rfl,Km (by omega) _ _ _ _ ht,by unfold Qy;simp only[];omega⟩) h4
    cases he;cases hf';have g0:=KC g0;have g1:=KC g1;have g2:=KC g2;exact⟨.mk k s c el fl,_,_,rfl,hse,hsf,by unfold Qy;simp only[Ty.kind];omega,by unfold Qy;simp only[Ty.size];omega,by unfold Qy;simp only[Ty.count];omega⟩
theorem sF {H:Type}{enc:TypeId×Value->H}{w:World}{base:Nat}{spare:Nat->Bool}{held:Bool}(fuel:Nat)(cs:List Value)(x:DataW H×List MemPlace)
  (hx:DataW.trod enc Tryz.prog w base spare held fuel 44 cs=some x):∃c,(Zf (tyR fuel)).rel w All cs c:=by
 obtain⟨xs,n,hn,_,hcl,hlen,hf⟩:=DataW.trod_struct Tryz.underlying44 hx;subst hn;have hcl:cs.length=10:=hcl.trans (by kernel_rfl)
 match cs,hcl with
 | [c0,c1,c2,c3,c4,c5,c6,c7,c8,c9],_=>
  match xs,hlen with
  |[y0,y1,y2,y3,y4,y5],_=>
   have h0:DataW.trod enc Tryz.prog w base spare held n 3 [c0]=some y0:=hf 0 _ rfl;have h1:DataW.trod enc Tryz.prog w base spare held n 3 [c1]=some y1:=hf 1 _ rfl;have h2:DataW.trod enc Tryz.prog w base spare held n 3 [c2]=some y2:=hf 2 _ rfl;have h3:DataW.trod enc Tryz.prog w base spare held n 3 [c3]=some y3:=hf 3 _ rfl;have h4:DataW.trod enc Tryz.prog w base spare held n 3 [c4]=some y4:=hf 4 _ rfl;have h5:DataW.trod enc Tryz.prog w base spare held n 42 [c5,c6,c7,c8,c9]=some y5:=hf 5 _ rfl;obtain⟨k,hk,_,g0⟩:=DataW.trod_int Tryz.underlying3 h0;obtain⟨a,ha,_,g1⟩:=DataW.trod_int Tryz.underlying3 h1;obtain⟨b,hb,_,g2⟩:=DataW.trod_int Tryz.underlying3 h2;obtain⟨o,ho,_,g3⟩:=DataW.trod_int Tryz.underlying3 h3;obtain⟨wd,hwd,_,g4⟩:=DataW.trod_int Tryz.underlying3 h4;cases hk;cases ha;cases hb;cases ho;cases hwd;obtain⟨t,ht⟩:=td n _ _ h5;have g0:=KC g0;have g1:=KC g1;have g2:=KC g2;have g3:=KC g3;have g4:=KC g4;exact⟨⟨k,a,b,o,wd,t⟩,_,rfl,Km (by omega) _ _ _ _ ht,by unfold VP Qy;simp only[];omega⟩
theorem GK {d d':Nat}(hd:d<=d'){w:World}{S:Nat->Prop}{cs:List Value}{c:Con}(h:(Zf (tyR d)).rel w S cs c):(Zf (tyR d')).rel w S cs c:=by
 obtain⟨r,h1,h2,h3⟩:=h;exact⟨r,h1,Km hd _ _ _ _ h2,h3⟩
theorem sW {H:Type}{enc:TypeId×Value->H}{w:World}{base:Nat}{spare:Nat->Bool}{held:Bool}{v:Value}{d:DataW H}{p:List MemPlace}{r:Reach}{b0:Nat}
  (hv:Value.okWide Tryz.prog w r b0 22 v) (hd:DataW.Trod enc Tryz.prog w base spare held 22 v d p):∃dp A c l,v= .slice A l.length c/\Sl (Zf (tyR dp)) w All (.slice A l.length c) l:=by
 obtain⟨a,n,c,rfl⟩:=okWide_slice Tryz.underlying22 hv;obtain⟨fuel,hf⟩:=hd
 obtain⟨l,v',hv',hs⟩:=vK (R:=Zf (tyR fuel)) Tryz.underlying22 ((show Tryz.prog.cellsOf 44=10 by kernel_rfl).trans (zd fuel).symm) (fun m hm cs x hx=>by
  obtain⟨c,hc⟩:=sF m cs x hx;exact⟨c,GK (by omega) hc⟩) hf
 have:v'= .slice a n c:=by
  simp[Value.cells]at hv';exact hv'.symm
 subst this;have hn:=hs.len;subst hn;exact⟨fuel,a,c,l,rfl,hs⟩
end Go.Proofs.YtlmipgdnlfjpaaaGreat
