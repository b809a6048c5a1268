/- Lemmas of mine, merged. -/
import Derived.Test.YtlmipgdnlfjpaaaGreatSoMm
import Derived.Test.YtlmipgdnlfjpaaaGreatSoNm
import Derived.Test.YtlmipgdnlfjpaaaGreatSobm
import Derived.Test.YtlmipgdnlfjpaaaGreatPlam
import Derived.Test.YtlmipgdnlfjpaaaGreatTycm
set_option maxRecDepth 100000
set_option maxHeartbeats 16000000
set_option linter.unusedSimpArgs false
set_option linter.unusedVariables false
namespace Go.Proofs.YtlmipgdnlfjpaaaGreat
open Go.RowKit Go.Deco Go.Maps
def Fx (w:World)(v:Value)(e:Ending)(w':World):Prop:=e= .returned v/\Ext w w'
theorem eK (w:World)(n:Int):Calls Tryz.prog 104 #[.int .i64 n] w (Fx w (.agg #[.int .i64 2,.int .i64 n,.int .i64 0,.slice none 0 0,.slice none 0 0])):=by
 go_enter Tryz.func104,Tryz.ntmps104
 go_wp2
 refine bodyPost_ret (v:= .agg #[.int .i64 2,.int .i64 n,.int .i64 0,.slice none 0 0,.slice none 0 0]) (by simp[results,Tryz.results104,go_sem]) rfl ?_;exact⟨rfl,by repeat (first|exact Ext.refl w|refine Ext.setCell ?_ (Nat.le_refl _) _|refine Ext.alloc ?_ _)⟩
def Kx (D:Zj)(b:Nat):Prop:=b=D.pb\/b=D.b0\/b=D.b0+1\/b=D.b0+2
structure Q4 (d:Nat)(D:Zj)(W0 W:World)(vl:Value)(l:List Con)(n:Nat)(P0:List Nat)(v6:Value)(scb N:Nat)(SC:List Ty)(T:Nat->Prop)(ft:Int->Option Value)(B:Nat->Prop)(w':World)(P':List Nat)(T':Nat->Prop)(ft' fc' fr':Int->Option Value):Prop where
 pts:PtS d D W0 w' vl l n P0 P' v6 scb N SC T' ft' fc' fr'
 chg:Chg (Kx D) W w'
 plc:∀b,T' b->T b\/W.heap.size<=b
 new:∀x,ft' x≠none->ft x≠none\/∃y:Nat,x=(y:Int)/\B y
 sub:∀b,T b->T' b
def kp (d:Nat)(D:Zj)(W0 W:World)(vl:Value)(l:List Con)(n:Nat)(P0:List Nat)(v6:Value)(scb N:Nat)(SC:List Ty)(T:Nat->Prop)(ft:Int->Option Value)(q:Nat)(e:Ending)(w':World):Prop:=
 ∃(v:Value) (t:Ty) (d' m:Nat) (P':List Nat) (T':Nat->Prop) (ft' fc' fr':Int->Option Value),e= .returned v/\TyV d' w' T' v t/\Q8 l m (q:Int) t/\QV t<=256/\fc' (q:Int)=some (.int .i64 (QV t))/\
  Q4 d D W0 W vl l n P0 v6 scb N SC T ft (fun y=>mu l n (y:Int)<=mu l n (q:Int)) w' P' T' ft' fc' fr'
def uJ (d:Nat)(D:Zj)(W0 W:World)(vl:Value)(l:List Con)(n:Nat)(P0:List Nat)(v6:Value)(scb N:Nat)(SC:List Ty)(T:Nat->Prop)(ft:Int->Option Value)(q:Nat)(o:Int)(e:Ending)(w':World):Prop:=
 ∃(v:Value) (t:Ty) (d' k:Nat) (ok:Bool) (P':List Nat) (T':Nat->Prop) (ft' fc' fr':Int->Option Value),e= .returned (.tuple #[v,.int .i64 k,.bool ok])/\TyV d' w' T' v t/\yy l (q:Int) o t k ok/\k<=1000000000/\
  Q4 d D W0 W vl l n P0 v6 scb N SC T ft (fun y=>mu l n (y:Int)<mu l n (q:Int)) w' P' T' ft' fc' fr'
def YB (d:Nat)(D:Zj)(W0:World)(vl:Value)(l:List Con)(n:Nat)(P0:List Nat)(v6:Value)(scb N:Nat)(SC:List Ty)(M:Nat):Prop:=
 ∀(q:Nat),q<n->Qb P0 q=q->Q9 l (q:Int)->mu l n (q:Int)<M->∀(W:World) (P:List Nat) (T:Nat->Prop) (ft fc fr:Int->Option Value),PtS d D W0 W vl l n P0 P v6 scb N SC T ft fc fr->
  Calls Tryz.prog 31 #[.pointer (some ⟨D.b0+5,0,none⟩),.int .i64 q] W (kp d D W0 W vl l n P0 v6 scb N SC T ft q)
section
variable {d:Nat}{D:Zj}{w0 W0 W w1 w2:World}{vl:Value}{l:List Con}{n:Nat}{P0 P1 P2:List Nat}{v6:Value}{scb N:Nat}{SC:List Ty}{T T1 T2:Nat->Prop}{ft ft1 ft2 fc1 fc2 fr1 fr2 fc fr:Int->Option Value}{B B':Nat->Prop}{P:List Nat}
theorem Q4.start (h:PtS d D W0 w1 vl l n P0 P1 v6 scb N SC T ft fc fr)(hc:Chg (Kx D) W w1):Q4 d D W0 W vl l n P0 v6 scb N SC T ft B w1 P1 T ft fc fr:=⟨h,hc,fun _ h=> .inl h,fun _ h=> .inl h,fun _ h=>h⟩
theorem Q4.trans (h:Q4 d D W0 W vl l n P0 v6 scb N SC T ft B w1 P1 T1 ft1 fc1 fr1)(k:Q4 d D W0 w1 vl l n P0 v6 scb N SC T1 ft1 B w2 P2 T2 ft2 fc2 fr2):Q4 d D W0 W vl l n P0 v6 scb N SC T ft B w2 P2 T2 ft2 fc2 fr2:=
 ⟨k.pts,h.chg.trans k.chg,fun b hb=>by
  rcases k.plc b hb with e|e
  ·exact h.plc b e
  ·exact .inr (Nat.le_trans h.chg.size e),fun x hx=>by
  rcases k.new x hx with e|e
  ·exact h.new x e
  ·exact .inr e,fun b hb=>k.sub b (h.sub b hb)⟩
theorem Q4.weak (h:Q4 d D W0 W vl l n P0 v6 scb N SC T ft B w1 P1 T1 ft1 fc1 fr1)(hB:∀y,B y->B' y):Q4 d D W0 W vl l n P0 v6 scb N SC T ft B' w1 P1 T1 ft1 fc1 fr1:=
 ⟨h.pts,h.chg,h.plc,fun x hx=>by
  rcases h.new x hx with e|⟨y,e1,e2⟩
  ·exact .inl e
  ·exact .inr ⟨y,e1,hB y e2⟩,h.sub⟩
theorem Q4.far {M:Nat->Prop}(S:Zw d D w0 W0 vl l n P0)(h:Q4 d D W0 W vl l n P0 v6 scb N SC T ft B w1 P1 T1 ft1 fc1 fr1)(hc:Chg M w1 w2)(hM:∀b,M b->W0.heap.size<=b/\W.heap.size<=b/\¬T1 b):Q4 d D W0 W vl l n P0 v6 scb N SC T ft B w2 P1 T1 ft1 fc1 fr1:=
 ⟨h.pts.far S hc (fun b hb=>⟨(hM b hb).1,(hM b hb).2.2⟩),h.chg.trans' hc (fun b hb=> .inr (hM b hb).2.1),h.plc,h.new,h.sub⟩
theorem Q4.ext (h:Q4 d D W0 W vl l n P0 v6 scb N SC T ft B w1 P1 T1 ft1 fc1 fr1)(he:Ext w1 w2):Q4 d D W0 W vl l n P0 v6 scb N SC T ft B w2 P1 T1 ft1 fc1 fr1:=⟨h.pts.ext he,h.chg.ext he,h.plc,h.new,h.sub⟩
theorem Q4.pb (S:Zw d D w0 W0 vl l n P0)(hN:0<n+l.length)(h:Q4 d D W0 W vl l n P0 v6 scb N SC T ft B w1 P1 T1 ft1 fc1 fr1)(h':Q6 D W0 w2 vl l n P0 P2 v6 (.slice (some ⟨scb,0,none⟩) N N))(hc:Chg (fun b=>b=D.pb) w1 w2):Q4 d D W0 W vl l n P0 v6 scb N SC T ft B w2 P2 T1 ft1 fc1 fr1:=
 ⟨h.pts.pb S hN h' hc,h.chg.trans (hc.mono fun b hb=> .inl hb),h.plc,h.new,h.sub⟩
end
theorem qd {d d':Nat}{w w':World}{S S':Nat->Prop}{v:Value}(h:TyV d w S v Ty.any):TyV d' w' S' v Ty.any:=by
 obtain⟨A,n,c,B,m,e,rfl,h1,h2,h3⟩:=h;obtain⟨A',c',hv,k1,k2,k3,k4⟩:=h1;obtain⟨B',e',hv',j1,j2,j3,j4⟩:=h2;exact⟨A,n,c,B,m,e,rfl,⟨A',c',hv,k1,k2,k3,fun h=>absurd rfl h⟩,⟨B',e',hv',j1,j2,j3,fun h=>absurd rfl h⟩,h3⟩
theorem Qm.chg {M:Nat->Prop}{w w':World}{b:Nat}{v0 v1 v2 v3 v4:Value}(h:Qm w b v0 v1 v2 v3 v4)(hc:Chg M w w')(hb:¬M b):Qm w' b v0 v1 v2 v3 v4:=by
 have hl:=h.lt;obtain⟨h0,h1,h2,h3,h4,h5⟩:=h;exact⟨hc.cell h0 hb,hc.cell h1 hb,hc.cell h2 hb,hc.cell h3 hb,hc.cell h4 hb,fun i=>(hc.frozen (p:=⟨b,i,none⟩) hl hb).trans (h5 i)⟩
theorem bQ {w:World}{mb n:Nat}{f:Int->Option Value}(h:MapG (QG Tryz.underlying3) w mb n f){q:Int}(hq:Qy q):(Instr.lookup 72 (.map (some mb)) (.int .i64 q) false).run Tryz.prog w= .ok ((f q).getD (.int .i64 0)) w:=by
 obtain⟨D,h1,h2⟩:=h;have hrun:=(Yw h1 (QG Tryz.underlying3).law Tryz.underlying72 (z:= .int .i64 0) (Tryz.zeroValue3 w) ((QG Tryz.underlying3).key hq)).1;rw[<-h2]at hrun;exact hrun
theorem XJ (w:World)(b:Nat)(v0 v1 v2 v3 v4:Value):Chg (fun x=>x=b) w (((((w.setCell ⟨b,0,none⟩ v0).setCell ⟨b,1,none⟩ v1).setCell ⟨b,2,none⟩ v2).setCell ⟨b,3,none⟩ v3).setCell ⟨b,4,none⟩ v4):=
 (((((Chg.refl (fun x=>x=b) w).set (p:=⟨b,0,none⟩) v0 rfl).set (p:=⟨b,1,none⟩) v1 rfl).set (p:=⟨b,2,none⟩) v2 rfl).set (p:=⟨b,3,none⟩) v3 rfl).set (p:=⟨b,4,none⟩) v4 rfl
theorem jJ {w W8:World}{b:Nat}{v0 v1 v2 v3 v4:Value}(h:((((w.setCell ⟨b,0,none⟩ v0).setCell ⟨b,1,none⟩ v1).setCell ⟨b,2,none⟩ v2).setCell ⟨b,3,none⟩ v3).setCell ⟨b,4,none⟩ v4=W8):Chg (fun x=>x=b) w W8:=by rw[<-h];exact XJ w b v0 v1 v2 v3 v4
theorem fX {w9 W9:World}{aP aQ g:Nat}{v0 v1 v2 v3 v4 u0 u1 u2 u3 u4:Value}(h:w9.cell? ⟨aP,0,none⟩=some v0/\w9.cell? ⟨aP,1,none⟩=some v1/\w9.cell? ⟨aP,2,none⟩=some v2/\w9.cell? ⟨aP,3,none⟩=some v3/\w9.cell? ⟨aP,4,none⟩=some v4/\w9.cell? ⟨aQ,0,none⟩=some u0/\w9.cell? ⟨aQ,1,none⟩=some u1/\w9.cell? ⟨aQ,2,none⟩=some u2/\w9.cell? ⟨aQ,3,none⟩=some u3/\w9.cell? ⟨aQ,4,none⟩=some u4)
  (hc:Chg (fun x=>x=g) w9 W9) (hz:g<aQ/\g<aP):
  W9.cell? ⟨aP,0,none⟩=some v0/\W9.cell? ⟨aP,1,none⟩=some v1/\W9.cell? ⟨aP,2,none⟩=some v2/\W9.cell? ⟨aP,3,none⟩=some v3/\W9.cell? ⟨aP,4,none⟩=some v4/\W9.cell? ⟨aQ,0,none⟩=some u0/\W9.cell? ⟨aQ,1,none⟩=some u1/\W9.cell? ⟨aQ,2,none⟩=some u2/\W9.cell? ⟨aQ,3,none⟩=some u3/\W9.cell? ⟨aQ,4,none⟩=some u4:=by
 have hP:¬aP=g:=by omega
 have hQ:¬aQ=g:=by omega
 obtain⟨h0,h1,h2,h3,h4,k0,k1,k2,k3,k4⟩:=h;exact⟨hc.cell h0 hP,hc.cell h1 hP,hc.cell h2 hP,hc.cell h3 hP,hc.cell h4 hP,hc.cell k0 hQ,hc.cell k1 hQ,hc.cell k2 hQ,hc.cell k3 hQ,hc.cell k4 hQ⟩
theorem am {l:List Con}{x y:Int}(h:Z3 l x y):Q9 l x:=by
 induction h with
 |one hc hw h1 _=>exact⟨_,hc,qQ hw,h1⟩
 |more _ _ _ _ _ ih=>exact ih
structure xd (l:List Con)(n:Nat)(P0:List Nat)(SC:List Ty)(TF:Nat->Ty):Prop where
 at':∀x,x<n+l.length->SC[x]? =some (TF x)
 flow:VW l n (Qb P0) (fun _=>False) TF
 cnt:K5 l<=1000000000
section
variable {d:Nat}{D:Zj}{w0 W0 W:World}{l:List Con}{n:Nat}{P0 P:List Nat}{v6:Value}{scb:Nat}{SC:List Ty}{T:Nat->Prop}{ft fc fr:Int->Option Value}
theorem oC {A:Option Addr} {m me:Nat} (S:Zw d D w0 W0 (.slice A m me) l n P0) {TF:Nat->Ty} (hF:xd l n P0 SC TF) (h:PtS d D W0 W (.slice A m me) l n P0 P v6 scb (n+l.length) SC T ft fc fr) {q:Nat} (hq:q<n) (hqq:Qb P0 q=q) (hp:Q9 l (q:Int))
  (hP:YB d D W0 (.slice A m me) l n P0 v6 scb (n+l.length) SC (mu l n (q:Int))) {o:Int} (ho:Qy o) (hne:Zx l (Qb P0) l.length q o≠[]):
  Calls Tryz.prog 80 #[.pointer (some ⟨D.b0+5,0,none⟩),.int .i64 q,.int .i64 o,QM (D.fi q) o] W (uJ d D W0 W (.slice A m me) l n P0 v6 scb (n+l.length) SC T ft q o):=by
 have hr:=h.now.roots;have hhn:=S.hn;have hhm:=S.hm;have hbd:=S.bounds (by omega);have hlen:=S.sl.len;obtain⟨hc1,hc2⟩:=S.sl.cap;obtain⟨vo,hvo⟩:=Option.isSome_iff_exists.1 ((S.isptr hr hq hqq).2 hp);obtain⟨L,hL⟩:=Qg (Zx l (Qb P0) l.length q o);have HROW:=hid (fun(w':World) (P':List Nat) (hw:Q6 D W0 w' (.slice A m me) l n P0 P' v6 (.slice (some ⟨scb,0,none⟩) (n+l.length) (n+l.length)))=>(show Qf QF w' D.lo 3 No (QM (D.fi q) o) L from by rw[<-hL];exact((hw.offs S).yes _ _ hvo).2.2.row o));obtain⟨A2,c2,hv2,hlc,hlc2⟩:=(HROW.o _ _ h.now).form;rw[hv2]at HROW ⊢;have hLl:L.length<=l.length:=by rw[<-hL];exact jF _ _
 have hacc:∀k,k∈L↔∃c,l[k]? =some c/\QY c=true/\VE l c.a (q:Int)/\c.off=o:=fun k=>by rw[<-hL];exact S.acc hr hq hqq
 rw[hL]at hne;obtain⟨k0,L',hLk⟩:=List.exists_cons_of_ne_nil hne;have hk0:L[0]? =some k0:=by rw[hLk];rfl
 obtain⟨c0,hc0,hac0,hve0,hof0⟩:=(hacc k0).1 (Qx hk0);have hmem0:=Qx hc0;have hk0l:=(Qz hc0).1;obtain⟨g2,rfl,hg2a,hg2b⟩:=(HROW.o _ _ h.now).at0 (by rw[hLk];simp);obtain⟨LQ,hLQ⟩:=Qg (L.length);have hLQ0:0<LQ:=by rw[<-hLQ,hLk];simp
 rw[hLQ]at HROW hlc hLl ⊢;obtain⟨d',bx,ox,P2,np2,cp2,P3,np3,cp3,hd,rfl,hv1,hbx, -⟩:=S.sl.con_at hc0;obtain⟨wd,hwd⟩:=Qg (c0.width);have hx4:=hbx.2.2.2.2.1;rw[hwd]at hx4;obtain⟨sb,hsb⟩:=Qg (D.b0+5);obtain⟨N,hN⟩:=Qg (n+l.length);rw[hN]at HROW h hP ⊢;rw[hsb]
 have HK:=hid (fun(w':World) (P':List Nat) (hw:Q6 D W0 w' (.slice (some ⟨bx,ox,none⟩) m me) l n P0 P' v6 (.slice (some ⟨scb,0,none⟩) N N))=>(show w'.cell? ⟨sb,0,none⟩=some (.slice (some ⟨bx,ox,none⟩) m me)/\w'.cell? ⟨sb,1,none⟩=some (.int .i64 n)/\w'.cell? ⟨sb,7,none⟩=some (.slice (some ⟨scb,0,none⟩) N N)/\w'.cell? ⟨sb,9,none⟩=some (.map (some (D.b0+1)))/\w'.cell? ⟨g2,0,none⟩=some (.int .i64 k0)/\w'.cell? ⟨bx,ox+k0 * 10+4,none⟩=some (.int .i64 wd) from
  ⟨by rw[<-hsb];exact hw.box.1 0 _ rfl,by rw[<-hsb];exact hw.box.1 1 _ rfl,by rw[<-hsb];exact hw.box.1 7 _ rfl,by rw[<-hsb];exact hw.box.1 9 _ rfl,((HROW.o w' P' hw).num_cell hk0).1,(hw.old S).cell hx4⟩))
 obtain⟨W1,hW1⟩:=Qg ((W.alloc (.cells #[.pointer (some ⟨sb,0,none⟩)] 62)).alloc (.cells #[.int .i64 0,.int .i64 0,.int .i64 0,.slice none 0 0,.slice none 0 0] 42));have hE1:Ext W W1:=by rw[<-hW1];exact((Ext.refl W).alloc _).alloc _
 have hs1:W1.heap.size=W.heap.size+2:=by rw[<-hW1];simp
 have p0:W1.cell? ⟨W.heap.size,0,none⟩=some (.pointer (some ⟨sb,0,none⟩)):=by rw[<-hW1];simp[go_sem]
 have hRB:Qm W1 (W.heap.size+1) (.int .i64 0) (.int .i64 0) (.int .i64 0) (.slice none 0 0) (.slice none 0 0):=by
  rw[<-hW1];have:=Qm.new (W.alloc (.cells #[.pointer (some ⟨sb,0,none⟩)] 62)) (.int .i64 0) (.int .i64 0) (.int .i64 0) (.slice none 0 0) (.slice none 0 0) 42
  rwa [show(W.alloc (.cells #[.pointer (some ⟨sb,0,none⟩)] 62)).heap.size=W.heap.size+1 by simp]at this
 obtain⟨W2,hW2⟩:=Qg ((W1.alloc (.cells #[.int .i64 wd] 3)).drew);have hE2:Ext W1 W2:=by rw[<-hW2];exact((Ext.refl W1).alloc _).drew
 have hp1:W2.cell? ⟨W1.heap.size,0,none⟩=some (.int .i64 wd):=by rw[<-hW2];simp[go_sem]
 have hs2:W2.heap.size=W.heap.size+3:=by rw[<-hW2];simp[hs1]
 have HW2:=hid hW2;have HH:=hid (h.ext (hE1.trans hE2));have HS:=hid S;have HR:=hid hr;have HQ:Hid (q<n/\Qb P0 q=q/\Q9 l (q:Int)):=hid ⟨hq,hqq,hp⟩;have HFL:=hid hF;have HPO:=hid hP;have HBD:=hid hbd;have HSB:=hid hsb;have HNN:=hid hN;have HACC:=hid hacc;have HC0:Hid (l[k0]? =some c0/\c0∈l/\QY c0=true/\VE l c0.a (q:Int)/\c0.off=o/\k0<l.length):=hid ⟨hc0,hmem0,hac0,hve0,hof0,hk0l⟩;have HLK:=hid hLk;have HLQ:=hid hLQ;have HWD:=hid hwd;have HOO:=hid ho;have HE2:=hid (hE1.trans hE2);have HRB:=hid (hRB.ext hE2);have HLEN:=hid hlen;have HW:Hid (W0.heap.size<=W.heap.size/\∀b,T b->b<W.heap.size):=hid ⟨h.now.chg.size,fun b hb=>(h.place b hb).2⟩;have HS2:=hid hs2;have hF1:Fd1 d W2 W.heap.size W1.heap.size sb (some ⟨bx,ox,none⟩) m me l wd:=⟨hE2.cell p0,hp1,(HK.o _ _ HH.o.now).1,S.sl.ext (HH.o.now.old S)⟩;have HF1:=hid hF1;have HS1:=hid hs1;have hk1:=HK.o _ _ (h.now.ext hE1);have i1:(0:Int)<=(k0:Int):=by omega
 have i2:(k0:Int)<(m:Int):=by omega
 have HKW:=hid hk1;clear hk1 hF1 hs2 hs1 hlen hW2 h S hr hq hqq hp hF hP hbd hsb hN hacc hc0 hmem0 hac0 hve0 hof0 hk0l hLk hLQ hwd hE1 hE2 hRB hx4 hbx hv1 hd hk0 hL hne hvo ho hp1 hg2a hg2b;go_enter Tryz.func80,Tryz.ntmps80;go_upto_region 1 with fail
 clear hW1;refine VK 11 (by kernel_rfl) rfl rfl (by kernel_rfl) (fun w'=>w'.cell? ⟨W.heap.size,0,none⟩=some (.pointer (some ⟨sb,0,none⟩))/\w'.cell? ⟨sb,0,none⟩=some (.slice (some ⟨bx,ox,none⟩) m me)/\w'.cell? ⟨g2,0,none⟩=some (.int .i64 k0)/\w'.cell? ⟨bx,ox+k0 * 10+4,none⟩=some (.int .i64 wd)) ⟨(Ext.refl W1).drew.cell p0,(Ext.refl W1).drew.cell HKW.o.1,(Ext.refl W1).drew.cell HKW.o.2.2.2.2.1,(Ext.refl W1).drew.cell HKW.o.2.2.2.2.2⟩ (fun hSg1q0=>?_);refine Qp 0 1 2 3 4 5 ?_;refine QB 6 7 8 9 ?_;refine rgC 10 (fun K hK=>?_);go_simp;refine rgK hK ⟨((Ext.refl W1).drew.alloc _).cell p0,((Ext.refl W1).drew.alloc _).cell HKW.o.1,((Ext.refl W1).drew.alloc _).cell HKW.o.2.2.2.2.1,((Ext.refl W1).drew.alloc _).cell HKW.o.2.2.2.2.2⟩ (fun hSg1q1=>?_);clear hK K;refine wpAnyH_done (by kernel_rfl) ?_ _;change wpList _ _ _ _ _ _;clear p0;by_cases ho:o<0
 ·go_upto_region 3 with fail
  rw[HW2.o];obtain⟨r0,r1,r2,r3,r4,rf⟩:=HRB.o;have u0:=rf 0;have u1:=rf 1;have u2:=rf 2;have u3:=rf 3;have u4:=rf 4;obtain⟨W9,hW9,hB9,hH9,hS9,hX9⟩:=QK (HRB.o) (.int .i64 0) (.int .i64 0) (.int .i64 0) (.slice none 0 0) (.slice none 0 0);obtain⟨t0,t1,t2,t3,t4, -⟩:=hB9;have hC9:=XJ W2 (W.heap.size+1) (.int .i64 0) (.int .i64 0) (.int .i64 0) (.slice none 0 0) (.slice none 0 0);rw[hW9]at hC9;have HC9:=hid hC9;have HW9:=hid hW9;clear hW9 hH9 hS9 hX9 rf hC9
  go_wp2
  try rw[HW9.o]
  clear r0 r1 r2 r3 r4;refine bodyPost_ret (v:= .tuple #[.agg #[(.int .i64 0),(.int .i64 0),(.int .i64 0),(.slice none 0 0),(.slice none 0 0)],.int .i64 0,.bool false]) (by simp[results,Tryz.results80,go_sem,t0,t1,t2,t3,t4]) rfl ?_;refine⟨_,Ty.unk,0,0,false,P,T,ft,fc,fr,rfl,ZF,.inl ⟨rfl,c0,HC0.o.2.1,HC0.o.2.2.2.1,HC0.o.2.2.1,HC0.o.2.2.2.2.1,.inl (by rw[HC0.o.2.2.2.2.1];exact ho)⟩,by omega,Q4.far HS.o (Q4.start HH.o (Chg.of_ext _ HE2.o)) HC9.o (fun b hb=>⟨by have:=HW.o.1;omega,by omega,fun k=>by have:=HW.o.2 b k;omega⟩)⟩
 ·go_upto_region 2 with fail
  rw[HW2.o]
  have HCF:=hid (sp W2 W.heap.size W1.heap.size sb (some ⟨bx,ox,none⟩) (some ⟨g2,0,none⟩) m me LQ c2 l wd HF1.o L (HROW.o _ _ HH.o.now).sl (fun k hk=>by
   obtain⟨c,hc,_⟩:=(HACC.o k).1 hk;exact(Qz hc).1))
  obtain⟨z,hz⟩:=Qg (L.any (VY l wd));rw[hz]at HCF;have HZ:=hid hz;have HO:Hid (¬o<0):=hid ho;clear hz
  go_wp2_with fail
  refine HCF.o.mono ?_;rintro e w3 ⟨rfl,hx3⟩;have HF3:=hid (HF1.o.ext hx3);have HH3:=hid (HH.o.ext hx3);have HRB3:=hid (HRB.o.ext hx3);have HE3:=hid (HE2.o.trans hx3);clear hx3 HCF
  cases z with
  |true=>
   go_upto_region 3 with fail
   obtain⟨r0,r1,r2,r3,r4,rf⟩:=HRB3.o;have u0:=rf 0;have u1:=rf 1;have u2:=rf 2;have u3:=rf 3;have u4:=rf 4;obtain⟨W9,hW9,hB9,hH9,hS9,hX9⟩:=QK (HRB3.o) (.int .i64 0) (.int .i64 0) (.int .i64 0) (.slice none 0 0) (.slice none 0 0);obtain⟨t0,t1,t2,t3,t4, -⟩:=hB9;have hC9:=XJ w3 (W.heap.size+1) (.int .i64 0) (.int .i64 0) (.int .i64 0) (.slice none 0 0) (.slice none 0 0);rw[hW9]at hC9;have HC9:=hid hC9;have HW9:=hid hW9;clear hW9 hH9 hS9 hX9 rf hC9
   go_wp2
   try rw[HW9.o]
   clear r0 r1 r2 r3 r4;refine bodyPost_ret (v:= .tuple #[.agg #[(.int .i64 0),(.int .i64 0),(.int .i64 0),(.slice none 0 0),(.slice none 0 0)],.int .i64 0,.bool false]) (by simp[results,Tryz.results80,go_sem,t0,t1,t2,t3,t4]) rfl ?_;obtain⟨k,hk,hdk⟩:=List.any_eq_true.1 HZ.o;obtain⟨c,hc,hac,hve,hof⟩:=(HACC.o k).1 hk;unfold VY at hdk;rw[hc]at hdk;have hdk:=of_decide_eq_true hdk;refine⟨_,Ty.unk,0,0,false,P,T,ft,fc,fr,rfl,ZF,.inl ⟨rfl,tJ HC0.o.2.1 (Qx hc) HC0.o.2.2.1 hac HC0.o.2.2.2.1 hve HC0.o.2.2.2.2.1 hof (by rw[HWD.o];exact hdk)⟩,by omega,Q4.far HS.o (Q4.start HH3.o (Chg.of_ext _ HE3.o)) HC9.o (fun b hb=>⟨by have:=HW.o.1;omega,by omega,fun k=>by have:=HW.o.2 b k;omega⟩)⟩
  | false=>
   have HALL:Hid (∀e∈l,QY e=true->VE l e.a (q:Int)->e.off=o->e.width=c0.width):=hid (fun e he ae ve hoe=>by
    obtain⟨k,hk⟩:=List.getElem?_of_mem he;have hm:=(HACC.o k).2 ⟨e,hk,ae,ve,hoe⟩;have h5:=HZ.o;rw[List.any_eq_false]at h5;have h6:=h5 k hm;unfold VY at h6;rw[hk]at h6;simp only[decide_eq_true_eq,ne_eq,Decidable.not_not]at h6;rw[h6,HWD.o])
   have p1:=HF3.o.wd;by_cases hw4:wd=4
   case neg=>
    have g1:(wd != 4)=true:=by simp[hw4]
    go_upto_region 5 with fail
    go_wp2_with fail
    refine(eK _ wd).mono ?_;rintro e w4 ⟨rfl,hx4⟩;have HH4:=hid (HH3.o.ext hx4);have HRB4:=hid (HRB3.o.ext hx4);have HE4:=hid (HE3.o.trans hx4);have HW4:=hid hw4;clear hx4 p1 hw4 g1;obtain⟨r0,r1,r2,r3,r4,rf⟩:=HRB4.o;have u0:=rf 0;have u1:=rf 1;have u2:=rf 2;have u3:=rf 3;have u4:=rf 4;obtain⟨W9,hW9,hB9,hH9,hS9,hX9⟩:=QK (HRB4.o) (.int .i64 2) (.int .i64 wd) (.int .i64 0) (.slice none 0 0) (.slice none 0 0);obtain⟨t0,t1,t2,t3,t4, -⟩:=hB9;have hC9:=XJ w4 (W.heap.size+1) (.int .i64 2) (.int .i64 wd) (.int .i64 0) (.slice none 0 0) (.slice none 0 0);rw[hW9]at hC9;have HC9:=hid hC9;have HW9:=hid hW9;clear hW9 hH9 hS9 hX9 rf hC9
    go_wp2
    try rw[HW9.o]
    clear r0 r1 r2 r3 r4;refine bodyPost_ret (v:= .tuple #[.agg #[(.int .i64 2),(.int .i64 wd),(.int .i64 0),(.slice none 0 0),(.slice none 0 0)],.int .i64 1,.bool true]) (by simp[results,Tryz.results80,go_sem,t0,t1,t2,t3,t4]) rfl ?_;have hb0:=Y9 HS.o.sl c0 HC0.o.2.1;have hw0:¬QQ c0=true:=fun e=>HW4.o (by rw[<-HWD.o];unfold QQ at e;exact of_decide_eq_true (Bool.and_eq_true_iff.1 e).2);have hcn:QV (Ty.uint wd)=1:=by simp[Ty.uint,QV,Q7,cntF]
    have hfi:=zG HC0.o.2.1 HC0.o.2.2.1 HC0.o.2.2.2.1 HC0.o.2.2.2.2.1 HALL.o (t:=Ty.uint wd) (m:=0) (by unfold Zv;rw[if_pos (by rw[HWD.o];exact HW4.o),HWD.o]) (fun k=>by
     rcases(Yc HALL.o HC0.o.2.1 HC0.o.2.2.1 HC0.o.2.2.2.1 HC0.o.2.2.2.2.1).1 k with k|k|k
     ·have:=HO.o;omega
     ·exact hw0 k.1
     ·exact hw0 k.1)
    rw[hcn]at hfi;refine⟨_,Ty.uint wd,0,1,true,P,T,ft,fc,fr,rfl,⟨none,0,0,none,0,0,rfl,Sl.nil,Sl.nil,by show Qy 2;unfold Qy;omega,by rw[<-HWD.o];exact hb0.2.2.2.2,by show Qy 0;unfold Qy;omega⟩,hfi,by omega,Q4.far HS.o (Q4.start HH4.o (Chg.of_ext _ HE4.o)) HC9.o (fun b hb=>⟨by have:=HW.o.1;omega,by omega,fun k=>by have:=HW.o.2 b k;omega⟩)⟩
   have g1:(wd != 4)=false:=by simp[hw4]
   obtain⟨b0,hb0,hb0n⟩:=Yj (HS.o.ok c0 HC0.o.2.1) (J7 HC0.o.2.2.1 (by rw[HWD.o,hw4]));obtain⟨v0,hv0⟩:=Qg (Qb P0 c0.b.toNat);have hv0n:v0<n/\Qb P0 v0=v0/\VE l c0.b (v0:Int):=by rw[<-hv0,hb0];exact⟨HR.o.lt _ hb0n,HR.o.idem _ hb0n,YJ HS.o.base.cls HR.o hb0n⟩
   have HV0:=hid hv0n;have HW0:Hid (QQ c0=true):=hid (J7 HC0.o.2.2.1 (by rw[HWD.o,hw4]))
   have HFI:=hid (fun w' (he:Ext w3 w')=>(show Calls Tryz.prog 28 #[.pointer (some ⟨sb,0,none⟩),.int .i64 ((n+k0:Nat):Int)] w' (fun e w''=>e= .returned (.int .i64 (v0:Nat))/\∃P',Q6 D W0 w'' (.slice (some ⟨bx,ox,none⟩) m me) l n P0 P' v6 (.slice (some ⟨scb,0,none⟩) N N)/\Chg (fun b=>b=D.pb) w' w'') from by
    rw[<-hv0,<-wX HS.o.base.cls (HS.o.ok c0 HC0.o.2.1) HC0.o.1 HW0.o,<-HSB.o];exact jg HS.o (HH3.o.now.ext he) (by have:=HC0.o.2.2.2.2.2;omega)))
   have HIP:=hid (fun(w':World) (P':List Nat) (h':Q6 D W0 w' (.slice (some ⟨bx,ox,none⟩) m me) l n P0 P' v6 (.slice (some ⟨scb,0,none⟩) N N))=>(show Calls Tryz.prog 29 #[.pointer (some ⟨sb,0,none⟩),.int .i64 (v0:Int)] w' (fun e w''=>e= .returned (.bool (D.fo v0).isSome)/\Ext w' w'') from by
    rw[<-HSB.o];exact pj HS.o h' (by have:=HV0.o.1;unfold Qy;omega)))
   have HVP:Hid ((D.fo v0).isSome=true↔Q9 l c0.b):=hid (by
    rw[HS.o.isptr HR.o hv0n.1 hv0n.2.1];exact⟨X0 hv0n.2.2.symm,X0 hv0n.2.2⟩)
   have e1:IntKind.i64.wrap ((n:Int)+(k0:Int))=((n+k0:Nat):Int):=by have:=HC0.o.2.2.2.2.2;rw[IntWalk.i64_in _ (by omega)];omega
   have HK3:=hid (HK.o _ _ HH3.o.now);clear hb0 hb0n hv0 hv0n;go_upto_region 6 with fail
   clear p1 g1;refine wp_region_held_drew (S:=(fun w'=>w'.cell? ⟨W.heap.size,0,none⟩=some (.pointer (some ⟨sb,0,none⟩))/\w'.cell? ⟨sb,1,none⟩=some (.int .i64 n)/\w'.cell? ⟨g2,0,none⟩=some (.int .i64 k0))) (by kernel_rfl) ⟨(Ext.refl w3).drew.cell HF3.o.s,(Ext.refl w3).drew.cell HK3.o.2.1,(Ext.refl w3).drew.cell HK3.o.2.2.2.2.1⟩ (fun hSg2q0=>?_);refine Qp 0 1 2 3 4 5 ?_;refine Zd 6 7 8 ?_;refine rgC 9 (fun K hK=>?_);go_simp;go_at_call 28;refine(HFI.o _ (Ext.refl w3).drew).mono ?_;rintro e w4 ⟨rfl,P4,hn4,hc4⟩;have HC4:=hid ((Chg.of_ext (fun b=>b=D.pb) ((Ext.refl w3).drew)).trans hc4);have HN4:=hid hn4;clear hn4 hc4;refine rgK hK ⟨HC4.o.cell HF3.o.s (fun e=>by have h1:W.heap.size=D.pb:=e;have:=HBD.o;have:=HW.o.1;omega),(HK.o _ _ HN4.o).2.1,(HK.o _ _ HN4.o).2.2.2.2.1⟩ (fun hSg2q1=>?_);clear hK K;refine rgT 10 ?_;refine wpAnyH_done (by kernel_rfl) ?_ _;have HPW:Hid (D.pb<W.heap.size):=hid (by have:=HBD.o;have:=HW.o.1;omega);have HH4:=hid (HH3.o.pb HS.o (by have:=HQ.o.1;omega) HN4.o HC4.o);have HRB4:=hid (HRB3.o.chg HC4.o (fun e=>by have:=HPW.o;omega));have HG4:=hid ((Chg.of_ext (Kx D) HE3.o).trans (HC4.o.mono (fun b hb=> .inl hb)));have q0:=HC4.o.cell HF3.o.s (fun e=>by have h1:W.heap.size=D.pb:=e;have:=HPW.o;omega);clear e1 HK3
   go_wp2_with fail
   refine(HIP.o _ _ HN4.o).mono ?_;rintro e w5 ⟨rfl,hx5⟩;have HH5:=hid (HH4.o.ext hx5);have HRB5:=hid (HRB4.o.ext hx5);have HG5:=hid (HG4.o.ext hx5);have q0:=hx5.cell q0;have HX5:=hid hx5;obtain⟨z,hz⟩:=Qg ((D.fo v0).isSome);rw[hz];have HZP:=hid hz;clear hx5 hz
   cases z with
   | true=>
    have hvp:Q9 l c0.b:=HVP.o.1 HZP.o;have HPT:=hid hvp
    have HLE:=hid (show Calls Tryz.prog 105 #[.pointer (some ⟨sb,0,none⟩),.int .i64 v0,.int .i64 q] w5 (uW d D W0 w5 (.slice (some ⟨bx,ox,none⟩) m me) l n P0 v6 scb N SC T ft fc v0 q) from by
     rw[<-HSB.o];exact ab HS.o HH5.o HV0.o.1 HV0.o.2.1 (X0 HV0.o.2.2 hvp) HQ.o.1 HQ.o.2.1 HQ.o.2.2)
    clear hvp
    go_wp2_with fail
    refine HLE.o.mono ?_;rintro e w6 ⟨zl,P6,T6,fr6,rfl,hlz,hpt6,hc6,htp6,hts6⟩;have HT6S:=hid hts6
    have HREC:Hid (zl=true↔Rec l c0):=hid (by
     rw[hlz];constructor
     ·rintro(k|k)
      ·exact .inl (HV0.o.2.2.trans (k.trans HC0.o.2.2.2.1.symm))
      ·exact .inr ((k.left HV0.o.2.2).right HC0.o.2.2.2.1.symm)
     ·rintro(k|k)
      ·exact .inl (HV0.o.2.2.symm.trans (k.trans HC0.o.2.2.2.1))
      ·exact .inr ((k.left HV0.o.2.2.symm).right HC0.o.2.2.2.1))
    have hn3:∀x,W.heap.size<=x->¬(x=D.pb\/x=D.b0+2):=fun x hx=>by have:=HPW.o;have:=HBD.o;omega
    have HRB6:=hid (HRB5.o.chg hc6 (hn3 _ (by omega)));have q0:=hc6.cell q0 (hn3 _ (Nat.le_refl _));have HG6:=hid (HG5.o.trans (hc6.mono (M':=Kx D) (fun b hb=>by rcases hb with hb|hb;exact .inl hb;exact .inr (.inr (.inr hb)))));have HT6:Hid (∀b,T6 b->T b\/w5.heap.size<=b):=hid htp6;have h5s:W.heap.size+3<=w5.heap.size:=by have h1:W1.heap.size<w3.heap.size:=World.block_lt_of_cell? _ _ HF3.o.wd;have h2:=HC4.o.size;have h3:w4.heap.size<=w5.heap.size:=HX5.o.size;have h4:=HS1.o;omega
    have H5S:=hid h5s
    have HRT:Hid (¬T6 (W.heap.size+1)):=hid (fun k=>by
     rcases htp6 _ k with e|e
     ·have:=HW.o.2 _ e;omega
     ·omega)
    have HH6:=hid hpt6;have HC56:=hid hc6.size;clear hlz hpt6 hc6 htp6 hts6 hn3 h5s HLE
    cases zl with
    | true=>
     have HUS:=hid (Gm w6 sb (some ⟨bx,ox,none⟩) (some ⟨g2,0,none⟩) m me LQ c2 l L (HS.o.sl.ext (HH6.o.now.old HS.o)) (HK.o _ _ HH6.o.now).1 (HROW.o _ _ HH6.o.now).sl (fun k hk=>by
      obtain⟨c,hc,_⟩:=(HACC.o k).1 hk;exact(Qz hc).1))
     have HUK:Hid (∀z:Int,Xg l c0 z↔L.any (XX l z)=true):=hid (fun z=>by
      rw[List.any_eq_true];constructor
      ·rintro⟨e,he,hs,hk⟩;obtain⟨k,hkk⟩:=List.getElem?_of_mem he;refine⟨k,(HACC.o k).2 ⟨e,hkk,qQ hs.2.1,hs.2.2.2.symm.trans HC0.o.2.2.2.1,hs.2.2.1.symm.trans HC0.o.2.2.2.2.1⟩, ?_⟩;unfold XX;rw[hkk];exact Qv hk
      ·rintro⟨k,hk,hkk⟩;obtain⟨e,he,hae,hve,hof⟩:=(HACC.o k).1 hk;unfold XX at hkk;rw[he]at hkk;have hem:=Qx he;have hwe:QQ e=true:=J7 hae (by rw[HALL.o e hem hae hve hof,HWD.o,hw4]);exact⟨e,hem,⟨HW0.o,hwe,HC0.o.2.2.2.2.1.trans hof.symm,HC0.o.2.2.2.1.trans hve.symm⟩,of_decide_eq_true hkk⟩)
     obtain⟨a2,ha2⟩:=Qg (L.any (XX l 2));obtain⟨a3,ha3⟩:=Qg (L.any (XX l 3));rw[ha2,ha3]at HUS;have HA2:=hid ha2;have HA3:=hid ha3;have HW44:=hid hw4;clear ha2 ha3 hw4
     go_wp2_with fail
     refine HUS.o.mono ?_;rintro e w7 ⟨rfl,hx7⟩;have HH7:=hid (HH6.o.ext hx7);have HRB7:=hid (HRB6.o.ext hx7);have HG7:=hid (HG6.o.ext hx7);clear hx7 HUS q0
     cases a3 with
     | false=>
      go_upto_region 11 with fail
      obtain⟨r0,r1,r2,r3,r4,rf⟩:=HRB7.o;have u0:=rf 0;have u1:=rf 1;have u2:=rf 2;have u3:=rf 3;have u4:=rf 4;obtain⟨W9,hW9,hB9,hH9,hS9,hX9⟩:=QK (HRB7.o) (.int .i64 0) (.int .i64 0) (.int .i64 0) (.slice none 0 0) (.slice none 0 0);obtain⟨t0,t1,t2,t3,t4, -⟩:=hB9;have hC9:=XJ w7 (W.heap.size+1) (.int .i64 0) (.int .i64 0) (.int .i64 0) (.slice none 0 0) (.slice none 0 0);rw[hW9]at hC9;have HC9:=hid hC9;have HW9:=hid hW9;clear hW9 hH9 hS9 hX9 rf hC9
      go_wp2
      try rw[HW9.o]
      clear r0 r1 r2 r3 r4;refine bodyPost_ret (v:= .tuple #[.agg #[(.int .i64 0),(.int .i64 0),(.int .i64 0),(.slice none 0 0),(.slice none 0 0)],.int .i64 1,.bool true]) (by simp[results,Tryz.results80,go_sem,t0,t1,t2,t3,t4]) rfl ?_;have hn3u:¬Xg l c0 3:=fun k=>by have:=(HUK.o 3).1 k;rw[HA3.o]at this;cases this
      have hrec:=HREC.o.1 (by first|rfl|trivial)
      have hfi:=zG HC0.o.2.1 HC0.o.2.2.1 HC0.o.2.2.2.1 HC0.o.2.2.2.2.1 HALL.o (t:=Ty.unk) (m:=0) (by unfold Zv;rw[if_neg (by rw[HWD.o,HW44.o];simp)];exact .inr (.inr ⟨HPT.o,hrec,.inr ⟨hn3u,rfl⟩⟩)) (fun k=>by
       rcases(Yc HALL.o HC0.o.2.1 HC0.o.2.2.1 HC0.o.2.2.2.1 HC0.o.2.2.2.2.1).1 k with k|k|k
       ·have:=HO.o;omega
       ·exact hn3u k.2.2.2
       ·exact k.2.1 HPT.o)
      refine⟨_,Ty.unk,0,1,true,P6,T6,ft,fc,fr6,rfl,ZF,hfi,by omega,Q4.far HS.o ⟨HH7.o,HG7.o,fun b hb=>by rcases HT6.o b hb with e|e;exact .inl e;exact .inr (by have:=H5S.o;omega),fun x hx=> .inl hx,HT6S.o⟩ HC9.o (fun b hb=>⟨by have:=HW.o.1;omega,by omega,by rw[hb];exact HRT.o⟩)⟩
     | true=>
      go_wp2_with fail
      refine(yg d' w7).mono ?_;rintro e w8 ⟨v8,rfl,hv8,hx8⟩;have HH8:=hid (HH7.o.ext hx8);have HRB8:=hid (HRB7.o.ext hx8);have HG8:=hid (HG7.o.ext hx8);have HV8:=hid hv8;obtain⟨A8,n8,c8,B8,m8,e8,rfl, -⟩:=hv8;clear hx8;have hrec:=HREC.o.1 (by first|rfl|trivial);have HRC:=hid hrec;clear hrec
      cases a2 with
      | false=>
       obtain⟨r0,r1,r2,r3,r4,rf⟩:=HRB8.o;have u0:=rf 0;have u1:=rf 1;have u2:=rf 2;have u3:=rf 3;have u4:=rf 4;obtain⟨W9,hW9,hB9,hH9,hS9,hX9⟩:=QK (HRB8.o) (.int .i64 Ty.any.kind) (.int .i64 Ty.any.size) (.int .i64 Ty.any.count) (.slice A8 n8 c8) (.slice B8 m8 e8);obtain⟨t0,t1,t2,t3,t4, -⟩:=hB9;have hC9:=XJ w8 (W.heap.size+1) (.int .i64 Ty.any.kind) (.int .i64 Ty.any.size) (.int .i64 Ty.any.count) (.slice A8 n8 c8) (.slice B8 m8 e8);rw[hW9]at hC9;have HC9:=hid hC9;have HW9:=hid hW9;clear hW9 hH9 hS9 hX9 rf hC9
       go_wp2
       try rw[HW9.o]
       clear r0 r1 r2 r3 r4;refine bodyPost_ret (v:= .tuple #[.agg #[(.int .i64 Ty.any.kind),(.int .i64 Ty.any.size),(.int .i64 Ty.any.count),(.slice A8 n8 c8),(.slice B8 m8 e8)],.int .i64 1,.bool true]) (by simp[results,Tryz.results80,go_sem,t0,t1,t2,t3,t4]) rfl ?_;have hn2u:¬Xg l c0 2:=fun k=>by have:=(HUK.o 2).1 k;rw[HA2.o]at this;cases this
       have hfi:=zG HC0.o.2.1 HC0.o.2.2.1 HC0.o.2.2.2.1 HC0.o.2.2.2.2.1 HALL.o (t:=Ty.any) (m:=0) (by unfold Zv;rw[if_neg (by rw[HWD.o,HW44.o];simp)];exact .inr (.inr ⟨HPT.o,HRC.o,.inl ⟨(HUK.o 3).2 HA3.o,rfl⟩⟩)) (fun k=>by
        rcases(Yc HALL.o HC0.o.2.1 HC0.o.2.2.1 HC0.o.2.2.2.1 HC0.o.2.2.2.2.1).1 k with k|k|k
        ·have:=HO.o;omega
        ·exact hn2u k.2.2.1
        ·exact k.2.1 HPT.o)
       refine⟨_,Ty.any,d',1,true,P6,T6,ft,fc,fr6,rfl,qd HV8.o,hfi,by omega,Q4.far HS.o ⟨HH8.o,HG8.o,fun b hb=>by rcases HT6.o b hb with e|e;exact .inl e;exact .inr (by have:=H5S.o;omega),fun x hx=> .inl hx,HT6S.o⟩ HC9.o (fun b hb=>⟨by have:=HW.o.1;omega,by omega,by rw[hb];exact HRT.o⟩)⟩
      |true=>
       obtain⟨r0,r1,r2,r3,r4,rf⟩:=HRB8.o;have u0:=rf 0;have u1:=rf 1;have u2:=rf 2;have u3:=rf 3;have u4:=rf 4;obtain⟨W9,hW9,hB9,hH9,hS9,hX9⟩:=QK (HRB8.o) (.int .i64 Ty.any.kind) (.int .i64 Ty.any.size) (.int .i64 Ty.any.count) (.slice A8 n8 c8) (.slice B8 m8 e8);obtain⟨t0,t1,t2,t3,t4, -⟩:=hB9;have hC9:=XJ w8 (W.heap.size+1) (.int .i64 Ty.any.kind) (.int .i64 Ty.any.size) (.int .i64 Ty.any.count) (.slice A8 n8 c8) (.slice B8 m8 e8);rw[hW9]at hC9;have HC9:=hid hC9;have HW9:=hid hW9;clear hW9 hH9 hS9 hX9 rf hC9
       go_wp2
       try rw[HW9.o]
       clear r0 r1 r2 r3 r4;refine bodyPost_ret (v:= .tuple #[.agg #[(.int .i64 Ty.any.kind),(.int .i64 Ty.any.size),(.int .i64 Ty.any.count),(.slice A8 n8 c8),(.slice B8 m8 e8)],.int .i64 1,.bool false]) (by simp[results,Tryz.results80,go_sem,t0,t1,t2,t3,t4]) rfl ?_;refine⟨_,Ty.any,d',1,false,P6,T6,ft,fc,fr6,rfl,qd HV8.o,.inl ⟨rfl,(Yc HALL.o HC0.o.2.1 HC0.o.2.2.1 HC0.o.2.2.2.1 HC0.o.2.2.2.2.1).2 (.inr (.inl ⟨HW0.o,HRC.o,(HUK.o 2).2 HA2.o,(HUK.o 3).2 HA3.o⟩))⟩,by omega,Q4.far HS.o ⟨HH8.o,HG8.o,fun b hb=>by rcases HT6.o b hb with e|e;exact .inl e;exact .inr (by have:=H5S.o;omega),fun x hx=> .inl hx,HT6S.o⟩ HC9.o (fun b hb=>⟨by have:=HW.o.1;omega,by omega,by rw[hb];exact HRT.o⟩)⟩
    | false=>
     have hnr:¬Rec l c0:=fun k=>by have:=HREC.o.2 k;simp at this
     have HNR:=hid hnr;have hmu:mu l n (v0:Int)<mu l n (q:Int):=by rw[<-Fy HV0.o.2.2];exact vz HS.o.ok HC0.o.2.1 HW0.o HC0.o.2.2.2.1 hnr
     have HMU:=hid hmu
     have HPC:=hid (show Calls Tryz.prog 31 #[.pointer (some ⟨sb,0,none⟩),.int .i64 v0] w6 (kp d D W0 w6 (.slice (some ⟨bx,ox,none⟩) m me) l n P0 v6 scb N SC T6 ft v0) from by
      rw[<-HSB.o];exact HPO.o v0 HV0.o.1 HV0.o.2.1 (X0 HV0.o.2.2 HPT.o) hmu w6 P6 T6 ft fc fr6 HH6.o)
     clear hnr hmu
     go_wp2_with fail
     refine HPC.o.mono ?_;rintro e w7 ⟨v7,t,d7,mm,P7,T7,ft7,fc7,fr7,rfl,hv7,hpt,hct,hcn,hto⟩;have HV7:=hid hv7;have HPTT:=hid hpt;have HCT:=hid hct;have HTO:=hid hto;have H6S:Hid (w5.heap.size<=w6.heap.size):=hid (by have h1:=HRB6.o.lt;have h2:W.heap.size+1<w6.heap.size:=h1;exact HC56.o)
     have HR7:Hid (¬T7 (W.heap.size+1)):=hid (fun k=>by
      rcases hto.plc _ k with e|e
      ·exact HRT.o e
      ·have:=H6S.o;have:=H5S.o;omega)
     have hn4:∀x,W.heap.size<=x->¬Kx D x:=fun x hx e=>by have:=HPW.o;have:=HBD.o;unfold Kx at e;omega
     have HRB7:=hid (HRB6.o.chg hto.chg (hn4 _ (by omega)));have q0:=hto.chg.cell q0 (hn4 _ (Nat.le_refl _));obtain⟨A7,n7,c7,B7,m7,e7,rfl, -⟩:=hv7;obtain⟨W7,hW7⟩:=Qg (w7.alloc (.cells #[.int .i64 0,.int .i64 0,.int .i64 0,.slice none 0 0,.slice none 0 0] 42));have hB7:Qm W7 w7.heap.size (.int .i64 0) (.int .i64 0) (.int .i64 0) (.slice none 0 0) (.slice none 0 0):=by rw[<-hW7];exact Qm.new w7 _ _ _ _ _ _
     have hE7:Ext w7 W7:=by rw[<-hW7];exact(Ext.refl _).alloc _
     obtain⟨W8,hW8,hB8,hH8,hS8,hX8⟩:=QK hB7 (.int .i64 t.kind) (.int .i64 t.size) (.int .i64 t.count) (.slice A7 n7 c7) (.slice B7 m7 e7);have HE8:=hid (hX8 w7 hE7 (Nat.le_refl _));have HW8:=hid hW8;have hTO8:=(Q4.trans (B:=fun y=>mu l n (y:Int)<mu l n (q:Int)) ⟨HH6.o,HG6.o,fun b hb=>by rcases HT6.o b hb with e|e;exact .inl e;exact .inr (by have:=H5S.o;omega),fun x hx=> .inl hx,HT6S.o⟩ (hto.weak (fun y hy=>Nat.lt_of_le_of_lt hy HMU.o))).ext HE8.o;have HTO8:=hid hTO8;have HRB8:=hid (HRB7.o.ext HE8.o);have hlk:=bQ (hTO8.ext (Ext.refl W8).drew).pts.cnt (q:=(v0:Int)) (by have:=HV0.o.1;unfold Qy;omega);rw[hcn,Option.getD_some]at hlk;have HLKC:=hid hlk;have hk9:=(HK.o _ _ (hTO8.ext (Ext.refl W8).drew).pts.now).2.2.2.1;have HQ0:=hid (HE8.o.cell q0);have q0:=((HE8.o).drew).cell q0;have hB8q:=hB8;have HCN:=hid hcn;have HSZ7:Hid (W.heap.size+1<w7.heap.size):=hid HRB7.o.lt;have HW44:=hid hw4;obtain⟨s0,s1,s2,s3,s4, -⟩:=hB8.ext (Ext.refl W8).drew;obtain⟨z0,z1,z2,z3,z4,zf⟩:=hB7;have y0:=zf 0;have y1:=zf 1;have y2:=zf 2;have y3:=zf 3;have y4:=zf 4;clear hw4 hlk hTO8 hcn hct hpt hto hn4 hW8 hB8 hH8 hS8 hX8 hE7 zf HPC;go_upto_region 14 with fail
     rw[HW8.o];clear z0 z1 z2 z3 z4 y0 y1 y2 y3 y4 hW7;obtain⟨r0,r1,r2,r3,r4,rf⟩:=HRB8.o;have u0:=rf 0;have u1:=rf 1;have u2:=rf 2;have u3:=rf 3;have u4:=rf 4;obtain⟨W9,hW9,hB9,hH9,hS9,hX9⟩:=QK (HRB8.o) (.int .i64 t.kind) (.int .i64 t.size) (.int .i64 t.count) (.slice A7 n7 c7) (.slice B7 m7 e7);obtain⟨t0,t1,t2,t3,t4, -⟩:=hB9;have hC9:=XJ W8 (W.heap.size+1) (.int .i64 t.kind) (.int .i64 t.size) (.int .i64 t.count) (.slice A7 n7 c7) (.slice B7 m7 e7);rw[hW9]at hC9;have HC9:=hid hC9;have HW9:=hid hW9;clear hW9 hH9 hS9 hX9 rf hC9;have HGN:Hid (∀x,x≠W.heap.size+1->¬x=W.heap.size+1):=hid (fun x hx=>hx);have HSA:=hid hB8q;have hk9':=(HK.o _ _ ((Q4.far HS.o HTO8.o HC9.o (fun b hb=>⟨by have:=HW.o.1;omega,by omega,by rw[hb];exact HR7.o⟩)).ext (Ext.refl W9).drew).pts.now).2.2.2.1;have hlk9:=bQ ((Q4.far HS.o HTO8.o HC9.o (fun b hb=>⟨by have:=HW.o.1;omega,by omega,by rw[hb];exact HR7.o⟩)).ext (Ext.refl W9).drew).pts.cnt (q:=(v0:Int)) (by have:=HV0.o.1;unfold Qy;omega);rw[HCN.o,Option.getD_some]at hlk9
     have HS9:=hid (show _ from(⟨((Ext.refl W9).drew).cell (HC9.o.cell HQ0.o (fun e=>by have h1:W.heap.size=W.heap.size+1:=e;omega)),hk9',((Ext.refl W9).drew).cell (HC9.o.cell HSA.o.1 (fun e=>by have h1:w7.heap.size=W.heap.size+1:=e;have:=HSZ7.o;omega)),((Ext.refl W9).drew).cell (HC9.o.cell HSA.o.2.1 (fun e=>by have h1:w7.heap.size=W.heap.size+1:=e;have:=HSZ7.o;omega)),((Ext.refl W9).drew).cell (HC9.o.cell HSA.o.2.2.1 (fun e=>by have h1:w7.heap.size=W.heap.size+1:=e;have:=HSZ7.o;omega)),((Ext.refl W9).drew).cell (HC9.o.cell HSA.o.2.2.2.1 (fun e=>by have h1:w7.heap.size=W.heap.size+1:=e;have:=HSZ7.o;omega)),((Ext.refl W9).drew).cell (HC9.o.cell HSA.o.2.2.2.2.1 (fun e=>by have h1:w7.heap.size=W.heap.size+1:=e;have:=HSZ7.o;omega)),hlk9⟩:
      W9.drew.cell? ⟨W.heap.size,0,none⟩=some (.pointer (some ⟨sb,0,none⟩))/\W9.drew.cell? ⟨sb,9,none⟩=some (.map (some (D.b0+1)))/\W9.drew.cell? ⟨w7.heap.size,0,none⟩=some (.int .i64 t.kind)/\W9.drew.cell? ⟨w7.heap.size,1,none⟩=some (.int .i64 t.size)/\W9.drew.cell? ⟨w7.heap.size,2,none⟩=some (.int .i64 t.count)/\W9.drew.cell? ⟨w7.heap.size,3,none⟩=some (.slice A7 n7 c7)/\W9.drew.cell? ⟨w7.heap.size,4,none⟩=some (.slice B7 m7 e7)/\(Instr.lookup 72 (.map (some (D.b0+1))) (.int .i64 v0) false).run Tryz.prog W9.drew= .ok (.int .i64 (QV t)) W9.drew))
     have HS8':=hid (show _ from(⟨q0,hk9,s0,s1,s2,s3,s4,HLKC.o⟩:W8.drew.cell? ⟨W.heap.size,0,none⟩=some (.pointer (some ⟨sb,0,none⟩))/\W8.drew.cell? ⟨sb,9,none⟩=some (.map (some (D.b0+1)))/\W8.drew.cell? ⟨w7.heap.size,0,none⟩=some (.int .i64 t.kind)/\W8.drew.cell? ⟨w7.heap.size,1,none⟩=some (.int .i64 t.size)/\W8.drew.cell? ⟨w7.heap.size,2,none⟩=some (.int .i64 t.count)/\W8.drew.cell? ⟨w7.heap.size,3,none⟩=some (.slice A7 n7 c7)/\W8.drew.cell? ⟨w7.heap.size,4,none⟩=some (.slice B7 m7 e7)/\(Instr.lookup 72 (.map (some (D.b0+1))) (.int .i64 v0) false).run Tryz.prog W8.drew= .ok (.int .i64 (QV t)) W8.drew));clear hk9' hlk9 q0 hk9 s0 s1 s2 s3 s4;refine wp_region_held_drew (S:=(fun w'=>w'.cell? ⟨W.heap.size,0,none⟩=some (.pointer (some ⟨sb,0,none⟩))/\w'.cell? ⟨sb,9,none⟩=some (.map (some (D.b0+1)))/\w'.cell? ⟨w7.heap.size,0,none⟩=some (.int .i64 t.kind)/\w'.cell? ⟨w7.heap.size,1,none⟩=some (.int .i64 t.size)/\w'.cell? ⟨w7.heap.size,2,none⟩=some (.int .i64 t.count)/\w'.cell? ⟨w7.heap.size,3,none⟩=some (.slice A7 n7 c7)/\w'.cell? ⟨w7.heap.size,4,none⟩=some (.slice B7 m7 e7)/\(Instr.lookup 72 (.map (some (D.b0+1))) (.int .i64 v0) false).run Tryz.prog w'= .ok (.int .i64 (QV t)) w')) (by kernel_rfl) HS8'.o (fun hSg3q0=>?_);refine Qp 0 1 2 3 4 5 ?_;refine rgT 6 ?_;refine rgC 7 (fun K hK=>?_);go_simp;rw[HW9.o];refine rgK hK HS9.o (fun hSg3q1=>?_);clear hK K;refine QJ 8 9 ?_;refine wpAnyH_done (by kernel_rfl) ?_ _
     go_wp2
     clear r0 r1 r2 r3 r4;refine bodyPost_ret (v:= .tuple #[.agg #[(.int .i64 t.kind),(.int .i64 t.size),(.int .i64 t.count),(.slice A7 n7 c7),(.slice B7 m7 e7)],.int .i64 (QV t),.bool true]) (by simp[results,Tryz.results80,go_sem,t0,t1,t2,t3,t4]) rfl ?_
     have hfi:=zG HC0.o.2.1 HC0.o.2.2.1 HC0.o.2.2.2.1 HC0.o.2.2.2.2.1 HALL.o (t:=t) (m:=mm) (by unfold Zv;rw[if_neg (by rw[HWD.o,HW44.o];simp)];exact .inr (.inl ⟨HPT.o,HNR.o,yq HV0.o.2.2.symm HPTT.o⟩)) (fun k=>by
      rcases(Yc HALL.o HC0.o.2.1 HC0.o.2.2.1 HC0.o.2.2.2.1 HC0.o.2.2.2.2.1).1 k with k|k|k
      ·have:=HO.o;omega
      ·exact HNR.o k.2.1
      ·exact k.2.1 HPT.o)
     exact⟨_,t,d7,QV t,true,P7,T7,ft7,fc7,fr7,rfl,((HC9.o.ty (HV7.o.ext HE8.o) (fun b hb e=>HR7.o (by rw[<-e];exact hb))).ext (Ext.refl W9).drew),hfi,by have:=HCT.o;omega,(Q4.far HS.o HTO8.o HC9.o (fun b hb=>⟨by have:=HW.o.1;omega,by omega,by rw[hb];exact HR7.o⟩)).ext (Ext.refl W9).drew⟩
   | false=>
    have hnp:¬Q9 l c0.b:=fun k=>by have:=HVP.o.2 k;rw[HZP.o]at this;cases this
    have HNP:=hid hnp;have h5s:W.heap.size+3<=w5.heap.size:=by have h1:W1.heap.size<w3.heap.size:=World.block_lt_of_cell? _ _ HF3.o.wd;have h2:=HC4.o.size;have h3:w4.heap.size<=w5.heap.size:=HX5.o.size;have h4:=HS1.o;omega
    have H5S:=hid h5s;obtain⟨cn,hcn⟩:=Qg (Xv l n (Qb P0) c0);have hcnl:cn<N:=by rw[<-hcn,<-HNN.o];exact pV HC0.o.2.1 HW0.o
    obtain⟨x,hx⟩:=Qg (TF cn);have hsx:SC[cn]? =some x:=by rw[<-hx];exact HFL.o.at' cn (by rw[HNN.o];exact hcnl)
    have hcell:X2 l c0 x:=by rw[<-hx,<-hcn];exact o7 HS.o.base.cls HS.o.ok HFL.o.flow HC0.o.2.1 HW0.o
    have hcnt:QV x<=1000000000:=Nat.le_trans (hcell.cnt HS.o.ok) HFL.o.cnt;obtain⟨d3,A3,n3,c3,B3,m3,e3,hd3,hvx,y0,y1,y2,y3,y4, -⟩:=JD HH5.o.scal hsx;have HCELL:=hid hcell;have HVX:=hid hvx;have HY:=hid (show _ from(⟨y0,y1,y2,y3,y4⟩:w5.cell? ⟨scb,cn * 5,none⟩=some (.int .i64 x.kind)/\w5.cell? ⟨scb,cn * 5+1,none⟩=some (.int .i64 x.size)/\w5.cell? ⟨scb,cn * 5+2,none⟩=some (.int .i64 x.count)/\w5.cell? ⟨scb,cn * 5+3,none⟩=some (.slice A3 n3 c3)/\w5.cell? ⟨scb,cn * 5+4,none⟩=some (.slice B3 m3 e3)));have hscp:¬scb=D.pb:=fun e=>by have:=(HH5.o.place _ HH5.o.tscb).1;have:=HBD.o;omega
    have HSK:=hid (fun(w':World) (P':List Nat) (hw:Q6 D W0 w' (.slice (some ⟨bx,ox,none⟩) m me) l n P0 P' v6 (.slice (some ⟨scb,0,none⟩) N N)) (hc:Chg (fun b=>b=D.pb) w5 w')=>(show w'.cell? ⟨W.heap.size,0,none⟩=some (.pointer (some ⟨sb,0,none⟩))/\w'.cell? ⟨sb,7,none⟩=some (.slice (some ⟨scb,0,none⟩) N N)/\w'.cell? ⟨g2,0,none⟩=some (.int .i64 k0)/\w'.cell? ⟨scb,cn * 5,none⟩=some (.int .i64 x.kind)/\w'.cell? ⟨scb,cn * 5+1,none⟩=some (.int .i64 x.size)/\w'.cell? ⟨scb,cn * 5+2,none⟩=some (.int .i64 x.count)/\w'.cell? ⟨scb,cn * 5+3,none⟩=some (.slice A3 n3 c3)/\w'.cell? ⟨scb,cn * 5+4,none⟩=some (.slice B3 m3 e3) from
     ⟨hc.cell q0 (fun e=>by have h1:W.heap.size=D.pb:=e;have:=HPW.o;omega),(HK.o w' P' hw).2.2.1,(HK.o w' P' hw).2.2.2.2.1,hc.cell HY.o.1 hscp,hc.cell HY.o.2.1 hscp,hc.cell HY.o.2.2.1 hscp,hc.cell HY.o.2.2.2.1 hscp,hc.cell HY.o.2.2.2.2 hscp⟩))
    have HCO:=hid (fun(w':World) (P':List Nat) (hw:Q6 D W0 w' (.slice (some ⟨bx,ox,none⟩) m me) l n P0 P' v6 (.slice (some ⟨scb,0,none⟩) N N))=>(show Calls Tryz.prog 50 #[.pointer (some ⟨sb,0,none⟩),.int .i64 k0] w' (fun e w''=>e= .returned (.int .i64 (cn:Nat))/\∃P'',Q6 D W0 w'' (.slice (some ⟨bx,ox,none⟩) m me) l n P0 P'' v6 (.slice (some ⟨scb,0,none⟩) N N)/\Chg (fun b=>b=D.pb) w' w'') from by
     rw[<-hcn,<-HSB.o];exact fB HS.o hw HC0.o.1 HW0.o))
    have HFW:=hid (HH5.o.ext (Ext.refl w5).drew);have HCW:=hid (Chg.of_ext (fun b=>b=D.pb) (Ext.refl w5).drew);have HS0:=hid (HSK.o _ _ HFW.o.now HCW.o);have i3:cn<N:=hcnl;have HCNT:=hid hcnt;have HNP0:Hid (0<n+l.length):=hid (by have:=HQ.o.1;omega);have HW44:=hid hw4;clear hw4 hnp h5s hcn hcnl hx hsx hcell hcnt hvx y0 y1 y2 y3 y4 hscp q0 hd3;go_upto_region 15 with fail
    go_cut [16] from 80 to 91 (fun s16 wx=>∃(aP:Nat) (P7:List Nat),s16= .pointer (some ⟨aP,0,none⟩)/\Hid (Qm wx aP (.int .i64 x.kind) (.int .i64 x.size) (.int .i64 x.count) (.slice A3 n3 c3) (.slice B3 m3 e3))/\Hid (PtS d D W0 wx (.slice (some ⟨bx,ox,none⟩) m me) l n P0 P7 v6 scb N SC T ft fc fr)/\Hid (Chg (fun b=>b=D.pb) w5 wx)/\Hid (w5.heap.size<=aP))
    case rest=>
     obtain⟨aP,P7,rfl,HBP,HH7,HC7,HAP⟩:=hcut;obtain⟨V,hV⟩:∃V,V=wc:=⟨_,rfl⟩;obtain rfl:=hV;clear HS0 HCW HFW i3;have HVV:=hid ((HC7.o.ty HVX.o (fun b hb e=>by have h1:=(HH5.o.place b hb.1).1;have:=HBD.o;have h2:b=D.pb:=e;omega)).mono (S':=fun b=>T b) (fun b hb _=>hb.1));have HFA:=hid (tw d3 V x _ 0 4 HVV.o.all (by unfold Qy;omega));obtain⟨p0,p1,p2,p3,p4, -⟩:=HBP.o
     go_wp2_with fail
     refine HFA.o.mono ?_;rintro e w7 ⟨v7,fo,y,rfl,hv7,hx7,hfo⟩;have HFO:=hid hfo;have HX7:=hid hx7;have HV7:=hid hv7.all;obtain⟨A7,n7,c7,B7,m7,e7,rfl, -⟩:=hv7;obtain⟨W7,hW7⟩:=Qg (w7.alloc (.cells #[.int .i64 0,.int .i64 0,.int .i64 0,.slice none 0 0,.slice none 0 0] 42));have hB7:Qm W7 w7.heap.size (.int .i64 0) (.int .i64 0) (.int .i64 0) (.slice none 0 0) (.slice none 0 0):=by rw[<-hW7];exact Qm.new w7 _ _ _ _ _ _
     have hE7:Ext w7 W7:=by rw[<-hW7];exact(Ext.refl _).alloc _
     obtain⟨W8,hW8,hB8,hH8,hS8,hX8⟩:=QK hB7 (.int .i64 y.kind) (.int .i64 y.size) (.int .i64 y.count) (.slice A7 n7 c7) (.slice B7 m7 e7);have HE8:=hid (hX8 w7 hE7 (Nat.le_refl _));have HVE:=hid (hx7.trans HE8.o);have HW8:=hid hW8;have HB8:=hid hB8;have HBQ:=hid (HBP.o.ext HVE.o);have HSZ:Hid (W.heap.size+1<w7.heap.size/\W.heap.size+1<aP):=hid (by have h1:=HAP.o;have h2:=HC7.o.size;have h3:=hx7.size;have h4:=H5S.o;omega);obtain⟨z0,z1,z2,z3,z4,zf⟩:=hB7;have f0:=zf 0;have f1:=zf 1;have f2:=zf 2;have f3:=zf 3;have f4:=zf 4;have HRB8:=hid ((HRB5.o.chg HC7.o (fun e=>by have h1:W.heap.size+1=D.pb:=e;have:=HPW.o;omega)).ext HVE.o)
     have HSK8:=hid (fun w' (he:Ext W8 w')=>(show w'.cell? ⟨aP,0,none⟩=some (.int .i64 x.kind)/\w'.cell? ⟨aP,1,none⟩=some (.int .i64 x.size)/\w'.cell? ⟨aP,2,none⟩=some (.int .i64 x.count)/\w'.cell? ⟨aP,3,none⟩=some (.slice A3 n3 c3)/\w'.cell? ⟨aP,4,none⟩=some (.slice B3 m3 e3)/\w'.cell? ⟨w7.heap.size,0,none⟩=some (.int .i64 y.kind)/\w'.cell? ⟨w7.heap.size,1,none⟩=some (.int .i64 y.size)/\w'.cell? ⟨w7.heap.size,2,none⟩=some (.int .i64 y.count)/\w'.cell? ⟨w7.heap.size,3,none⟩=some (.slice A7 n7 c7)/\w'.cell? ⟨w7.heap.size,4,none⟩=some (.slice B7 m7 e7) from
      ⟨he.cell HBQ.o.1,he.cell HBQ.o.2.1,he.cell HBQ.o.2.2.1,he.cell HBQ.o.2.2.2.1,he.cell HBQ.o.2.2.2.2.1,he.cell HB8.o.1,he.cell HB8.o.2.1,he.cell HB8.o.2.2.1,he.cell HB8.o.2.2.2.1,he.cell HB8.o.2.2.2.2.1⟩))
     have HTO8:=hid ((Q4.start (B:=fun y=>mu l n (y:Int)<mu l n (q:Int)) HH7.o (HG5.o.trans (HC7.o.mono (fun b hb=> .inl hb)))).ext HVE.o);have HV8:=hid (HVV.o.ext HVE.o);have HCT8:=hid (fun w' (he:Ext W8 w')=>l4 d3 w' x _ ((HV8.o.ext he).all) HCNT.o);have HSM8:=hid (fun w' (he:Ext W8 w')=>cB d3 w' y x _ _ ((HV7.o.ext HE8.o).ext he) ((HV8.o.ext he).all));have HRT:Hid (¬T (W.heap.size+1)):=hid (fun k=>by have:=HW.o.2 _ k;omega);clear hfo hx7 hW8 hB8 hH8 hS8 hX8 hE7 zf HFA;go_upto_region 17 with fail
     rw[HW8.o];clear z0 z1 z2 z3 z4 f0 f1 f2 f3 f4 hW7 p0 p1 p2 p3 p4
     have HFIN:Hid (∀ok:Bool,(ok=true↔Xq x 0 4=some x)->yy l (q:Int) o x (QV x) ok):=hid (fun ok hok=>by
      cases ok with
      | true=>
       refine zG HC0.o.2.1 HC0.o.2.2.1 HC0.o.2.2.2.1 HC0.o.2.2.2.2.1 HALL.o (t:=x) (m:=0) (by unfold Zv;rw[if_neg (by rw[HWD.o,HW44.o];simp)];exact .inl ⟨HNP.o,HCELL.o⟩) (fun k=>?_);rcases(Yc HALL.o HC0.o.2.1 HC0.o.2.2.1 HC0.o.2.2.2.1 HC0.o.2.2.2.2.1).1 k with k|k|k
       ·have:=HO.o;omega
       ·obtain⟨k1,k2,k3,k4⟩:=k
        exact HNP.o (by
         rcases k2 with k2|k2
         ·exact⟨c0,HC0.o.2.1,HC0.o.2.2.1,k2.symm⟩
         ·exact am k2)
       ·obtain⟨k1,k2,t',k3,k4⟩:=k;have:=k3.unique HCELL.o;subst this;exact k4 (hok.1 rfl)
      |false=>
       refine .inl ⟨rfl,(Yc HALL.o HC0.o.2.1 HC0.o.2.2.1 HC0.o.2.2.2.1 HC0.o.2.2.2.2.1).2 (.inr (.inr ⟨HW0.o,HNP.o,x,HCELL.o,fun e=>?_⟩))⟩;have:=hok.2 e;cases this)
     cases fo with
     |false=>
      have hno:Xq x 0 4=none:=by rcases HFO.o with⟨h1,h2⟩|⟨h1,h2⟩;cases h1;exact h2
      have HFF:=hid (HFIN.o false (by rw[hno];simp));clear hno;refine rgH HSK8.o (Ext.refl W8).drew (fun hSg4q0=>?_);refine Zd 0 1 3 ?_;refine rgC 2 (fun K hK=>?_);go_simp;go_at_call 107;refine(HCT8.o _ (Ext.refl W8).drew).mono ?_;rintro e w9 ⟨rfl,hx9⟩;have HX9:=hid hx9.drew_left;clear hx9;refine rgK hK (HSK8.o _ HX9.o) (fun hSg4q1=>?_);clear hK K;refine rgT 4 ?_;refine ZM 5 6 ?_;refine rgC 7 (fun K hK=>?_);refine cast (if_neg (fun h=>Bool.noConfusion (show false=true from h))).symm ?_;refine rgK hK (by assumption) (fun hSg4q2=>?_);clear hK K;refine rgT 8 ?_;refine rgC 9 (fun K hK=>?_);obtain⟨r0,r1,r2,r3,r4,rf⟩:=(HRB8.o.ext HX9.o);have u0:=rf 0;have u1:=rf 1;have u2:=rf 2;have u3:=rf 3;have u4:=rf 4;obtain⟨W9,hW9,hB9,hH9,hS9,hX9⟩:=QK ((HRB8.o.ext HX9.o)) (.int .i64 x.kind) (.int .i64 x.size) (.int .i64 x.count) (.slice A3 n3 c3) (.slice B3 m3 e3);obtain⟨t0,t1,t2,t3,t4, -⟩:=hB9;have hC9:=XJ w9 (W.heap.size+1) (.int .i64 x.kind) (.int .i64 x.size) (.int .i64 x.count) (.slice A3 n3 c3) (.slice B3 m3 e3);rw[hW9]at hC9;have HC9:=hid hC9;have HW9:=hid hW9;clear hW9 hH9 hS9 hX9 rf hC9;go_simp;rw[HW9.o];refine rgK hK (fX (HSK8.o _ HX9.o) HC9.o HSZ.o) (fun hSg4q3=>?_);clear hK K;refine QJ 10 11 ?_;refine wpAnyH_done (by kernel_rfl) ?_ _
      go_wp2
      clear r0 r1 r2 r3 r4;refine bodyPost_ret (v:= .tuple #[.agg #[(.int .i64 x.kind),(.int .i64 x.size),(.int .i64 x.count),(.slice A3 n3 c3),(.slice B3 m3 e3)],.int .i64 (QV x),.bool false]) (by simp[results,Tryz.results80,go_sem,t0,t1,t2,t3,t4]) rfl ?_;exact⟨_,x,d3,QV x,false,P7,T,ft,fc,fr,rfl,HC9.o.ty (HV8.o.ext HX9.o) (fun b hb e=>HRT.o (by rw[<-e];exact hb)),HFF.o,HCNT.o,Q4.far HS.o (HTO8.o.ext HX9.o) HC9.o (fun b hb=>⟨by have:=HW.o.1;omega,by omega,by rw[hb];exact HRT.o⟩)⟩
     |true=>
      have hyes:Xq x 0 4=some y:=by rcases HFO.o with⟨h1,h2⟩|⟨h1,h2⟩;exact h2;cases h1
      obtain⟨ok,hok⟩:=Qg (ZC y x);have HFF:=hid (HFIN.o ok (by rw[hyes,<-hok,Vp];constructor;intro h;rw[h];intro h;injection h));rw[hok]at HSM8;clear hyes hok;refine rgH HSK8.o (Ext.refl W8).drew (fun hSg5q0=>?_);refine Zd 0 1 3 ?_;refine rgC 2 (fun K hK=>?_);go_simp;go_at_call 107;refine(HCT8.o _ (Ext.refl W8).drew).mono ?_;rintro e w9 ⟨rfl,hx9⟩;have HX9:=hid hx9.drew_left;clear hx9;refine rgK hK (HSK8.o _ HX9.o) (fun hSg5q1=>?_);clear hK K;refine Zd 4 5 6 ?_;refine rgC 7 (fun K hK=>?_);go_simp;go_at_call 51;refine(HSM8.o _ HX9.o).mono ?_;rintro e w10 ⟨rfl,hx10⟩;have HX10:=hid (HX9.o.trans hx10);clear hx10;refine rgK hK (HSK8.o _ HX10.o) (fun hSg5q2=>?_);clear hK K;refine rgT 8 ?_;refine rgC 9 (fun K hK=>?_);obtain⟨r0,r1,r2,r3,r4,rf⟩:=(HRB8.o.ext HX10.o);have u0:=rf 0;have u1:=rf 1;have u2:=rf 2;have u3:=rf 3;have u4:=rf 4;obtain⟨W9,hW9,hB9,hH9,hS9,hX9⟩:=QK ((HRB8.o.ext HX10.o)) (.int .i64 x.kind) (.int .i64 x.size) (.int .i64 x.count) (.slice A3 n3 c3) (.slice B3 m3 e3);obtain⟨t0,t1,t2,t3,t4, -⟩:=hB9;have hC9:=XJ w10 (W.heap.size+1) (.int .i64 x.kind) (.int .i64 x.size) (.int .i64 x.count) (.slice A3 n3 c3) (.slice B3 m3 e3);rw[hW9]at hC9;have HC9:=hid hC9;have HW9:=hid hW9;clear hW9 hH9 hS9 hX9 rf hC9;go_simp;rw[HW9.o];refine rgK hK (fX (HSK8.o _ HX10.o) HC9.o HSZ.o) (fun hSg5q3=>?_);clear hK K;refine QJ 10 11 ?_;refine wpAnyH_done (by kernel_rfl) ?_ _
      go_wp2
      clear r0 r1 r2 r3 r4;refine bodyPost_ret (v:= .tuple #[.agg #[(.int .i64 x.kind),(.int .i64 x.size),(.int .i64 x.count),(.slice A3 n3 c3),(.slice B3 m3 e3)],.int .i64 (QV x),.bool ok]) (by simp[results,Tryz.results80,go_sem,t0,t1,t2,t3,t4]) rfl ?_;exact⟨_,x,d3,QV x,ok,P7,T,ft,fc,fr,rfl,HC9.o.ty (HV8.o.ext HX10.o) (fun b hb e=>HRT.o (by rw[<-e];exact hb)),HFF.o,HCNT.o,Q4.far HS.o (HTO8.o.ext HX10.o) HC9.o (fun b hb=>⟨by have:=HW.o.1;omega,by omega,by rw[hb];exact HRT.o⟩)⟩
    have HXg6q_0:=hid ((Ext.refl w5).drew);refine VK 12 (by kernel_rfl) rfl rfl (by kernel_rfl) (fun w'=>w'.cell? ⟨W.heap.size,0,none⟩=some (.pointer (some ⟨sb,0,none⟩))/\w'.cell? ⟨sb,7,none⟩=some (.slice (some ⟨scb,0,none⟩) N N)/\w'.cell? ⟨g2,0,none⟩=some (.int .i64 k0)/\w'.cell? ⟨scb,cn * 5,none⟩=some (.int .i64 x.kind)/\w'.cell? ⟨scb,cn * 5+1,none⟩=some (.int .i64 x.size)/\w'.cell? ⟨scb,cn * 5+2,none⟩=some (.int .i64 x.count)/\w'.cell? ⟨scb,cn * 5+3,none⟩=some (.slice A3 n3 c3)/\w'.cell? ⟨scb,cn * 5+4,none⟩=some (.slice B3 m3 e3)) HS0.o (fun hSg6q0=>?_);refine Qp 0 1 2 3 4 5 ?_;refine QJ 6 7 ?_;refine wpAnyH_ready (rs:=[8,11]) (by kernel_rfl) (by simp) ?_;refine(AllReadyH.consL rfl (fun K hK=>?g6qb8x9) (AllReadyH.consL rfl (fun K hK=>?g6qb11x9) AllReadyH.nil))
    case' g6qb8x9=>
     go_simp;go_at_call 50;refine(HCO.o _ _ HFW.o.now).mono ?_;rintro e w7 ⟨rfl,P7,hn7,hc7⟩;have HFW:=hid (HFW.o.pb HS.o HNP0.o hn7 hc7);have HCW:=hid (HCW.o.trans hc7)
     try have HAB:=hid (HAB.o.chg hc7 (fun e=>by have h1:aB=D.pb:=e;have:=HAG.o;have:=HPW.o;have:=H5S.o;omega))
     clear hn7 hc7;refine rgK hK (HSK.o _ _ HFW.o.now HCW.o) (fun hSg6q1=>?_);clear hK K;refine QJ 9 10 ?_;refine wpAnyH_ready (rs:=[11]) (by kernel_rfl) (by simp) ?_;refine(AllReadyH.consL rfl (fun K hK=>?g6qb11x12) AllReadyH.nil)
     case' g6qb11x12=>
      go_simp
      first|have hN:=K7 (Ext.refl w7)|have hN:=K7 (Ext.refl w5.drew)
      obtain⟨wP,aB,hA1,hsz,hE,hge,hab,hss⟩:=hN;refine Eq.mpr (congrArg (K _) hA1) ?_
      first|rw[hsz]|(have hq:w5.heap.size=aB:=hsz;rw[hq];clear hq)|skip
      have HAG:Hid (w5.heap.size<=aB):=hid (by have h2:=HCW.o.size;have h5:w5.drew.heap.size=w5.heap.size:=rfl;omega);have HAB:=hid hab;have HFW:=hid (HFW.o.ext hE);have HCW:=hid (HCW.o.ext hE);clear hA1 hsz hE hge hab hss;refine rgK hK (HSK.o _ _ HFW.o.now HCW.o) (fun hSg6q2=>?_);clear hK K;refine wpAnyH_done (by kernel_rfl) ?_ _;change wpList _ _ _ _ _ _;obtain⟨W8,hW8,hB8,hH8,hS8,hX8⟩:=QK HAB.o (.int .i64 x.kind) (.int .i64 x.size) (.int .i64 x.count) (.slice A3 n3 c3) (.slice B3 m3 e3);have hch:=jJ hW8;have HW8:=hid hW8;have HB8:=hid hB8;have HH8:=hid (HFW.o.far HS.o hch (fun b hb=>⟨by have:=HAG.o;have:=HW.o.1;have:=H5S.o;omega,fun k=>by have:=HAG.o;have:=HW.o.2 b k;have:=H5S.o;omega⟩));have HC8:=hid (HCW.o.trans' hch (fun b hb=> .inr (by have:=HAG.o;omega)));obtain⟨z0,z1,z2,z3,z4,zf⟩:=HAB.o;have f0:=zf 0;have f1:=zf 1;have f2:=zf 2;have f3:=zf 3;have f4:=zf 4;clear hW8 hB8 hH8 hS8 hX8 zf hch
      go_wp2
      rw[HW8.o];go_meet;exact⟨aB,_,rfl,HB8,HH8,HC8,HAG⟩
    case' g6qb11x9=>
     go_simp
     first|have hN:=K7 (Ext.refl w7)|have hN:=K7 (Ext.refl w5.drew)
     obtain⟨wP,aB,hA1,hsz,hE,hge,hab,hss⟩:=hN;refine Eq.mpr (congrArg (K _) hA1) ?_
     first|rw[hsz]|(have hq:w5.heap.size=aB:=hsz;rw[hq];clear hq)|skip
     have HAG:Hid (w5.heap.size<=aB):=hid (by have h2:=HCW.o.size;have h5:w5.drew.heap.size=w5.heap.size:=rfl;omega);have HAB:=hid hab;have HFW:=hid (HFW.o.ext hE);have HCW:=hid (HCW.o.ext hE);clear hA1 hsz hE hge hab hss;refine rgK hK (HSK.o _ _ HFW.o.now HCW.o) (fun hSg6q1=>?_);clear hK K;refine wpAnyH_ready (rs:=[8]) (by kernel_rfl) (by simp) ?_;refine(AllReadyH.consL rfl (fun K hK=>?g6qb8x13) AllReadyH.nil)
     case' g6qb8x13=>
      go_simp;go_at_call 50;refine(HCO.o _ _ HFW.o.now).mono ?_;rintro e w7 ⟨rfl,P7,hn7,hc7⟩;have HFW:=hid (HFW.o.pb HS.o HNP0.o hn7 hc7);have HCW:=hid (HCW.o.trans hc7)
      try have HAB:=hid (HAB.o.chg hc7 (fun e=>by have h1:aB=D.pb:=e;have:=HAG.o;have:=HPW.o;have:=H5S.o;omega))
      clear hn7 hc7;refine rgK hK (HSK.o _ _ HFW.o.now HCW.o) (fun hSg6q2=>?_);clear hK K;refine QJ 9 10 ?_;refine wpAnyH_done (by kernel_rfl) ?_ _;change wpList _ _ _ _ _ _;obtain⟨W8,hW8,hB8,hH8,hS8,hX8⟩:=QK HAB.o (.int .i64 x.kind) (.int .i64 x.size) (.int .i64 x.count) (.slice A3 n3 c3) (.slice B3 m3 e3);have hch:=jJ hW8;have HW8:=hid hW8;have HB8:=hid hB8;have HH8:=hid (HFW.o.far HS.o hch (fun b hb=>⟨by have:=HAG.o;have:=HW.o.1;have:=H5S.o;omega,fun k=>by have:=HAG.o;have:=HW.o.2 b k;have:=H5S.o;omega⟩));have HC8:=hid (HCW.o.trans' hch (fun b hb=> .inr (by have:=HAG.o;omega)));obtain⟨z0,z1,z2,z3,z4,zf⟩:=HAB.o;have f0:=zf 0;have f1:=zf 1;have f2:=zf 2;have f3:=zf 3;have f4:=zf 4;clear hW8 hB8 hH8 hS8 hX8 zf hch
      go_wp2
      rw[HW8.o];go_meet;exact⟨aB,_,rfl,HB8,HH8,HC8,HAG⟩
end
end Go.Proofs.YtlmipgdnlfjpaaaGreat
