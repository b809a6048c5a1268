/- Merged by program from texts of my own. -/
import Derived.Test.YtlmipgdnlfjpaaaGreatSoMm
import Derived.Test.YtlmipgdnlfjpaaaGreatSoNm
import Derived.Test.YtlmipgdnlfjpaaaGreatSoCm
import Derived.Test.YtlmipgdnlfjpaaaGreatPlam
import Derived.Test.YtlmipgdnlfjpaaaGreatTycm
namespace Go.Proofs.YtlmipgdnlfjpaaaGreat
open Go.RowKit Go.Deco Go.Maps
set_option linter.unusedSimpArgs false
set_option linter.unusedVariables false
def ValIs (w:World)(v:Value)(e:Ending)(w':World):Prop:=e= .returned v∧Ext w w'
set_option maxRecDepth 100000 in
set_option maxHeartbeats 1000000 in
theorem tuint_any (w:World)(n:Int):Calls Tryz.prog 104 #[.int .i64 n] w (ValIs w (.agg #[.int .i64 2,.int .i64 n,.int .i64 0,.slice none 0 0,.slice none 0 0])):=by
 go_enter Tryz.func104,Tryz.ntmps104
 go_wp2
 refine bodyPost_ret (v:= .agg #[.int .i64 2,.int .i64 n,.int .i64 0,.slice none 0 0,.slice none 0 0]) (by simp[results,Tryz.results104,go_sem]) rfl ?_;exact⟨rfl,by repeat (first|exact Ext.refl w|refine Ext.setCell ?_ (Nat.le_refl _) _|refine Ext.alloc ?_ _)⟩
def Mut3 (D:SvDat)(b:Nat):Prop:=b=D.pb∨b=D.b0∨b=D.b0+1∨b=D.b0+2
structure PtTo (d:Nat)(D:SvDat)(W0 W:World)(vl:Value)(l:List Con)(n:Nat)(P0:List Nat)(v6:Value)(scb N:Nat)(SC:List Ty)(T:Nat→Prop)(ft:Int→Option Value)(B:Nat→Prop)(w':World)(P':List Nat)(T':Nat→Prop)(ft' fc' fr':Int→Option Value):Prop where
 pts:PtS d D W0 w' vl l n P0 P' v6 scb N SC T' ft' fc' fr'
 chg:Chg (Mut3 D) W w'
 plc:∀b,T' b→T b∨W.heap.size≤b
 new:∀x,ft' x≠none→ft x≠none∨∃y:Nat,x=(y:Int)∧B y
 sub:∀b,T b→T' b
def PtrPost (d:Nat)(D:SvDat)(W0 W:World)(vl:Value)(l:List Con)(n:Nat)(P0:List Nat)(v6:Value)(scb N:Nat)(SC:List Ty)(T:Nat→Prop)(ft:Int→Option Value)(q:Nat)(e:Ending)(w':World):Prop:=
 ∃(v:Value) (t:Ty) (d' m:Nat) (P':List Nat) (T':Nat→Prop) (ft' fc' fr':Int→Option Value),e= .returned v∧TyV d' w' T' v t∧PtrTy l m (q:Int) t∧cntT t≤256∧fc' (q:Int)=some (.int .i64 (cntT t))∧
  PtTo d D W0 W vl l n P0 v6 scb N SC T ft (fun y=>mu l n (y:Int)≤mu l n (q:Int)) w' P' T' ft' fc' fr'
def FieldPost (d:Nat)(D:SvDat)(W0 W:World)(vl:Value)(l:List Con)(n:Nat)(P0:List Nat)(v6:Value)(scb N:Nat)(SC:List Ty)(T:Nat→Prop)(ft:Int→Option Value)(q:Nat)(o:Int)(e:Ending)(w':World):Prop:=
 ∃(v:Value) (t:Ty) (d' k:Nat) (ok:Bool) (P':List Nat) (T':Nat→Prop) (ft' fc' fr':Int→Option Value),e= .returned (.tuple #[v,.int .i64 k,.bool ok])∧TyV d' w' T' v t∧FieldIs l (q:Int) o t k ok∧k≤1000000000∧
  PtTo d D W0 W vl l n P0 v6 scb N SC T ft (fun y=>mu l n (y:Int)<mu l n (q:Int)) w' P' T' ft' fc' fr'
def PtrOk (d:Nat)(D:SvDat)(W0:World)(vl:Value)(l:List Con)(n:Nat)(P0:List Nat)(v6:Value)(scb N:Nat)(SC:List Ty)(M:Nat):Prop:=
 ∀(q:Nat),q<n→rootP P0 q=q→IsPtr l (q:Int)→mu l n (q:Int)<M→∀(W:World) (P:List Nat) (T:Nat→Prop) (ft fc fr:Int→Option Value),PtS d D W0 W vl l n P0 P v6 scb N SC T ft fc fr→
  Calls Tryz.prog 31 #[.pointer (some ⟨D.b0+5,0,none⟩),.int .i64 q] W (PtrPost d D W0 W vl l n P0 v6 scb N SC T ft q)
section
variable {d:Nat}{D:SvDat}{w0 W0 W w1 w2:World}{vl:Value}{l:List Con}{n:Nat}{P0 P1 P2:List Nat}{v6:Value}{scb N:Nat}{SC:List Ty}{T T1 T2:Nat→Prop}{ft ft1 ft2 fc1 fc2 fr1 fr2 fc fr:Int→Option Value}{B B':Nat→Prop}{P:List Nat}
theorem PtTo.start (h:PtS d D W0 w1 vl l n P0 P1 v6 scb N SC T ft fc fr)(hc:Chg (Mut3 D) W w1):PtTo d D W0 W vl l n P0 v6 scb N SC T ft B w1 P1 T ft fc fr:=⟨h,hc,fun _ h=> .inl h,fun _ h=> .inl h,fun _ h=>h⟩
theorem PtTo.trans (h:PtTo d D W0 W vl l n P0 v6 scb N SC T ft B w1 P1 T1 ft1 fc1 fr1)(k:PtTo d D W0 w1 vl l n P0 v6 scb N SC T1 ft1 B w2 P2 T2 ft2 fc2 fr2):PtTo d D W0 W vl l n P0 v6 scb N SC T ft B w2 P2 T2 ft2 fc2 fr2:=
 ⟨k.pts,h.chg.trans k.chg,fun b hb=>by
  rcases k.plc b hb with e|e
  ·exact h.plc b e
  ·exact .inr (Nat.le_trans h.chg.size e),fun x hx=>by
  rcases k.new x hx with e|e
  ·exact h.new x e
  ·exact .inr e,fun b hb=>k.sub b (h.sub b hb)⟩
theorem PtTo.weak (h:PtTo d D W0 W vl l n P0 v6 scb N SC T ft B w1 P1 T1 ft1 fc1 fr1)(hB:∀y,B y→B' y):PtTo d D W0 W vl l n P0 v6 scb N SC T ft B' w1 P1 T1 ft1 fc1 fr1:=
 ⟨h.pts,h.chg,h.plc,fun x hx=>by
  rcases h.new x hx with e|⟨y,e1,e2⟩
  ·exact .inl e
  ·exact .inr ⟨y,e1,hB y e2⟩,h.sub⟩
theorem PtTo.far {M:Nat→Prop}(S:SvSt d D w0 W0 vl l n P0)(h:PtTo d D W0 W vl l n P0 v6 scb N SC T ft B w1 P1 T1 ft1 fc1 fr1)(hc:Chg M w1 w2)(hM:∀b,M b→W0.heap.size≤b∧W.heap.size≤b∧¬T1 b):PtTo d D W0 W vl l n P0 v6 scb N SC T ft B w2 P1 T1 ft1 fc1 fr1:=
 ⟨h.pts.far S hc (fun b hb=>⟨(hM b hb).1,(hM b hb).2.2⟩),h.chg.trans' hc (fun b hb=> .inr (hM b hb).2.1),h.plc,h.new,h.sub⟩
theorem PtTo.ext (h:PtTo d D W0 W vl l n P0 v6 scb N SC T ft B w1 P1 T1 ft1 fc1 fr1)(he:Ext w1 w2):PtTo d D W0 W vl l n P0 v6 scb N SC T ft B w2 P1 T1 ft1 fc1 fr1:=⟨h.pts.ext he,h.chg.ext he,h.plc,h.new,h.sub⟩
theorem PtTo.pb (S:SvSt d D w0 W0 vl l n P0)(hN:0<n+l.length)(h:PtTo d D W0 W vl l n P0 v6 scb N SC T ft B w1 P1 T1 ft1 fc1 fr1)(h':SvNow D W0 w2 vl l n P0 P2 v6 (.slice (some ⟨scb,0,none⟩) N N))(hc:Chg (fun b=>b=D.pb) w1 w2):PtTo d D W0 W vl l n P0 v6 scb N SC T ft B w2 P2 T1 ft1 fc1 fr1:=
 ⟨h.pts.pb S hN h' hc,h.chg.trans (hc.mono fun b hb=> .inl hb),h.plc,h.new,h.sub⟩
end
theorem tyv_anyS {d d':Nat}{w w':World}{S S':Nat→Prop}{v:Value}(h:TyV d w S v Ty.any):TyV d' w' S' v Ty.any:=by
 obtain⟨A,n,c,B,m,e,rfl,h1,h2,h3⟩:=h;obtain⟨A',c',hv,k1,k2,k3,k4⟩:=h1;obtain⟨B',e',hv',j1,j2,j3,j4⟩:=h2;exact⟨A,n,c,B,m,e,rfl,⟨A',c',hv,k1,k2,k3,fun h=>absurd rfl h⟩,⟨B',e',hv',j1,j2,j3,fun h=>absurd rfl h⟩,h3⟩
theorem Box5.chg {M:Nat→Prop}{w w':World}{b:Nat}{v0 v1 v2 v3 v4:Value}(h:Box5 w b v0 v1 v2 v3 v4)(hc:Chg M w w')(hb:¬M b):Box5 w' b v0 v1 v2 v3 v4:=by
 have hl:=h.lt;obtain⟨h0,h1,h2,h3,h4,h5⟩:=h;exact⟨hc.cell h0 hb,hc.cell h1 hb,hc.cell h2 hb,hc.cell h3 hb,hc.cell h4 hb,fun i=>(hc.frozen (p:=⟨b,i,none⟩) hl hb).trans (h5 i)⟩
theorem cnt_look {w:World}{mb n:Nat}{f:Int→Option Value}(h:MapG (intK Tryz.underlying3) w mb n f){q:Int}(hq:i64b q):(Instr.lookup 72 (.map (some mb)) (.int .i64 q) false).run Tryz.prog w= .ok ((f q).getD (.int .i64 0)) w:=by
 obtain⟨D,h1,h2⟩:=h;have hrun:=(ownsMap_look h1 (intK Tryz.underlying3).law Tryz.underlying72 (z:= .int .i64 0) (Tryz.zeroValue3 w) ((intK Tryz.underlying3).key hq)).1;rw[←h2]at hrun;exact hrun
theorem set5_chg (w:World)(b:Nat)(v0 v1 v2 v3 v4:Value):Chg (fun x=>x=b) w (((((w.setCell ⟨b,0,none⟩ v0).setCell ⟨b,1,none⟩ v1).setCell ⟨b,2,none⟩ v2).setCell ⟨b,3,none⟩ v3).setCell ⟨b,4,none⟩ v4):=
 (((((Chg.refl (fun x=>x=b) w).set (p:=⟨b,0,none⟩) v0 rfl).set (p:=⟨b,1,none⟩) v1 rfl).set (p:=⟨b,2,none⟩) v2 rfl).set (p:=⟨b,3,none⟩) v3 rfl).set (p:=⟨b,4,none⟩) v4 rfl
theorem set5_chg' {w W8:World}{b:Nat}{v0 v1 v2 v3 v4:Value}(h:((((w.setCell ⟨b,0,none⟩ v0).setCell ⟨b,1,none⟩ v1).setCell ⟨b,2,none⟩ v2).setCell ⟨b,3,none⟩ v3).setCell ⟨b,4,none⟩ v4=W8):Chg (fun x=>x=b) w W8:=by rw[←h];exact set5_chg w b v0 v1 v2 v3 v4
theorem stor17_keep {w9 W9:World}{aP aQ g:Nat}{v0 v1 v2 v3 v4 u0 u1 u2 u3 u4:Value}(h:w9.cell? ⟨aP,0,none⟩=some v0∧w9.cell? ⟨aP,1,none⟩=some v1∧w9.cell? ⟨aP,2,none⟩=some v2∧w9.cell? ⟨aP,3,none⟩=some v3∧w9.cell? ⟨aP,4,none⟩=some v4∧w9.cell? ⟨aQ,0,none⟩=some u0∧w9.cell? ⟨aQ,1,none⟩=some u1∧w9.cell? ⟨aQ,2,none⟩=some u2∧w9.cell? ⟨aQ,3,none⟩=some u3∧w9.cell? ⟨aQ,4,none⟩=some u4)
  (hc:Chg (fun x=>x=g) w9 W9) (hz:g<aQ∧g<aP):
  W9.cell? ⟨aP,0,none⟩=some v0∧W9.cell? ⟨aP,1,none⟩=some v1∧W9.cell? ⟨aP,2,none⟩=some v2∧W9.cell? ⟨aP,3,none⟩=some v3∧W9.cell? ⟨aP,4,none⟩=some v4∧W9.cell? ⟨aQ,0,none⟩=some u0∧W9.cell? ⟨aQ,1,none⟩=some u1∧W9.cell? ⟨aQ,2,none⟩=some u2∧W9.cell? ⟨aQ,3,none⟩=some u3∧W9.cell? ⟨aQ,4,none⟩=some u4:=by
 have hP:¬aP=g:=by omega
 have hQ:¬aQ=g:=by omega
 obtain⟨h0,h1,h2,h3,h4,k0,k1,k2,k3,k4⟩:=h;exact⟨hc.cell h0 hP,hc.cell h1 hP,hc.cell h2 hP,hc.cell h3 hP,hc.cell h4 hP,hc.cell k0 hQ,hc.cell k1 hQ,hc.cell k2 hQ,hc.cell k3 hQ,hc.cell k4 hQ⟩
theorem leads_ptr {l:List Con}{x y:Int}(h:Leads l x y):IsPtr l x:=by
 induction h with
 |one hc hw h1 _=>exact⟨_,hc,wide_acc hw,h1⟩
 |more _ _ _ _ _ ih=>exact ih
structure FlowOk (l:List Con)(n:Nat)(P0:List Nat)(SC:List Ty)(TF:Nat→Ty):Prop where
 at':∀x,x<n+l.length→SC[x]? =some (TF x)
 flow:FlowIs l n (rootP P0) (fun _=>False) TF
 cnt:cntL l≤1000000000
section
variable {d:Nat}{D:SvDat}{w0 W0 W:World}{l:List Con}{n:Nat}{P0 P:List Nat}{v6:Value}{scb:Nat}{SC:List Ty}{T:Nat→Prop}{ft fc fr:Int→Option Value}
set_option maxRecDepth 100000 in
set_option maxHeartbeats 16000000 in
theorem field_any {A:Option Addr} {m me:Nat} (S:SvSt d D w0 W0 (.slice A m me) l n P0) {TF:Nat→Ty} (hF:FlowOk l n P0 SC TF) (h:PtS d D W0 W (.slice A m me) l n P0 P v6 scb (n+l.length) SC T ft fc fr) {q:Nat} (hq:q<n) (hqq:rootP P0 q=q) (hp:IsPtr l (q:Int))
  (hP:PtrOk d D W0 (.slice A m me) l n P0 v6 scb (n+l.length) SC (mu l n (q:Int))) {o:Int} (ho:i64b o) (hne:accF l (rootP P0) l.length q o≠[]):
  Calls Tryz.prog 80 #[.pointer (some ⟨D.b0+5,0,none⟩),.int .i64 q,.int .i64 o,rowW (D.fi q) o] W (FieldPost d D W0 W (.slice A m me) l n P0 v6 scb (n+l.length) SC T ft q o):=by
 have hr:=h.now.roots;have hhn:=S.hn;have hhm:=S.hm;have hbd:=S.bounds (by omega);have hlen:=S.sl.len;obtain⟨hc1,hc2⟩:=S.sl.cap;obtain⟨vo,hvo⟩:=Option.isSome_iff_exists.1 ((S.isptr hr hq hqq).2 hp);obtain⟨L,hL⟩:∃L,accF l (rootP P0) l.length q o=L:=⟨_,rfl⟩;have HROW:=hid (fun(w':World) (P':List Nat) (hw:SvNow D W0 w' (.slice A m me) l n P0 P' v6 (.slice (some ⟨scb,0,none⟩) (n+l.length) (n+l.length)))=>(show OwnS natR w' D.lo 3 No (rowW (D.fi q) o) L from by rw[←hL];exact((hw.offs S).yes _ _ hvo).2.2.row o));obtain⟨A2,c2,hv2,hlc,hlc2⟩:=(HROW.out _ _ h.now).form;rw[hv2]at HROW ⊢;have hLl:L.length≤l.length:=by rw[←hL];exact accF_len _ _
 have hacc:∀k,k∈L↔∃c,l[k]? =some c∧accC c=true∧VE l c.a (q:Int)∧c.off=o:=fun k=>by rw[←hL];exact S.acc hr hq hqq
 rw[hL]at hne;obtain⟨k0,L',hLk⟩:=List.exists_cons_of_ne_nil hne;have hk0:L[0]? =some k0:=by rw[hLk];rfl
 obtain⟨c0,hc0,hac0,hve0,hof0⟩:=(hacc k0).1 (List.mem_of_getElem? hk0);have hmem0:=List.mem_of_getElem? hc0;have hk0l:=(List.getElem?_eq_some_iff.1 hc0).1;obtain⟨g2,rfl,hg2a,hg2b⟩:=(HROW.out _ _ h.now).at0 (by rw[hLk];simp);obtain⟨LQ,hLQ⟩:∃LQ,L.length=LQ:=⟨_,rfl⟩;have hLQ0:0<LQ:=by rw[←hLQ,hLk];simp
 rw[hLQ]at HROW hlc hLl ⊢;obtain⟨d',bx,ox,P2,np2,cp2,P3,np3,cp3,hd,rfl,hv1,hbx, -⟩:=S.sl.con_at hc0;obtain⟨wd,hwd⟩:∃wd,c0.width=wd:=⟨_,rfl⟩;have hx4:=hbx.2.2.2.2.1;rw[hwd]at hx4;obtain⟨sb,hsb⟩:∃sb,D.b0+5=sb:=⟨_,rfl⟩;obtain⟨N,hN⟩:∃N,n+l.length=N:=⟨_,rfl⟩;rw[hN]at HROW h hP ⊢;rw[hsb]
 have HK:=hid (fun(w':World) (P':List Nat) (hw:SvNow D W0 w' (.slice (some ⟨bx,ox,none⟩) m me) l n P0 P' v6 (.slice (some ⟨scb,0,none⟩) N N))=>(show w'.cell? ⟨sb,0,none⟩=some (.slice (some ⟨bx,ox,none⟩) m me)∧w'.cell? ⟨sb,1,none⟩=some (.int .i64 n)∧w'.cell? ⟨sb,7,none⟩=some (.slice (some ⟨scb,0,none⟩) N N)∧w'.cell? ⟨sb,9,none⟩=some (.map (some (D.b0+1)))∧w'.cell? ⟨g2,0,none⟩=some (.int .i64 k0)∧w'.cell? ⟨bx,ox+k0 * 10+4,none⟩=some (.int .i64 wd) from
  ⟨by rw[←hsb];exact hw.box.1 0 _ rfl,by rw[←hsb];exact hw.box.1 1 _ rfl,by rw[←hsb];exact hw.box.1 7 _ rfl,by rw[←hsb];exact hw.box.1 9 _ rfl,((HROW.out w' P' hw).num_cell hk0).1,(hw.old S).cell hx4⟩))
 obtain⟨W1,hW1⟩:∃W1,(W.alloc (.cells #[.pointer (some ⟨sb,0,none⟩)] 62)).alloc (.cells #[.int .i64 0,.int .i64 0,.int .i64 0,.slice none 0 0,.slice none 0 0] 42)=W1:=⟨_,rfl⟩;have hE1:Ext W W1:=by rw[←hW1];exact((Ext.refl W).alloc _).alloc _
 have hs1:W1.heap.size=W.heap.size+2:=by rw[←hW1];simp
 have p0:W1.cell? ⟨W.heap.size,0,none⟩=some (.pointer (some ⟨sb,0,none⟩)):=by rw[←hW1];simp[go_sem]
 have hRB:Box5 W1 (W.heap.size+1) (.int .i64 0) (.int .i64 0) (.int .i64 0) (.slice none 0 0) (.slice none 0 0):=by
  rw[←hW1];have:=Box5.new (W.alloc (.cells #[.pointer (some ⟨sb,0,none⟩)] 62)) (.int .i64 0) (.int .i64 0) (.int .i64 0) (.slice none 0 0) (.slice none 0 0) 42
  rwa [show(W.alloc (.cells #[.pointer (some ⟨sb,0,none⟩)] 62)).heap.size=W.heap.size+1 by simp]at this
 obtain⟨W2,hW2⟩:∃W2,(W1.alloc (.cells #[.int .i64 wd] 3)).drew=W2:=⟨_,rfl⟩;have hE2:Ext W1 W2:=by rw[←hW2];exact((Ext.refl W1).alloc _).drew
 have hp1:W2.cell? ⟨W1.heap.size,0,none⟩=some (.int .i64 wd):=by rw[←hW2];simp[go_sem]
 have hs2:W2.heap.size=W.heap.size+3:=by rw[←hW2];simp[hs1]
 have HW2:=hid hW2;have HH:=hid (h.ext (hE1.trans hE2));have HS:=hid S;have HR:=hid hr;have HQ:Hid (q<n∧rootP P0 q=q∧IsPtr l (q:Int)):=hid ⟨hq,hqq,hp⟩;have HFL:=hid hF;have HPO:=hid hP;have HBD:=hid hbd;have HSB:=hid hsb;have HNN:=hid hN;have HACC:=hid hacc;have HC0:Hid (l[k0]? =some c0∧c0∈l∧accC c0=true∧VE l c0.a (q:Int)∧c0.off=o∧k0<l.length):=hid ⟨hc0,hmem0,hac0,hve0,hof0,hk0l⟩;have HLK:=hid hLk;have HLQ:=hid hLQ;have HWD:=hid hwd;have HOO:=hid ho;have HE2:=hid (hE1.trans hE2);have HRB:=hid (hRB.ext hE2);have HLEN:=hid hlen;have HW:Hid (W0.heap.size≤W.heap.size∧∀b,T b→b<W.heap.size):=hid ⟨h.now.chg.size,fun b hb=>(h.place b hb).2⟩;have HS2:=hid hs2;have hF1:Fd1 d W2 W.heap.size W1.heap.size sb (some ⟨bx,ox,none⟩) m me l wd:=⟨hE2.cell p0,hp1,(HK.out _ _ HH.out.now).1,S.sl.ext (HH.out.now.old S)⟩;have HF1:=hid hF1;have HS1:=hid hs1;have hk1:=HK.out _ _ (h.now.ext hE1);have i1:(0:Int)≤(k0:Int):=by omega
 have i2:(k0:Int)<(m:Int):=by omega
 have HKW:=hid hk1;clear hk1 hF1 hs2 hs1 hlen hW2 h S hr hq hqq hp hF hP hbd hsb hN hacc hc0 hmem0 hac0 hve0 hof0 hk0l hLk hLQ hwd hE1 hE2 hRB hx4 hbx hv1 hd hk0 hL hne hvo ho hp1 hg2a hg2b;go_enter Tryz.func80,Tryz.ntmps80;go_upto_region 1 with fail
 clear hW1;refine wp_region_split 11 (by kernel_rfl) rfl rfl (by kernel_rfl) (fun w'=>w'.cell? ⟨W.heap.size,0,none⟩=some (.pointer (some ⟨sb,0,none⟩))∧w'.cell? ⟨sb,0,none⟩=some (.slice (some ⟨bx,ox,none⟩) m me)∧w'.cell? ⟨g2,0,none⟩=some (.int .i64 k0)∧w'.cell? ⟨bx,ox+k0 * 10+4,none⟩=some (.int .i64 wd)) ⟨(Ext.refl W1).drew.cell p0,(Ext.refl W1).drew.cell HKW.out.1,(Ext.refl W1).drew.cell HKW.out.2.2.2.2.1,(Ext.refl W1).drew.cell HKW.out.2.2.2.2.2⟩ (fun hSg1q0=>?_);refine rgT6 0 1 2 3 4 5 ?_;refine rgT4 6 7 8 9 ?_;refine rgC 10 (fun K hK=>?_);go_simp;refine rgK hK ⟨((Ext.refl W1).drew.alloc _).cell p0,((Ext.refl W1).drew.alloc _).cell HKW.out.1,((Ext.refl W1).drew.alloc _).cell HKW.out.2.2.2.2.1,((Ext.refl W1).drew.alloc _).cell HKW.out.2.2.2.2.2⟩ (fun hSg1q1=>?_);clear hK K;refine wpAnyH_done (by kernel_rfl) ?_ _;change wpList _ _ _ _ _ _;clear p0;by_cases ho:o<0
 ·go_upto_region 3 with fail
  rw[HW2.out];obtain⟨r0,r1,r2,r3,r4,rf⟩:=HRB.out;have u0:=rf 0;have u1:=rf 1;have u2:=rf 2;have u3:=rf 3;have u4:=rf 4;obtain⟨W9,hW9,hB9,hH9,hS9,hX9⟩:=box5_set (HRB.out) (.int .i64 0) (.int .i64 0) (.int .i64 0) (.slice none 0 0) (.slice none 0 0);obtain⟨t0,t1,t2,t3,t4, -⟩:=hB9;have hC9:=set5_chg W2 (W.heap.size+1) (.int .i64 0) (.int .i64 0) (.int .i64 0) (.slice none 0 0) (.slice none 0 0);rw[hW9]at hC9;have HC9:=hid hC9;have HW9:=hid hW9;clear hW9 hH9 hS9 hX9 rf hC9
  go_wp2
  try rw[HW9.out]
  clear r0 r1 r2 r3 r4;refine bodyPost_ret (v:= .tuple #[.agg #[(.int .i64 0),(.int .i64 0),(.int .i64 0),(.slice none 0 0),(.slice none 0 0)],.int .i64 0,.bool false]) (by simp[results,Tryz.results80,go_sem,t0,t1,t2,t3,t4]) rfl ?_;refine⟨_,Ty.unk,0,0,false,P,T,ft,fc,fr,rfl,tyv_unk,.inl ⟨rfl,c0,HC0.out.2.1,HC0.out.2.2.2.1,HC0.out.2.2.1,HC0.out.2.2.2.2.1,.inl (by rw[HC0.out.2.2.2.2.1];exact ho)⟩,by omega,PtTo.far HS.out (PtTo.start HH.out (Chg.of_ext _ HE2.out)) HC9.out (fun b hb=>⟨by have:=HW.out.1;omega,by omega,fun k=>by have:=HW.out.2 b k;omega⟩)⟩
 ·go_upto_region 2 with fail
  rw[HW2.out]
  have HCF:=hid (containsD_any W2 W.heap.size W1.heap.size sb (some ⟨bx,ox,none⟩) (some ⟨g2,0,none⟩) m me LQ c2 l wd HF1.out L (HROW.out _ _ HH.out.now).sl (fun k hk=>by
   obtain⟨c,hc,_⟩:=(HACC.out k).1 hk;exact(List.getElem?_eq_some_iff.1 hc).1))
  obtain⟨z,hz⟩:∃z,L.any (diffK l wd)=z:=⟨_,rfl⟩;rw[hz]at HCF;have HZ:=hid hz;have HO:Hid (¬o<0):=hid ho;clear hz
  go_wp2_with fail
  refine HCF.out.mono ?_;rintro e w3 ⟨rfl,hx3⟩;have HF3:=hid (HF1.out.ext hx3);have HH3:=hid (HH.out.ext hx3);have HRB3:=hid (HRB.out.ext hx3);have HE3:=hid (HE2.out.trans hx3);clear hx3 HCF
  cases z with
  |true=>
   go_upto_region 3 with fail
   obtain⟨r0,r1,r2,r3,r4,rf⟩:=HRB3.out;have u0:=rf 0;have u1:=rf 1;have u2:=rf 2;have u3:=rf 3;have u4:=rf 4;obtain⟨W9,hW9,hB9,hH9,hS9,hX9⟩:=box5_set (HRB3.out) (.int .i64 0) (.int .i64 0) (.int .i64 0) (.slice none 0 0) (.slice none 0 0);obtain⟨t0,t1,t2,t3,t4, -⟩:=hB9;have hC9:=set5_chg w3 (W.heap.size+1) (.int .i64 0) (.int .i64 0) (.int .i64 0) (.slice none 0 0) (.slice none 0 0);rw[hW9]at hC9;have HC9:=hid hC9;have HW9:=hid hW9;clear hW9 hH9 hS9 hX9 rf hC9
   go_wp2
   try rw[HW9.out]
   clear r0 r1 r2 r3 r4;refine bodyPost_ret (v:= .tuple #[.agg #[(.int .i64 0),(.int .i64 0),(.int .i64 0),(.slice none 0 0),(.slice none 0 0)],.int .i64 0,.bool false]) (by simp[results,Tryz.results80,go_sem,t0,t1,t2,t3,t4]) rfl ?_;obtain⟨k,hk,hdk⟩:=List.any_eq_true.1 HZ.out;obtain⟨c,hc,hac,hve,hof⟩:=(HACC.out k).1 hk;unfold diffK at hdk;rw[hc]at hdk;have hdk:=of_decide_eq_true hdk;refine⟨_,Ty.unk,0,0,false,P,T,ft,fc,fr,rfl,tyv_unk,.inl ⟨rfl,spoil_width HC0.out.2.1 (List.mem_of_getElem? hc) HC0.out.2.2.1 hac HC0.out.2.2.2.1 hve HC0.out.2.2.2.2.1 hof (by rw[HWD.out];exact hdk)⟩,by omega,PtTo.far HS.out (PtTo.start HH3.out (Chg.of_ext _ HE3.out)) HC9.out (fun b hb=>⟨by have:=HW.out.1;omega,by omega,fun k=>by have:=HW.out.2 b k;omega⟩)⟩
  | false=>
   have HALL:Hid (∀e∈l,accC e=true→VE l e.a (q:Int)→e.off=o→e.width=c0.width):=hid (fun e he ae ve hoe=>by
    obtain⟨k,hk⟩:=List.getElem?_of_mem he;have hm:=(HACC.out k).2 ⟨e,hk,ae,ve,hoe⟩;have h5:=HZ.out;rw[List.any_eq_false]at h5;have h6:=h5 k hm;unfold diffK at h6;rw[hk]at h6;simp only[decide_eq_true_eq,ne_eq,Decidable.not_not]at h6;rw[h6,HWD.out])
   have p1:=HF3.out.wd;by_cases hw4:wd=4
   case neg=>
    have g1:(wd != 4)=true:=by simp[hw4]
    go_upto_region 5 with fail
    go_wp2_with fail
    refine(tuint_any _ wd).mono ?_;rintro e w4 ⟨rfl,hx4⟩;have HH4:=hid (HH3.out.ext hx4);have HRB4:=hid (HRB3.out.ext hx4);have HE4:=hid (HE3.out.trans hx4);have HW4:=hid hw4;clear hx4 p1 hw4 g1;obtain⟨r0,r1,r2,r3,r4,rf⟩:=HRB4.out;have u0:=rf 0;have u1:=rf 1;have u2:=rf 2;have u3:=rf 3;have u4:=rf 4;obtain⟨W9,hW9,hB9,hH9,hS9,hX9⟩:=box5_set (HRB4.out) (.int .i64 2) (.int .i64 wd) (.int .i64 0) (.slice none 0 0) (.slice none 0 0);obtain⟨t0,t1,t2,t3,t4, -⟩:=hB9;have hC9:=set5_chg w4 (W.heap.size+1) (.int .i64 2) (.int .i64 wd) (.int .i64 0) (.slice none 0 0) (.slice none 0 0);rw[hW9]at hC9;have HC9:=hid hC9;have HW9:=hid hW9;clear hW9 hH9 hS9 hX9 rf hC9
    go_wp2
    try rw[HW9.out]
    clear r0 r1 r2 r3 r4;refine bodyPost_ret (v:= .tuple #[.agg #[(.int .i64 2),(.int .i64 wd),(.int .i64 0),(.slice none 0 0),(.slice none 0 0)],.int .i64 1,.bool true]) (by simp[results,Tryz.results80,go_sem,t0,t1,t2,t3,t4]) rfl ?_;have hb0:=con_bounds HS.out.sl c0 HC0.out.2.1;have hw0:¬wideC c0=true:=fun e=>HW4.out (by rw[←HWD.out];unfold wideC at e;exact of_decide_eq_true (Bool.and_eq_true_iff.1 e).2);have hcn:cntT (Ty.uint wd)=1:=by simp[Ty.uint,cntT,cntE,cntF]
    have hfi:=field_of HC0.out.2.1 HC0.out.2.2.1 HC0.out.2.2.2.1 HC0.out.2.2.2.2.1 HALL.out (t:=Ty.uint wd) (m:=0) (by unfold Content;rw[if_pos (by rw[HWD.out];exact HW4.out),HWD.out]) (fun k=>by
     rcases(bad_cell HALL.out HC0.out.2.1 HC0.out.2.2.1 HC0.out.2.2.2.1 HC0.out.2.2.2.2.1).1 k with k|k|k
     ·have:=HO.out;omega
     ·exact hw0 k.1
     ·exact hw0 k.1)
    rw[hcn]at hfi;refine⟨_,Ty.uint wd,0,1,true,P,T,ft,fc,fr,rfl,⟨none,0,0,none,0,0,rfl,Sl.nil,Sl.nil,by show i64b 2;unfold i64b;omega,by rw[←HWD.out];exact hb0.2.2.2.2,by show i64b 0;unfold i64b;omega⟩,hfi,by omega,PtTo.far HS.out (PtTo.start HH4.out (Chg.of_ext _ HE4.out)) HC9.out (fun b hb=>⟨by have:=HW.out.1;omega,by omega,fun k=>by have:=HW.out.2 b k;omega⟩)⟩
   have g1:(wd != 4)=false:=by simp[hw4]
   obtain⟨b0,hb0,hb0n⟩:=ok_b (HS.out.ok c0 HC0.out.2.1) (wide_of HC0.out.2.2.1 (by rw[HWD.out,hw4]));obtain⟨v0,hv0⟩:∃v0,rootP P0 c0.b.toNat=v0:=⟨_,rfl⟩;have hv0n:v0<n∧rootP P0 v0=v0∧VE l c0.b (v0:Int):=by rw[←hv0,hb0];exact⟨HR.out.lt _ hb0n,HR.out.idem _ hb0n,root_ve HS.out.base.cls HR.out hb0n⟩
   have HV0:=hid hv0n;have HW0:Hid (wideC c0=true):=hid (wide_of HC0.out.2.2.1 (by rw[HWD.out,hw4]))
   have HFI:=hid (fun w' (he:Ext w3 w')=>(show Calls Tryz.prog 28 #[.pointer (some ⟨sb,0,none⟩),.int .i64 ((n+k0:Nat):Int)] w' (fun e w''=>e= .returned (.int .i64 (v0:Nat))∧∃P',SvNow D W0 w'' (.slice (some ⟨bx,ox,none⟩) m me) l n P0 P' v6 (.slice (some ⟨scb,0,none⟩) N N)∧Chg (fun b=>b=D.pb) w' w'') from by
    rw[←hv0,←class_node HS.out.base.cls (HS.out.ok c0 HC0.out.2.1) HC0.out.1 HW0.out,←HSB.out];exact svfind_any HS.out (HH3.out.now.ext he) (by have:=HC0.out.2.2.2.2.2;omega)))
   have HIP:=hid (fun(w':World) (P':List Nat) (h':SvNow D W0 w' (.slice (some ⟨bx,ox,none⟩) m me) l n P0 P' v6 (.slice (some ⟨scb,0,none⟩) N N))=>(show Calls Tryz.prog 29 #[.pointer (some ⟨sb,0,none⟩),.int .i64 (v0:Int)] w' (fun e w''=>e= .returned (.bool (D.fo v0).isSome)∧Ext w' w'') from by
    rw[←HSB.out];exact isptr_any HS.out h' (by have:=HV0.out.1;unfold i64b;omega)))
   have HVP:Hid ((D.fo v0).isSome=true↔IsPtr l c0.b):=hid (by
    rw[HS.out.isptr HR.out hv0n.1 hv0n.2.1];exact⟨isptr_ve hv0n.2.2.symm,isptr_ve hv0n.2.2⟩)
   have e1:IntKind.i64.wrap ((n:Int)+(k0:Int))=((n+k0:Nat):Int):=by have:=HC0.out.2.2.2.2.2;rw[IntWalk.i64_in _ (by omega)];omega
   have HK3:=hid (HK.out _ _ HH3.out.now);clear hb0 hb0n hv0 hv0n;go_upto_region 6 with fail
   clear p1 g1;refine wp_region_held_drew (S:=(fun w'=>w'.cell? ⟨W.heap.size,0,none⟩=some (.pointer (some ⟨sb,0,none⟩))∧w'.cell? ⟨sb,1,none⟩=some (.int .i64 n)∧w'.cell? ⟨g2,0,none⟩=some (.int .i64 k0))) (by kernel_rfl) ⟨(Ext.refl w3).drew.cell HF3.out.s,(Ext.refl w3).drew.cell HK3.out.2.1,(Ext.refl w3).drew.cell HK3.out.2.2.2.2.1⟩ (fun hSg2q0=>?_);refine rgT6 0 1 2 3 4 5 ?_;refine rgT3 6 7 8 ?_;refine rgC 9 (fun K hK=>?_);go_simp;go_at_call 28;refine(HFI.out _ (Ext.refl w3).drew).mono ?_;rintro e w4 ⟨rfl,P4,hn4,hc4⟩;have HC4:=hid ((Chg.of_ext (fun b=>b=D.pb) ((Ext.refl w3).drew)).trans hc4);have HN4:=hid hn4;clear hn4 hc4;refine rgK hK ⟨HC4.out.cell HF3.out.s (fun e=>by have h1:W.heap.size=D.pb:=e;have:=HBD.out;have:=HW.out.1;omega),(HK.out _ _ HN4.out).2.1,(HK.out _ _ HN4.out).2.2.2.2.1⟩ (fun hSg2q1=>?_);clear hK K;refine rgT 10 ?_;refine wpAnyH_done (by kernel_rfl) ?_ _;have HPW:Hid (D.pb<W.heap.size):=hid (by have:=HBD.out;have:=HW.out.1;omega);have HH4:=hid (HH3.out.pb HS.out (by have:=HQ.out.1;omega) HN4.out HC4.out);have HRB4:=hid (HRB3.out.chg HC4.out (fun e=>by have:=HPW.out;omega));have HG4:=hid ((Chg.of_ext (Mut3 D) HE3.out).trans (HC4.out.mono (fun b hb=> .inl hb)));have q0:=HC4.out.cell HF3.out.s (fun e=>by have h1:W.heap.size=D.pb:=e;have:=HPW.out;omega);clear e1 HK3
   go_wp2_with fail
   refine(HIP.out _ _ HN4.out).mono ?_;rintro e w5 ⟨rfl,hx5⟩;have HH5:=hid (HH4.out.ext hx5);have HRB5:=hid (HRB4.out.ext hx5);have HG5:=hid (HG4.out.ext hx5);have q0:=hx5.cell q0;have HX5:=hid hx5;obtain⟨z,hz⟩:∃z,(D.fo v0).isSome=z:=⟨_,rfl⟩;rw[hz];have HZP:=hid hz;clear hx5 hz
   cases z with
   | true=>
    have hvp:IsPtr l c0.b:=HVP.out.1 HZP.out;have HPT:=hid hvp
    have HLE:=hid (show Calls Tryz.prog 105 #[.pointer (some ⟨sb,0,none⟩),.int .i64 v0,.int .i64 q] w5 (LeadsPost d D W0 w5 (.slice (some ⟨bx,ox,none⟩) m me) l n P0 v6 scb N SC T ft fc v0 q) from by
     rw[←HSB.out];exact leads_any HS.out HH5.out HV0.out.1 HV0.out.2.1 (isptr_ve HV0.out.2.2 hvp) HQ.out.1 HQ.out.2.1 HQ.out.2.2)
    clear hvp
    go_wp2_with fail
    refine HLE.out.mono ?_;rintro e w6 ⟨zl,P6,T6,fr6,rfl,hlz,hpt6,hc6,htp6,hts6⟩;have HT6S:=hid hts6
    have HREC:Hid (zl=true↔Rec l c0):=hid (by
     rw[hlz];constructor
     ·rintro(k|k)
      ·exact .inl (HV0.out.2.2.trans (k.trans HC0.out.2.2.2.1.symm))
      ·exact .inr ((k.left HV0.out.2.2).right HC0.out.2.2.2.1.symm)
     ·rintro(k|k)
      ·exact .inl (HV0.out.2.2.symm.trans (k.trans HC0.out.2.2.2.1))
      ·exact .inr ((k.left HV0.out.2.2.symm).right HC0.out.2.2.2.1))
    have hn3:∀x,W.heap.size≤x→¬(x=D.pb∨x=D.b0+2):=fun x hx=>by have:=HPW.out;have:=HBD.out;omega
    have HRB6:=hid (HRB5.out.chg hc6 (hn3 _ (by omega)));have q0:=hc6.cell q0 (hn3 _ (Nat.le_refl _));have HG6:=hid (HG5.out.trans (hc6.mono (M':=Mut3 D) (fun b hb=>by rcases hb with hb|hb;exact .inl hb;exact .inr (.inr (.inr hb)))));have HT6:Hid (∀b,T6 b→T b∨w5.heap.size≤b):=hid htp6;have h5s:W.heap.size+3≤w5.heap.size:=by have h1:W1.heap.size<w3.heap.size:=World.block_lt_of_cell? _ _ HF3.out.wd;have h2:=HC4.out.size;have h3:w4.heap.size≤w5.heap.size:=HX5.out.size;have h4:=HS1.out;omega
    have H5S:=hid h5s
    have HRT:Hid (¬T6 (W.heap.size+1)):=hid (fun k=>by
     rcases htp6 _ k with e|e
     ·have:=HW.out.2 _ e;omega
     ·omega)
    have HH6:=hid hpt6;have HC56:=hid hc6.size;clear hlz hpt6 hc6 htp6 hts6 hn3 h5s HLE
    cases zl with
    | true=>
     have HUS:=hid (uses_any w6 sb (some ⟨bx,ox,none⟩) (some ⟨g2,0,none⟩) m me LQ c2 l L (HS.out.sl.ext (HH6.out.now.old HS.out)) (HK.out _ _ HH6.out.now).1 (HROW.out _ _ HH6.out.now).sl (fun k hk=>by
      obtain⟨c,hc,_⟩:=(HACC.out k).1 hk;exact(List.getElem?_eq_some_iff.1 hc).1))
     have HUK:Hid (∀z:Int,Used l c0 z↔L.any (kindK l z)=true):=hid (fun z=>by
      rw[List.any_eq_true];constructor
      ·rintro⟨e,he,hs,hk⟩;obtain⟨k,hkk⟩:=List.getElem?_of_mem he;refine⟨k,(HACC.out k).2 ⟨e,hkk,wide_acc hs.2.1,hs.2.2.2.symm.trans HC0.out.2.2.2.1,hs.2.2.1.symm.trans HC0.out.2.2.2.2.1⟩, ?_⟩;unfold kindK;rw[hkk];exact decide_eq_true hk
      ·rintro⟨k,hk,hkk⟩;obtain⟨e,he,hae,hve,hof⟩:=(HACC.out k).1 hk;unfold kindK at hkk;rw[he]at hkk;have hem:=List.mem_of_getElem? he;have hwe:wideC e=true:=wide_of hae (by rw[HALL.out e hem hae hve hof,HWD.out,hw4]);exact⟨e,hem,⟨HW0.out,hwe,HC0.out.2.2.2.2.1.trans hof.symm,HC0.out.2.2.2.1.trans hve.symm⟩,of_decide_eq_true hkk⟩)
     obtain⟨a2,ha2⟩:∃a2,L.any (kindK l 2)=a2:=⟨_,rfl⟩;obtain⟨a3,ha3⟩:∃a3,L.any (kindK l 3)=a3:=⟨_,rfl⟩;rw[ha2,ha3]at HUS;have HA2:=hid ha2;have HA3:=hid ha3;have HW44:=hid hw4;clear ha2 ha3 hw4
     go_wp2_with fail
     refine HUS.out.mono ?_;rintro e w7 ⟨rfl,hx7⟩;have HH7:=hid (HH6.out.ext hx7);have HRB7:=hid (HRB6.out.ext hx7);have HG7:=hid (HG6.out.ext hx7);clear hx7 HUS q0
     cases a3 with
     | false=>
      go_upto_region 11 with fail
      obtain⟨r0,r1,r2,r3,r4,rf⟩:=HRB7.out;have u0:=rf 0;have u1:=rf 1;have u2:=rf 2;have u3:=rf 3;have u4:=rf 4;obtain⟨W9,hW9,hB9,hH9,hS9,hX9⟩:=box5_set (HRB7.out) (.int .i64 0) (.int .i64 0) (.int .i64 0) (.slice none 0 0) (.slice none 0 0);obtain⟨t0,t1,t2,t3,t4, -⟩:=hB9;have hC9:=set5_chg w7 (W.heap.size+1) (.int .i64 0) (.int .i64 0) (.int .i64 0) (.slice none 0 0) (.slice none 0 0);rw[hW9]at hC9;have HC9:=hid hC9;have HW9:=hid hW9;clear hW9 hH9 hS9 hX9 rf hC9
      go_wp2
      try rw[HW9.out]
      clear r0 r1 r2 r3 r4;refine bodyPost_ret (v:= .tuple #[.agg #[(.int .i64 0),(.int .i64 0),(.int .i64 0),(.slice none 0 0),(.slice none 0 0)],.int .i64 1,.bool true]) (by simp[results,Tryz.results80,go_sem,t0,t1,t2,t3,t4]) rfl ?_;have hn3u:¬Used l c0 3:=fun k=>by have:=(HUK.out 3).1 k;rw[HA3.out]at this;cases this
      have hrec:=HREC.out.1 (by first|rfl|trivial)
      have hfi:=field_of HC0.out.2.1 HC0.out.2.2.1 HC0.out.2.2.2.1 HC0.out.2.2.2.2.1 HALL.out (t:=Ty.unk) (m:=0) (by unfold Content;rw[if_neg (by rw[HWD.out,HW44.out];simp)];exact .inr (.inr ⟨HPT.out,hrec,.inr ⟨hn3u,rfl⟩⟩)) (fun k=>by
       rcases(bad_cell HALL.out HC0.out.2.1 HC0.out.2.2.1 HC0.out.2.2.2.1 HC0.out.2.2.2.2.1).1 k with k|k|k
       ·have:=HO.out;omega
       ·exact hn3u k.2.2.2
       ·exact k.2.1 HPT.out)
      refine⟨_,Ty.unk,0,1,true,P6,T6,ft,fc,fr6,rfl,tyv_unk,hfi,by omega,PtTo.far HS.out ⟨HH7.out,HG7.out,fun b hb=>by rcases HT6.out b hb with e|e;exact .inl e;exact .inr (by have:=H5S.out;omega),fun x hx=> .inl hx,HT6S.out⟩ HC9.out (fun b hb=>⟨by have:=HW.out.1;omega,by omega,by rw[hb];exact HRT.out⟩)⟩
     | true=>
      go_wp2_with fail
      refine(vany_any d' w7).mono ?_;rintro e w8 ⟨v8,rfl,hv8,hx8⟩;have HH8:=hid (HH7.out.ext hx8);have HRB8:=hid (HRB7.out.ext hx8);have HG8:=hid (HG7.out.ext hx8);have HV8:=hid hv8;obtain⟨A8,n8,c8,B8,m8,e8,rfl, -⟩:=hv8;clear hx8;have hrec:=HREC.out.1 (by first|rfl|trivial);have HRC:=hid hrec;clear hrec
      cases a2 with
      | false=>
       obtain⟨r0,r1,r2,r3,r4,rf⟩:=HRB8.out;have u0:=rf 0;have u1:=rf 1;have u2:=rf 2;have u3:=rf 3;have u4:=rf 4;obtain⟨W9,hW9,hB9,hH9,hS9,hX9⟩:=box5_set (HRB8.out) (.int .i64 Ty.any.kind) (.int .i64 Ty.any.size) (.int .i64 Ty.any.count) (.slice A8 n8 c8) (.slice B8 m8 e8);obtain⟨t0,t1,t2,t3,t4, -⟩:=hB9;have hC9:=set5_chg w8 (W.heap.size+1) (.int .i64 Ty.any.kind) (.int .i64 Ty.any.size) (.int .i64 Ty.any.count) (.slice A8 n8 c8) (.slice B8 m8 e8);rw[hW9]at hC9;have HC9:=hid hC9;have HW9:=hid hW9;clear hW9 hH9 hS9 hX9 rf hC9
       go_wp2
       try rw[HW9.out]
       clear r0 r1 r2 r3 r4;refine bodyPost_ret (v:= .tuple #[.agg #[(.int .i64 Ty.any.kind),(.int .i64 Ty.any.size),(.int .i64 Ty.any.count),(.slice A8 n8 c8),(.slice B8 m8 e8)],.int .i64 1,.bool true]) (by simp[results,Tryz.results80,go_sem,t0,t1,t2,t3,t4]) rfl ?_;have hn2u:¬Used l c0 2:=fun k=>by have:=(HUK.out 2).1 k;rw[HA2.out]at this;cases this
       have hfi:=field_of HC0.out.2.1 HC0.out.2.2.1 HC0.out.2.2.2.1 HC0.out.2.2.2.2.1 HALL.out (t:=Ty.any) (m:=0) (by unfold Content;rw[if_neg (by rw[HWD.out,HW44.out];simp)];exact .inr (.inr ⟨HPT.out,HRC.out,.inl ⟨(HUK.out 3).2 HA3.out,rfl⟩⟩)) (fun k=>by
        rcases(bad_cell HALL.out HC0.out.2.1 HC0.out.2.2.1 HC0.out.2.2.2.1 HC0.out.2.2.2.2.1).1 k with k|k|k
        ·have:=HO.out;omega
        ·exact hn2u k.2.2.1
        ·exact k.2.1 HPT.out)
       refine⟨_,Ty.any,d',1,true,P6,T6,ft,fc,fr6,rfl,tyv_anyS HV8.out,hfi,by omega,PtTo.far HS.out ⟨HH8.out,HG8.out,fun b hb=>by rcases HT6.out b hb with e|e;exact .inl e;exact .inr (by have:=H5S.out;omega),fun x hx=> .inl hx,HT6S.out⟩ HC9.out (fun b hb=>⟨by have:=HW.out.1;omega,by omega,by rw[hb];exact HRT.out⟩)⟩
      |true=>
       obtain⟨r0,r1,r2,r3,r4,rf⟩:=HRB8.out;have u0:=rf 0;have u1:=rf 1;have u2:=rf 2;have u3:=rf 3;have u4:=rf 4;obtain⟨W9,hW9,hB9,hH9,hS9,hX9⟩:=box5_set (HRB8.out) (.int .i64 Ty.any.kind) (.int .i64 Ty.any.size) (.int .i64 Ty.any.count) (.slice A8 n8 c8) (.slice B8 m8 e8);obtain⟨t0,t1,t2,t3,t4, -⟩:=hB9;have hC9:=set5_chg w8 (W.heap.size+1) (.int .i64 Ty.any.kind) (.int .i64 Ty.any.size) (.int .i64 Ty.any.count) (.slice A8 n8 c8) (.slice B8 m8 e8);rw[hW9]at hC9;have HC9:=hid hC9;have HW9:=hid hW9;clear hW9 hH9 hS9 hX9 rf hC9
       go_wp2
       try rw[HW9.out]
       clear r0 r1 r2 r3 r4;refine bodyPost_ret (v:= .tuple #[.agg #[(.int .i64 Ty.any.kind),(.int .i64 Ty.any.size),(.int .i64 Ty.any.count),(.slice A8 n8 c8),(.slice B8 m8 e8)],.int .i64 1,.bool false]) (by simp[results,Tryz.results80,go_sem,t0,t1,t2,t3,t4]) rfl ?_;refine⟨_,Ty.any,d',1,false,P6,T6,ft,fc,fr6,rfl,tyv_anyS HV8.out,.inl ⟨rfl,(bad_cell HALL.out HC0.out.2.1 HC0.out.2.2.1 HC0.out.2.2.2.1 HC0.out.2.2.2.2.1).2 (.inr (.inl ⟨HW0.out,HRC.out,(HUK.out 2).2 HA2.out,(HUK.out 3).2 HA3.out⟩))⟩,by omega,PtTo.far HS.out ⟨HH8.out,HG8.out,fun b hb=>by rcases HT6.out b hb with e|e;exact .inl e;exact .inr (by have:=H5S.out;omega),fun x hx=> .inl hx,HT6S.out⟩ HC9.out (fun b hb=>⟨by have:=HW.out.1;omega,by omega,by rw[hb];exact HRT.out⟩)⟩
    | false=>
     have hnr:¬Rec l c0:=fun k=>by have:=HREC.out.2 k;simp at this
     have HNR:=hid hnr;have hmu:mu l n (v0:Int)<mu l n (q:Int):=by rw[←mu_ve HV0.out.2.2];exact mu_lt HS.out.ok HC0.out.2.1 HW0.out HC0.out.2.2.2.1 hnr
     have HMU:=hid hmu
     have HPC:=hid (show Calls Tryz.prog 31 #[.pointer (some ⟨sb,0,none⟩),.int .i64 v0] w6 (PtrPost d D W0 w6 (.slice (some ⟨bx,ox,none⟩) m me) l n P0 v6 scb N SC T6 ft v0) from by
      rw[←HSB.out];exact HPO.out v0 HV0.out.1 HV0.out.2.1 (isptr_ve HV0.out.2.2 HPT.out) hmu w6 P6 T6 ft fc fr6 HH6.out)
     clear hnr hmu
     go_wp2_with fail
     refine HPC.out.mono ?_;rintro e w7 ⟨v7,t,d7,mm,P7,T7,ft7,fc7,fr7,rfl,hv7,hpt,hct,hcn,hto⟩;have HV7:=hid hv7;have HPTT:=hid hpt;have HCT:=hid hct;have HTO:=hid hto;have H6S:Hid (w5.heap.size≤w6.heap.size):=hid (by have h1:=HRB6.out.lt;have h2:W.heap.size+1<w6.heap.size:=h1;exact HC56.out)
     have HR7:Hid (¬T7 (W.heap.size+1)):=hid (fun k=>by
      rcases hto.plc _ k with e|e
      ·exact HRT.out e
      ·have:=H6S.out;have:=H5S.out;omega)
     have hn4:∀x,W.heap.size≤x→¬Mut3 D x:=fun x hx e=>by have:=HPW.out;have:=HBD.out;unfold Mut3 at e;omega
     have HRB7:=hid (HRB6.out.chg hto.chg (hn4 _ (by omega)));have q0:=hto.chg.cell q0 (hn4 _ (Nat.le_refl _));obtain⟨A7,n7,c7,B7,m7,e7,rfl, -⟩:=hv7;obtain⟨W7,hW7⟩:∃W7,w7.alloc (.cells #[.int .i64 0,.int .i64 0,.int .i64 0,.slice none 0 0,.slice none 0 0] 42)=W7:=⟨_,rfl⟩;have hB7:Box5 W7 w7.heap.size (.int .i64 0) (.int .i64 0) (.int .i64 0) (.slice none 0 0) (.slice none 0 0):=by rw[←hW7];exact Box5.new w7 _ _ _ _ _ _
     have hE7:Ext w7 W7:=by rw[←hW7];exact(Ext.refl _).alloc _
     obtain⟨W8,hW8,hB8,hH8,hS8,hX8⟩:=box5_set hB7 (.int .i64 t.kind) (.int .i64 t.size) (.int .i64 t.count) (.slice A7 n7 c7) (.slice B7 m7 e7);have HE8:=hid (hX8 w7 hE7 (Nat.le_refl _));have HW8:=hid hW8;have hTO8:=(PtTo.trans (B:=fun y=>mu l n (y:Int)<mu l n (q:Int)) ⟨HH6.out,HG6.out,fun b hb=>by rcases HT6.out b hb with e|e;exact .inl e;exact .inr (by have:=H5S.out;omega),fun x hx=> .inl hx,HT6S.out⟩ (hto.weak (fun y hy=>Nat.lt_of_le_of_lt hy HMU.out))).ext HE8.out;have HTO8:=hid hTO8;have HRB8:=hid (HRB7.out.ext HE8.out);have hlk:=cnt_look (hTO8.ext (Ext.refl W8).drew).pts.cnt (q:=(v0:Int)) (by have:=HV0.out.1;unfold i64b;omega);rw[hcn,Option.getD_some]at hlk;have HLKC:=hid hlk;have hk9:=(HK.out _ _ (hTO8.ext (Ext.refl W8).drew).pts.now).2.2.2.1;have HQ0:=hid (HE8.out.cell q0);have q0:=((HE8.out).drew).cell q0;have hB8q:=hB8;have HCN:=hid hcn;have HSZ7:Hid (W.heap.size+1<w7.heap.size):=hid HRB7.out.lt;have HW44:=hid hw4;obtain⟨s0,s1,s2,s3,s4, -⟩:=hB8.ext (Ext.refl W8).drew;obtain⟨z0,z1,z2,z3,z4,zf⟩:=hB7;have y0:=zf 0;have y1:=zf 1;have y2:=zf 2;have y3:=zf 3;have y4:=zf 4;clear hw4 hlk hTO8 hcn hct hpt hto hn4 hW8 hB8 hH8 hS8 hX8 hE7 zf HPC;go_upto_region 14 with fail
     rw[HW8.out];clear z0 z1 z2 z3 z4 y0 y1 y2 y3 y4 hW7;obtain⟨r0,r1,r2,r3,r4,rf⟩:=HRB8.out;have u0:=rf 0;have u1:=rf 1;have u2:=rf 2;have u3:=rf 3;have u4:=rf 4;obtain⟨W9,hW9,hB9,hH9,hS9,hX9⟩:=box5_set (HRB8.out) (.int .i64 t.kind) (.int .i64 t.size) (.int .i64 t.count) (.slice A7 n7 c7) (.slice B7 m7 e7);obtain⟨t0,t1,t2,t3,t4, -⟩:=hB9;have hC9:=set5_chg W8 (W.heap.size+1) (.int .i64 t.kind) (.int .i64 t.size) (.int .i64 t.count) (.slice A7 n7 c7) (.slice B7 m7 e7);rw[hW9]at hC9;have HC9:=hid hC9;have HW9:=hid hW9;clear hW9 hH9 hS9 hX9 rf hC9;have HGN:Hid (∀x,x≠W.heap.size+1→¬x=W.heap.size+1):=hid (fun x hx=>hx);have HSA:=hid hB8q;have hk9':=(HK.out _ _ ((PtTo.far HS.out HTO8.out HC9.out (fun b hb=>⟨by have:=HW.out.1;omega,by omega,by rw[hb];exact HR7.out⟩)).ext (Ext.refl W9).drew).pts.now).2.2.2.1;have hlk9:=cnt_look ((PtTo.far HS.out HTO8.out HC9.out (fun b hb=>⟨by have:=HW.out.1;omega,by omega,by rw[hb];exact HR7.out⟩)).ext (Ext.refl W9).drew).pts.cnt (q:=(v0:Int)) (by have:=HV0.out.1;unfold i64b;omega);rw[HCN.out,Option.getD_some]at hlk9
     have HS9:=hid (show _ from(⟨((Ext.refl W9).drew).cell (HC9.out.cell HQ0.out (fun e=>by have h1:W.heap.size=W.heap.size+1:=e;omega)),hk9',((Ext.refl W9).drew).cell (HC9.out.cell HSA.out.1 (fun e=>by have h1:w7.heap.size=W.heap.size+1:=e;have:=HSZ7.out;omega)),((Ext.refl W9).drew).cell (HC9.out.cell HSA.out.2.1 (fun e=>by have h1:w7.heap.size=W.heap.size+1:=e;have:=HSZ7.out;omega)),((Ext.refl W9).drew).cell (HC9.out.cell HSA.out.2.2.1 (fun e=>by have h1:w7.heap.size=W.heap.size+1:=e;have:=HSZ7.out;omega)),((Ext.refl W9).drew).cell (HC9.out.cell HSA.out.2.2.2.1 (fun e=>by have h1:w7.heap.size=W.heap.size+1:=e;have:=HSZ7.out;omega)),((Ext.refl W9).drew).cell (HC9.out.cell HSA.out.2.2.2.2.1 (fun e=>by have h1:w7.heap.size=W.heap.size+1:=e;have:=HSZ7.out;omega)),hlk9⟩:
      W9.drew.cell? ⟨W.heap.size,0,none⟩=some (.pointer (some ⟨sb,0,none⟩))∧W9.drew.cell? ⟨sb,9,none⟩=some (.map (some (D.b0+1)))∧W9.drew.cell? ⟨w7.heap.size,0,none⟩=some (.int .i64 t.kind)∧W9.drew.cell? ⟨w7.heap.size,1,none⟩=some (.int .i64 t.size)∧W9.drew.cell? ⟨w7.heap.size,2,none⟩=some (.int .i64 t.count)∧W9.drew.cell? ⟨w7.heap.size,3,none⟩=some (.slice A7 n7 c7)∧W9.drew.cell? ⟨w7.heap.size,4,none⟩=some (.slice B7 m7 e7)∧(Instr.lookup 72 (.map (some (D.b0+1))) (.int .i64 v0) false).run Tryz.prog W9.drew= .ok (.int .i64 (cntT t)) W9.drew))
     have HS8':=hid (show _ from(⟨q0,hk9,s0,s1,s2,s3,s4,HLKC.out⟩:W8.drew.cell? ⟨W.heap.size,0,none⟩=some (.pointer (some ⟨sb,0,none⟩))∧W8.drew.cell? ⟨sb,9,none⟩=some (.map (some (D.b0+1)))∧W8.drew.cell? ⟨w7.heap.size,0,none⟩=some (.int .i64 t.kind)∧W8.drew.cell? ⟨w7.heap.size,1,none⟩=some (.int .i64 t.size)∧W8.drew.cell? ⟨w7.heap.size,2,none⟩=some (.int .i64 t.count)∧W8.drew.cell? ⟨w7.heap.size,3,none⟩=some (.slice A7 n7 c7)∧W8.drew.cell? ⟨w7.heap.size,4,none⟩=some (.slice B7 m7 e7)∧(Instr.lookup 72 (.map (some (D.b0+1))) (.int .i64 v0) false).run Tryz.prog W8.drew= .ok (.int .i64 (cntT t)) W8.drew));clear hk9' hlk9 q0 hk9 s0 s1 s2 s3 s4;refine wp_region_held_drew (S:=(fun w'=>w'.cell? ⟨W.heap.size,0,none⟩=some (.pointer (some ⟨sb,0,none⟩))∧w'.cell? ⟨sb,9,none⟩=some (.map (some (D.b0+1)))∧w'.cell? ⟨w7.heap.size,0,none⟩=some (.int .i64 t.kind)∧w'.cell? ⟨w7.heap.size,1,none⟩=some (.int .i64 t.size)∧w'.cell? ⟨w7.heap.size,2,none⟩=some (.int .i64 t.count)∧w'.cell? ⟨w7.heap.size,3,none⟩=some (.slice A7 n7 c7)∧w'.cell? ⟨w7.heap.size,4,none⟩=some (.slice B7 m7 e7)∧(Instr.lookup 72 (.map (some (D.b0+1))) (.int .i64 v0) false).run Tryz.prog w'= .ok (.int .i64 (cntT t)) w')) (by kernel_rfl) HS8'.out (fun hSg3q0=>?_);refine rgT6 0 1 2 3 4 5 ?_;refine rgT 6 ?_;refine rgC 7 (fun K hK=>?_);go_simp;rw[HW9.out];refine rgK hK HS9.out (fun hSg3q1=>?_);clear hK K;refine rgT2 8 9 ?_;refine wpAnyH_done (by kernel_rfl) ?_ _
     go_wp2
     clear r0 r1 r2 r3 r4;refine bodyPost_ret (v:= .tuple #[.agg #[(.int .i64 t.kind),(.int .i64 t.size),(.int .i64 t.count),(.slice A7 n7 c7),(.slice B7 m7 e7)],.int .i64 (cntT t),.bool true]) (by simp[results,Tryz.results80,go_sem,t0,t1,t2,t3,t4]) rfl ?_
     have hfi:=field_of HC0.out.2.1 HC0.out.2.2.1 HC0.out.2.2.2.1 HC0.out.2.2.2.2.1 HALL.out (t:=t) (m:=mm) (by unfold Content;rw[if_neg (by rw[HWD.out,HW44.out];simp)];exact .inr (.inl ⟨HPT.out,HNR.out,ptrty_ve HV0.out.2.2.symm HPTT.out⟩)) (fun k=>by
      rcases(bad_cell HALL.out HC0.out.2.1 HC0.out.2.2.1 HC0.out.2.2.2.1 HC0.out.2.2.2.2.1).1 k with k|k|k
      ·have:=HO.out;omega
      ·exact HNR.out k.2.1
      ·exact k.2.1 HPT.out)
     exact⟨_,t,d7,cntT t,true,P7,T7,ft7,fc7,fr7,rfl,((HC9.out.ty (HV7.out.ext HE8.out) (fun b hb e=>HR7.out (by rw[←e];exact hb))).ext (Ext.refl W9).drew),hfi,by have:=HCT.out;omega,(PtTo.far HS.out HTO8.out HC9.out (fun b hb=>⟨by have:=HW.out.1;omega,by omega,by rw[hb];exact HR7.out⟩)).ext (Ext.refl W9).drew⟩
   | false=>
    have hnp:¬IsPtr l c0.b:=fun k=>by have:=HVP.out.2 k;rw[HZP.out]at this;cases this
    have HNP:=hid hnp;have h5s:W.heap.size+3≤w5.heap.size:=by have h1:W1.heap.size<w3.heap.size:=World.block_lt_of_cell? _ _ HF3.out.wd;have h2:=HC4.out.size;have h3:w4.heap.size≤w5.heap.size:=HX5.out.size;have h4:=HS1.out;omega
    have H5S:=hid h5s;obtain⟨cn,hcn⟩:∃cn,cellN l n (rootP P0) c0=cn:=⟨_,rfl⟩;have hcnl:cn<N:=by rw[←hcn,←HNN.out];exact cellN_lt HC0.out.2.1 HW0.out
    obtain⟨x,hx⟩:∃x,TF cn=x:=⟨_,rfl⟩;have hsx:SC[cn]? =some x:=by rw[←hx];exact HFL.out.at' cn (by rw[HNN.out];exact hcnl)
    have hcell:IsCell l c0 x:=by rw[←hx,←hcn];exact flow_cell HS.out.base.cls HS.out.ok HFL.out.flow HC0.out.2.1 HW0.out
    have hcnt:cntT x≤1000000000:=Nat.le_trans (hcell.cnt HS.out.ok) HFL.out.cnt;obtain⟨d3,A3,n3,c3,B3,m3,e3,hd3,hvx,y0,y1,y2,y3,y4, -⟩:=ownTy_at HH5.out.scal hsx;have HCELL:=hid hcell;have HVX:=hid hvx;have HY:=hid (show _ from(⟨y0,y1,y2,y3,y4⟩:w5.cell? ⟨scb,cn * 5,none⟩=some (.int .i64 x.kind)∧w5.cell? ⟨scb,cn * 5+1,none⟩=some (.int .i64 x.size)∧w5.cell? ⟨scb,cn * 5+2,none⟩=some (.int .i64 x.count)∧w5.cell? ⟨scb,cn * 5+3,none⟩=some (.slice A3 n3 c3)∧w5.cell? ⟨scb,cn * 5+4,none⟩=some (.slice B3 m3 e3)));have hscp:¬scb=D.pb:=fun e=>by have:=(HH5.out.place _ HH5.out.tscb).1;have:=HBD.out;omega
    have HSK:=hid (fun(w':World) (P':List Nat) (hw:SvNow D W0 w' (.slice (some ⟨bx,ox,none⟩) m me) l n P0 P' v6 (.slice (some ⟨scb,0,none⟩) N N)) (hc:Chg (fun b=>b=D.pb) w5 w')=>(show w'.cell? ⟨W.heap.size,0,none⟩=some (.pointer (some ⟨sb,0,none⟩))∧w'.cell? ⟨sb,7,none⟩=some (.slice (some ⟨scb,0,none⟩) N N)∧w'.cell? ⟨g2,0,none⟩=some (.int .i64 k0)∧w'.cell? ⟨scb,cn * 5,none⟩=some (.int .i64 x.kind)∧w'.cell? ⟨scb,cn * 5+1,none⟩=some (.int .i64 x.size)∧w'.cell? ⟨scb,cn * 5+2,none⟩=some (.int .i64 x.count)∧w'.cell? ⟨scb,cn * 5+3,none⟩=some (.slice A3 n3 c3)∧w'.cell? ⟨scb,cn * 5+4,none⟩=some (.slice B3 m3 e3) from
     ⟨hc.cell q0 (fun e=>by have h1:W.heap.size=D.pb:=e;have:=HPW.out;omega),(HK.out w' P' hw).2.2.1,(HK.out w' P' hw).2.2.2.2.1,hc.cell HY.out.1 hscp,hc.cell HY.out.2.1 hscp,hc.cell HY.out.2.2.1 hscp,hc.cell HY.out.2.2.2.1 hscp,hc.cell HY.out.2.2.2.2 hscp⟩))
    have HCO:=hid (fun(w':World) (P':List Nat) (hw:SvNow D W0 w' (.slice (some ⟨bx,ox,none⟩) m me) l n P0 P' v6 (.slice (some ⟨scb,0,none⟩) N N))=>(show Calls Tryz.prog 50 #[.pointer (some ⟨sb,0,none⟩),.int .i64 k0] w' (fun e w''=>e= .returned (.int .i64 (cn:Nat))∧∃P'',SvNow D W0 w'' (.slice (some ⟨bx,ox,none⟩) m me) l n P0 P'' v6 (.slice (some ⟨scb,0,none⟩) N N)∧Chg (fun b=>b=D.pb) w' w'') from by
     rw[←hcn,←HSB.out];exact cellof_any HS.out hw HC0.out.1 HW0.out))
    have HFW:=hid (HH5.out.ext (Ext.refl w5).drew);have HCW:=hid (Chg.of_ext (fun b=>b=D.pb) (Ext.refl w5).drew);have HS0:=hid (HSK.out _ _ HFW.out.now HCW.out);have i3:cn<N:=hcnl;have HCNT:=hid hcnt;have HNP0:Hid (0<n+l.length):=hid (by have:=HQ.out.1;omega);have HW44:=hid hw4;clear hw4 hnp h5s hcn hcnl hx hsx hcell hcnt hvx y0 y1 y2 y3 y4 hscp q0 hd3;go_upto_region 15 with fail
    go_cut [16] from 80 to 91 (fun s16 wx=>∃(aP:Nat) (P7:List Nat),s16= .pointer (some ⟨aP,0,none⟩)∧Hid (Box5 wx aP (.int .i64 x.kind) (.int .i64 x.size) (.int .i64 x.count) (.slice A3 n3 c3) (.slice B3 m3 e3))∧Hid (PtS d D W0 wx (.slice (some ⟨bx,ox,none⟩) m me) l n P0 P7 v6 scb N SC T ft fc fr)∧Hid (Chg (fun b=>b=D.pb) w5 wx)∧Hid (w5.heap.size≤aP))
    case rest=>
     obtain⟨aP,P7,rfl,HBP,HH7,HC7,HAP⟩:=hcut;obtain⟨V,hV⟩:∃V,V=wc:=⟨_,rfl⟩;obtain rfl:=hV;clear HS0 HCW HFW i3;have HVV:=hid ((HC7.out.ty HVX.out (fun b hb e=>by have h1:=(HH5.out.place b hb.1).1;have:=HBD.out;have h2:b=D.pb:=e;omega)).mono (S':=fun b=>T b) (fun b hb _=>hb.1));have HFA:=hid (fieldat_any d3 V x _ 0 4 HVV.out.all (by unfold i64b;omega));obtain⟨p0,p1,p2,p3,p4, -⟩:=HBP.out
     go_wp2_with fail
     refine HFA.out.mono ?_;rintro e w7 ⟨v7,fo,y,rfl,hv7,hx7,hfo⟩;have HFO:=hid hfo;have HX7:=hid hx7;have HV7:=hid hv7.all;obtain⟨A7,n7,c7,B7,m7,e7,rfl, -⟩:=hv7;obtain⟨W7,hW7⟩:∃W7,w7.alloc (.cells #[.int .i64 0,.int .i64 0,.int .i64 0,.slice none 0 0,.slice none 0 0] 42)=W7:=⟨_,rfl⟩;have hB7:Box5 W7 w7.heap.size (.int .i64 0) (.int .i64 0) (.int .i64 0) (.slice none 0 0) (.slice none 0 0):=by rw[←hW7];exact Box5.new w7 _ _ _ _ _ _
     have hE7:Ext w7 W7:=by rw[←hW7];exact(Ext.refl _).alloc _
     obtain⟨W8,hW8,hB8,hH8,hS8,hX8⟩:=box5_set hB7 (.int .i64 y.kind) (.int .i64 y.size) (.int .i64 y.count) (.slice A7 n7 c7) (.slice B7 m7 e7);have HE8:=hid (hX8 w7 hE7 (Nat.le_refl _));have HVE:=hid (hx7.trans HE8.out);have HW8:=hid hW8;have HB8:=hid hB8;have HBQ:=hid (HBP.out.ext HVE.out);have HSZ:Hid (W.heap.size+1<w7.heap.size∧W.heap.size+1<aP):=hid (by have h1:=HAP.out;have h2:=HC7.out.size;have h3:=hx7.size;have h4:=H5S.out;omega);obtain⟨z0,z1,z2,z3,z4,zf⟩:=hB7;have f0:=zf 0;have f1:=zf 1;have f2:=zf 2;have f3:=zf 3;have f4:=zf 4;have HRB8:=hid ((HRB5.out.chg HC7.out (fun e=>by have h1:W.heap.size+1=D.pb:=e;have:=HPW.out;omega)).ext HVE.out)
     have HSK8:=hid (fun w' (he:Ext W8 w')=>(show w'.cell? ⟨aP,0,none⟩=some (.int .i64 x.kind)∧w'.cell? ⟨aP,1,none⟩=some (.int .i64 x.size)∧w'.cell? ⟨aP,2,none⟩=some (.int .i64 x.count)∧w'.cell? ⟨aP,3,none⟩=some (.slice A3 n3 c3)∧w'.cell? ⟨aP,4,none⟩=some (.slice B3 m3 e3)∧w'.cell? ⟨w7.heap.size,0,none⟩=some (.int .i64 y.kind)∧w'.cell? ⟨w7.heap.size,1,none⟩=some (.int .i64 y.size)∧w'.cell? ⟨w7.heap.size,2,none⟩=some (.int .i64 y.count)∧w'.cell? ⟨w7.heap.size,3,none⟩=some (.slice A7 n7 c7)∧w'.cell? ⟨w7.heap.size,4,none⟩=some (.slice B7 m7 e7) from
      ⟨he.cell HBQ.out.1,he.cell HBQ.out.2.1,he.cell HBQ.out.2.2.1,he.cell HBQ.out.2.2.2.1,he.cell HBQ.out.2.2.2.2.1,he.cell HB8.out.1,he.cell HB8.out.2.1,he.cell HB8.out.2.2.1,he.cell HB8.out.2.2.2.1,he.cell HB8.out.2.2.2.2.1⟩))
     have HTO8:=hid ((PtTo.start (B:=fun y=>mu l n (y:Int)<mu l n (q:Int)) HH7.out (HG5.out.trans (HC7.out.mono (fun b hb=> .inl hb)))).ext HVE.out);have HV8:=hid (HVV.out.ext HVE.out);have HCT8:=hid (fun w' (he:Ext W8 w')=>vcount_any d3 w' x _ ((HV8.out.ext he).all) HCNT.out);have HSM8:=hid (fun w' (he:Ext W8 w')=>same_any d3 w' y x _ _ ((HV7.out.ext HE8.out).ext he) ((HV8.out.ext he).all));have HRT:Hid (¬T (W.heap.size+1)):=hid (fun k=>by have:=HW.out.2 _ k;omega);clear hfo hx7 hW8 hB8 hH8 hS8 hX8 hE7 zf HFA;go_upto_region 17 with fail
     rw[HW8.out];clear z0 z1 z2 z3 z4 f0 f1 f2 f3 f4 hW7 p0 p1 p2 p3 p4
     have HFIN:Hid (∀ok:Bool,(ok=true↔fieldT x 0 4=some x)→FieldIs l (q:Int) o x (cntT x) ok):=hid (fun ok hok=>by
      cases ok with
      | true=>
       refine field_of HC0.out.2.1 HC0.out.2.2.1 HC0.out.2.2.2.1 HC0.out.2.2.2.2.1 HALL.out (t:=x) (m:=0) (by unfold Content;rw[if_neg (by rw[HWD.out,HW44.out];simp)];exact .inl ⟨HNP.out,HCELL.out⟩) (fun k=>?_);rcases(bad_cell HALL.out HC0.out.2.1 HC0.out.2.2.1 HC0.out.2.2.2.1 HC0.out.2.2.2.2.1).1 k with k|k|k
       ·have:=HO.out;omega
       ·obtain⟨k1,k2,k3,k4⟩:=k
        exact HNP.out (by
         rcases k2 with k2|k2
         ·exact⟨c0,HC0.out.2.1,HC0.out.2.2.1,k2.symm⟩
         ·exact leads_ptr k2)
       ·obtain⟨k1,k2,t',k3,k4⟩:=k;have:=k3.unique HCELL.out;subst this;exact k4 (hok.1 rfl)
      |false=>
       refine .inl ⟨rfl,(bad_cell HALL.out HC0.out.2.1 HC0.out.2.2.1 HC0.out.2.2.2.1 HC0.out.2.2.2.2.1).2 (.inr (.inr ⟨HW0.out,HNP.out,x,HCELL.out,fun e=>?_⟩))⟩;have:=hok.2 e;cases this)
     cases fo with
     |false=>
      have hno:fieldT x 0 4=none:=by rcases HFO.out with⟨h1,h2⟩|⟨h1,h2⟩;cases h1;exact h2
      have HFF:=hid (HFIN.out false (by rw[hno];simp));clear hno;refine wp_region_held_drew (S:=(fun w'=>w'.cell? ⟨aP,0,none⟩=some (.int .i64 x.kind)∧w'.cell? ⟨aP,1,none⟩=some (.int .i64 x.size)∧w'.cell? ⟨aP,2,none⟩=some (.int .i64 x.count)∧w'.cell? ⟨aP,3,none⟩=some (.slice A3 n3 c3)∧w'.cell? ⟨aP,4,none⟩=some (.slice B3 m3 e3)∧w'.cell? ⟨w7.heap.size,0,none⟩=some (.int .i64 y.kind)∧w'.cell? ⟨w7.heap.size,1,none⟩=some (.int .i64 y.size)∧w'.cell? ⟨w7.heap.size,2,none⟩=some (.int .i64 y.count)∧w'.cell? ⟨w7.heap.size,3,none⟩=some (.slice A7 n7 c7)∧w'.cell? ⟨w7.heap.size,4,none⟩=some (.slice B7 m7 e7))) (by kernel_rfl) (HSK8.out _ (Ext.refl W8).drew) (fun hSg4q0=>?_);refine rgT3 0 1 3 ?_;refine rgC 2 (fun K hK=>?_);go_simp;go_at_call 107;refine(HCT8.out _ (Ext.refl W8).drew).mono ?_;rintro e w9 ⟨rfl,hx9⟩;have HX9:=hid hx9.drew_left;clear hx9;refine rgK hK (HSK8.out _ HX9.out) (fun hSg4q1=>?_);clear hK K;refine rgT 4 ?_;refine rgU2 5 6 ?_;refine rgC 7 (fun K hK=>?_);refine cast (if_neg (fun h=>Bool.noConfusion (show false=true from h))).symm ?_;refine rgK hK (by assumption) (fun hSg4q2=>?_);clear hK K;refine rgT 8 ?_;refine rgC 9 (fun K hK=>?_);obtain⟨r0,r1,r2,r3,r4,rf⟩:=(HRB8.out.ext HX9.out);have u0:=rf 0;have u1:=rf 1;have u2:=rf 2;have u3:=rf 3;have u4:=rf 4;obtain⟨W9,hW9,hB9,hH9,hS9,hX9⟩:=box5_set ((HRB8.out.ext HX9.out)) (.int .i64 x.kind) (.int .i64 x.size) (.int .i64 x.count) (.slice A3 n3 c3) (.slice B3 m3 e3);obtain⟨t0,t1,t2,t3,t4, -⟩:=hB9;have hC9:=set5_chg w9 (W.heap.size+1) (.int .i64 x.kind) (.int .i64 x.size) (.int .i64 x.count) (.slice A3 n3 c3) (.slice B3 m3 e3);rw[hW9]at hC9;have HC9:=hid hC9;have HW9:=hid hW9;clear hW9 hH9 hS9 hX9 rf hC9;go_simp;rw[HW9.out];refine rgK hK (stor17_keep (HSK8.out _ HX9.out) HC9.out HSZ.out) (fun hSg4q3=>?_);clear hK K;refine rgT2 10 11 ?_;refine wpAnyH_done (by kernel_rfl) ?_ _
      go_wp2
      clear r0 r1 r2 r3 r4;refine bodyPost_ret (v:= .tuple #[.agg #[(.int .i64 x.kind),(.int .i64 x.size),(.int .i64 x.count),(.slice A3 n3 c3),(.slice B3 m3 e3)],.int .i64 (cntT x),.bool false]) (by simp[results,Tryz.results80,go_sem,t0,t1,t2,t3,t4]) rfl ?_;exact⟨_,x,d3,cntT x,false,P7,T,ft,fc,fr,rfl,HC9.out.ty (HV8.out.ext HX9.out) (fun b hb e=>HRT.out (by rw[←e];exact hb)),HFF.out,HCNT.out,PtTo.far HS.out (HTO8.out.ext HX9.out) HC9.out (fun b hb=>⟨by have:=HW.out.1;omega,by omega,by rw[hb];exact HRT.out⟩)⟩
     |true=>
      have hyes:fieldT x 0 4=some y:=by rcases HFO.out with⟨h1,h2⟩|⟨h1,h2⟩;exact h2;cases h1
      obtain⟨ok,hok⟩:∃ok,sameT y x=ok:=⟨_,rfl⟩;have HFF:=hid (HFIN.out ok (by rw[hyes,←hok,sameT_iff];constructor;intro h;rw[h];intro h;injection h));rw[hok]at HSM8;clear hyes hok;refine wp_region_held_drew (S:=(fun w'=>w'.cell? ⟨aP,0,none⟩=some (.int .i64 x.kind)∧w'.cell? ⟨aP,1,none⟩=some (.int .i64 x.size)∧w'.cell? ⟨aP,2,none⟩=some (.int .i64 x.count)∧w'.cell? ⟨aP,3,none⟩=some (.slice A3 n3 c3)∧w'.cell? ⟨aP,4,none⟩=some (.slice B3 m3 e3)∧w'.cell? ⟨w7.heap.size,0,none⟩=some (.int .i64 y.kind)∧w'.cell? ⟨w7.heap.size,1,none⟩=some (.int .i64 y.size)∧w'.cell? ⟨w7.heap.size,2,none⟩=some (.int .i64 y.count)∧w'.cell? ⟨w7.heap.size,3,none⟩=some (.slice A7 n7 c7)∧w'.cell? ⟨w7.heap.size,4,none⟩=some (.slice B7 m7 e7))) (by kernel_rfl) (HSK8.out _ (Ext.refl W8).drew) (fun hSg5q0=>?_);refine rgT3 0 1 3 ?_;refine rgC 2 (fun K hK=>?_);go_simp;go_at_call 107;refine(HCT8.out _ (Ext.refl W8).drew).mono ?_;rintro e w9 ⟨rfl,hx9⟩;have HX9:=hid hx9.drew_left;clear hx9;refine rgK hK (HSK8.out _ HX9.out) (fun hSg5q1=>?_);clear hK K;refine rgT3 4 5 6 ?_;refine rgC 7 (fun K hK=>?_);go_simp;go_at_call 51;refine(HSM8.out _ HX9.out).mono ?_;rintro e w10 ⟨rfl,hx10⟩;have HX10:=hid (HX9.out.trans hx10);clear hx10;refine rgK hK (HSK8.out _ HX10.out) (fun hSg5q2=>?_);clear hK K;refine rgT 8 ?_;refine rgC 9 (fun K hK=>?_);obtain⟨r0,r1,r2,r3,r4,rf⟩:=(HRB8.out.ext HX10.out);have u0:=rf 0;have u1:=rf 1;have u2:=rf 2;have u3:=rf 3;have u4:=rf 4;obtain⟨W9,hW9,hB9,hH9,hS9,hX9⟩:=box5_set ((HRB8.out.ext HX10.out)) (.int .i64 x.kind) (.int .i64 x.size) (.int .i64 x.count) (.slice A3 n3 c3) (.slice B3 m3 e3);obtain⟨t0,t1,t2,t3,t4, -⟩:=hB9;have hC9:=set5_chg w10 (W.heap.size+1) (.int .i64 x.kind) (.int .i64 x.size) (.int .i64 x.count) (.slice A3 n3 c3) (.slice B3 m3 e3);rw[hW9]at hC9;have HC9:=hid hC9;have HW9:=hid hW9;clear hW9 hH9 hS9 hX9 rf hC9;go_simp;rw[HW9.out];refine rgK hK (stor17_keep (HSK8.out _ HX10.out) HC9.out HSZ.out) (fun hSg5q3=>?_);clear hK K;refine rgT2 10 11 ?_;refine wpAnyH_done (by kernel_rfl) ?_ _
      go_wp2
      clear r0 r1 r2 r3 r4;refine bodyPost_ret (v:= .tuple #[.agg #[(.int .i64 x.kind),(.int .i64 x.size),(.int .i64 x.count),(.slice A3 n3 c3),(.slice B3 m3 e3)],.int .i64 (cntT x),.bool ok]) (by simp[results,Tryz.results80,go_sem,t0,t1,t2,t3,t4]) rfl ?_;exact⟨_,x,d3,cntT x,ok,P7,T,ft,fc,fr,rfl,HC9.out.ty (HV8.out.ext HX10.out) (fun b hb e=>HRT.out (by rw[←e];exact hb)),HFF.out,HCNT.out,PtTo.far HS.out (HTO8.out.ext HX10.out) HC9.out (fun b hb=>⟨by have:=HW.out.1;omega,by omega,by rw[hb];exact HRT.out⟩)⟩
    have HXg6q_0:=hid ((Ext.refl w5).drew);refine wp_region_split 12 (by kernel_rfl) rfl rfl (by kernel_rfl) (fun w'=>w'.cell? ⟨W.heap.size,0,none⟩=some (.pointer (some ⟨sb,0,none⟩))∧w'.cell? ⟨sb,7,none⟩=some (.slice (some ⟨scb,0,none⟩) N N)∧w'.cell? ⟨g2,0,none⟩=some (.int .i64 k0)∧w'.cell? ⟨scb,cn * 5,none⟩=some (.int .i64 x.kind)∧w'.cell? ⟨scb,cn * 5+1,none⟩=some (.int .i64 x.size)∧w'.cell? ⟨scb,cn * 5+2,none⟩=some (.int .i64 x.count)∧w'.cell? ⟨scb,cn * 5+3,none⟩=some (.slice A3 n3 c3)∧w'.cell? ⟨scb,cn * 5+4,none⟩=some (.slice B3 m3 e3)) HS0.out (fun hSg6q0=>?_);refine rgT6 0 1 2 3 4 5 ?_;refine rgT2 6 7 ?_;refine wpAnyH_ready (rs:=[8,11]) (by kernel_rfl) (by simp) ?_;refine(AllReadyH.consL rfl (fun K hK=>?g6qb8x9) (AllReadyH.consL rfl (fun K hK=>?g6qb11x9) AllReadyH.nil))
    case' g6qb8x9=>
     go_simp;go_at_call 50;refine(HCO.out _ _ HFW.out.now).mono ?_;rintro e w7 ⟨rfl,P7,hn7,hc7⟩;have HFW:=hid (HFW.out.pb HS.out HNP0.out hn7 hc7);have HCW:=hid (HCW.out.trans hc7)
     try have HAB:=hid (HAB.out.chg hc7 (fun e=>by have h1:aB=D.pb:=e;have:=HAG.out;have:=HPW.out;have:=H5S.out;omega))
     clear hn7 hc7;refine rgK hK (HSK.out _ _ HFW.out.now HCW.out) (fun hSg6q1=>?_);clear hK K;refine rgT2 9 10 ?_;refine wpAnyH_ready (rs:=[11]) (by kernel_rfl) (by simp) ?_;refine(AllReadyH.consL rfl (fun K hK=>?g6qb11x12) AllReadyH.nil)
     case' g6qb11x12=>
      go_simp
      first|have hN:=newT (Ext.refl w7)|have hN:=newT (Ext.refl w5.drew)
      obtain⟨wP,aB,hA1,hsz,hE,hge,hab,hss⟩:=hN;refine Eq.mpr (congrArg (K _) hA1) ?_
      first|rw[hsz]|(have hq:w5.heap.size=aB:=hsz;rw[hq];clear hq)|skip
      have HAG:Hid (w5.heap.size≤aB):=hid (by have h2:=HCW.out.size;have h5:w5.drew.heap.size=w5.heap.size:=rfl;omega);have HAB:=hid hab;have HFW:=hid (HFW.out.ext hE);have HCW:=hid (HCW.out.ext hE);clear hA1 hsz hE hge hab hss;refine rgK hK (HSK.out _ _ HFW.out.now HCW.out) (fun hSg6q2=>?_);clear hK K;refine wpAnyH_done (by kernel_rfl) ?_ _;change wpList _ _ _ _ _ _;obtain⟨W8,hW8,hB8,hH8,hS8,hX8⟩:=box5_set HAB.out (.int .i64 x.kind) (.int .i64 x.size) (.int .i64 x.count) (.slice A3 n3 c3) (.slice B3 m3 e3);have hch:=set5_chg' hW8;have HW8:=hid hW8;have HB8:=hid hB8;have HH8:=hid (HFW.out.far HS.out hch (fun b hb=>⟨by have:=HAG.out;have:=HW.out.1;have:=H5S.out;omega,fun k=>by have:=HAG.out;have:=HW.out.2 b k;have:=H5S.out;omega⟩));have HC8:=hid (HCW.out.trans' hch (fun b hb=> .inr (by have:=HAG.out;omega)));obtain⟨z0,z1,z2,z3,z4,zf⟩:=HAB.out;have f0:=zf 0;have f1:=zf 1;have f2:=zf 2;have f3:=zf 3;have f4:=zf 4;clear hW8 hB8 hH8 hS8 hX8 zf hch
      go_wp2
      rw[HW8.out];go_meet;exact⟨aB,_,rfl,HB8,HH8,HC8,HAG⟩
    case' g6qb11x9=>
     go_simp
     first|have hN:=newT (Ext.refl w7)|have hN:=newT (Ext.refl w5.drew)
     obtain⟨wP,aB,hA1,hsz,hE,hge,hab,hss⟩:=hN;refine Eq.mpr (congrArg (K _) hA1) ?_
     first|rw[hsz]|(have hq:w5.heap.size=aB:=hsz;rw[hq];clear hq)|skip
     have HAG:Hid (w5.heap.size≤aB):=hid (by have h2:=HCW.out.size;have h5:w5.drew.heap.size=w5.heap.size:=rfl;omega);have HAB:=hid hab;have HFW:=hid (HFW.out.ext hE);have HCW:=hid (HCW.out.ext hE);clear hA1 hsz hE hge hab hss;refine rgK hK (HSK.out _ _ HFW.out.now HCW.out) (fun hSg6q1=>?_);clear hK K;refine wpAnyH_ready (rs:=[8]) (by kernel_rfl) (by simp) ?_;refine(AllReadyH.consL rfl (fun K hK=>?g6qb8x13) AllReadyH.nil)
     case' g6qb8x13=>
      go_simp;go_at_call 50;refine(HCO.out _ _ HFW.out.now).mono ?_;rintro e w7 ⟨rfl,P7,hn7,hc7⟩;have HFW:=hid (HFW.out.pb HS.out HNP0.out hn7 hc7);have HCW:=hid (HCW.out.trans hc7)
      try have HAB:=hid (HAB.out.chg hc7 (fun e=>by have h1:aB=D.pb:=e;have:=HAG.out;have:=HPW.out;have:=H5S.out;omega))
      clear hn7 hc7;refine rgK hK (HSK.out _ _ HFW.out.now HCW.out) (fun hSg6q2=>?_);clear hK K;refine rgT2 9 10 ?_;refine wpAnyH_done (by kernel_rfl) ?_ _;change wpList _ _ _ _ _ _;obtain⟨W8,hW8,hB8,hH8,hS8,hX8⟩:=box5_set HAB.out (.int .i64 x.kind) (.int .i64 x.size) (.int .i64 x.count) (.slice A3 n3 c3) (.slice B3 m3 e3);have hch:=set5_chg' hW8;have HW8:=hid hW8;have HB8:=hid hB8;have HH8:=hid (HFW.out.far HS.out hch (fun b hb=>⟨by have:=HAG.out;have:=HW.out.1;have:=H5S.out;omega,fun k=>by have:=HAG.out;have:=HW.out.2 b k;have:=H5S.out;omega⟩));have HC8:=hid (HCW.out.trans' hch (fun b hb=> .inr (by have:=HAG.out;omega)));obtain⟨z0,z1,z2,z3,z4,zf⟩:=HAB.out;have f0:=zf 0;have f1:=zf 1;have f2:=zf 2;have f3:=zf 3;have f4:=zf 4;clear hW8 hB8 hH8 hS8 hX8 zf hch
      go_wp2
      rw[HW8.out];go_meet;exact⟨aB,_,rfl,HB8,HH8,HC8,HAG⟩
end
end Go.Proofs.YtlmipgdnlfjpaaaGreat
