/- Lemmas of mine, merged. -/
import Derived.Test.YtlmipgdnlfjpaaaGreatRows
import Derived.Test.YtlmipgdnlfjpaaaGreatBasm
import Derived.Test.YtlmipgdnlfjpaaaGreatTymm
import Derived.Test.YtlmipgdnlfjpaaaGreatReg
import Derived.BigQuiet
import Derived.IntWalk
set_option linter.unusedSimpArgs false
set_option linter.unusedVariables false
namespace Go.Proofs.YtlmipgdnlfjpaaaGreat
open Go.RowKit Go.Deco
def ZX (w:World)(b:Bool)(e:Ending)(w':World):Prop:=e= .returned (.bool b)/\Ext w w'
def gQ (w:World)(n:Int)(e:Ending)(w':World):Prop:=e= .returned (.int .i64 n)/\Ext w w'
theorem Yb {E:Type}{p:E->Bool}{l:List E}{k:Nat}{s:E}(hk:l[k]? =some s)(hp:p s=true)(h:(l.take k).all p=true):(l.take (k+1)).all p=true:=by
 rw[VC hk,List.all_append,h];simp[hp]
theorem Yd {E:Type}{p:E->Bool}{l:List E}{k:Nat}{s:E}(hk:l[k]? =some s)(hp:p s=false):l.all p=false:=by
 rw[Bool.eq_false_iff];intro h;rw[List.all_eq_true]at h;have:=h s (Qx hk);rw[hp]at this;cases this
set_option maxRecDepth 100000 in
set_option maxHeartbeats 4000000 in
theorem tZ:∀(d:Nat) (w:World) (t:Ty) (v:Value) (n:Nat),TyV d w All v t->n<=64->Calls Tryz.prog 73 #[v,.int .i64 n] w (ZX w (Q0 t n)):=by
 intro d
 induction d using Nat.strongRecOn with
 | _ d ih=>
  intro w t v n hv hn;obtain⟨A,na,ca,B,nb,cb,rfl,hE,hF,hk,hs,hc⟩:=hv;have hla:=hE.len;have hlb:=hF.len;obtain⟨hac,ham⟩:=hE.cap;obtain⟨hbc,hbm⟩:=hF.cap;obtain⟨z,hz⟩:=Qg (Q0 t n);rw[hz];rw[j9]at hz;obtain⟨tk,ts,tc,te,tf⟩:=t;simp only[Ty.kind,Ty.size,Ty.count,Ty.elem,Ty.fields]at hz hE hF hla hlb ⊢;obtain⟨W0,hW0⟩:=Qg (w.alloc (.cells #[.int .i64 tk,.int .i64 ts,.int .i64 tc,.slice A na ca,.slice B nb cb] 42));have hE0:Ext w W0:=by rw[<-hW0];exact(Ext.refl w).alloc _
  have o3:W0.cell? ⟨w.heap.size,3,none⟩=some (.slice A na ca):=by rw[<-hW0];simp[go_sem]
  have o4:W0.cell? ⟨w.heap.size,4,none⟩=some (.slice B nb cb):=by rw[<-hW0];simp[go_sem]
  have HZ:=hid hz;have HE:=hid hE;have HF:=hid hF;have HLA:=hid hla;have HLB:=hid hlb;have HE0:=hid hE0;have HIH:=hid ih;clear hz hE hF hla hlb hE0 ih hk hs hc;by_cases h0:n=0
  ·subst h0;obtain rfl:z=false:=HZ.o.symm;go_enter Tryz.func73,Tryz.ntmps73
   go_wp2
   go_ret;exact⟨rfl,HE0.o⟩
  ·obtain⟨n',hn'⟩:∃n',n - 1=n':=⟨_,rfl⟩;have hn64:n'<=64:=by omega
   have w1:IntKind.i64.wrap ((n:Int) - 1)=(n':Int):=by rw[IntWalk.i64_in _ (by omega)];omega
   have HZ2:Hid ((te.all (fun x=>Q0 x n') && tf.all (fun f=>Q0 f.2 n'))=z):=hid (by
    have h:=HZ.o;rw[Qv (by omega),Bool.true_and]at h;have e:(n:Int) - 1=n':=by omega
    rw[e]at h;exact h)
   have h01:1<=n:=by omega
   clear HZ hn' h0;go_enter Tryz.func73,Tryz.ntmps73
   go_wp2
   go_loopw [14] (fun i wr=>∃k:Nat,k<=na/\i= .int .i64 k/\Hid (Ext W0 wr)/\Hid ((te.take k).all (fun x=>Q0 x n')=true)) (fun i _=>na - (intOf i).toNat)
   case atStart=>exact⟨0,by omega,rfl,hid (Ext.refl _),hid rfl⟩
   case round=>
    obtain⟨k,hk,rfl,HX,HA⟩:=hrel;by_cases h1:k<na
    ·obtain⟨x,hx⟩:∃x,te[k]? =some x:=⟨_,Qq (by have:=HLA.o;omega)⟩;obtain⟨d',b,off,A1,n1,c1,B1,m1,e1,hd,rfl,hv1,c0,c1',c2,c3,c4⟩:=(HE.o.ext (HE0.o.trans HX.o)).ty_at hx;have HC:=hid (fun w' (hw:Ext wr w')=>HIH.o d' (by omega) w' x _ n' (hv1.ext hw) (by omega));have HXX:=hid hx;clear hd hv1 hx;obtain⟨r,hr⟩:=Qg (Q0 x n');rw[hr]at HC;have HR:=hid hr;clear hr
     go_wp2_with fail
     refine(HC.o _ ((Ext.refl _).alloc _)).mono ?_;rintro e w5 ⟨rfl,hx5⟩;have HX5:=hid ((HX.o.alloc _).trans hx5);clear hx5
     cases r with
     |true=>
      go_wp2
      go_roundw
      case rel=>exact⟨k+1,by omega,by go_num,HX5,hid (Yb HXX.o HR.o HA.o)⟩
      case measure=>simp [intOf];omega
     |false=>
      go_wp2
      go_ret;refine⟨XP ?_,HE0.o.trans HX5.o⟩;rw[<-HZ2.o,Yd HXX.o HR.o,Bool.false_and]
    ·obtain rfl:k=na:=by omega
     have HA2:Hid (te.all (fun x=>Q0 x n')=true):=hid (by have h:=HA.o;rwa [Qj (by have:=HLA.o;omega)]at h);have o4':=HX.o.c o4;clear HA
     go_wp2
     clear o4'
     go_loopw [27] (fun i wr=>∃k:Nat,k<=nb/\i= .int .i64 k/\Hid (Ext W0 wr)/\Hid ((tf.take k).all (fun f=>Q0 f.2 n')=true)) (fun i _=>nb - (intOf i).toNat)
     case atStart=>exact⟨0,by omega,rfl,HX,hid rfl⟩
     case round=>
      obtain⟨j,hj,rfl,HX2,HB⟩:=hrel;by_cases h2:j<nb
      ·obtain⟨x,hx⟩:∃x,tf[j]? =some x:=⟨_,Qq (by have:=HLB.o;omega)⟩;obtain⟨d',b,off,A1,n1,c1,B1,m1,e1,hd,rfl,hv1, -,c0,c1',c2,c3,c4,c5⟩:=(HF.o.ext (HE0.o.trans HX2.o)).fd_at hx;have HC:=hid (fun w' (hw:Ext wr w')=>HIH.o d' (by omega) w' x.2 _ n' (hv1.ext hw) (by omega));have HXX:=hid hx;clear hd hv1 hx;obtain⟨r,hr⟩:=Qg (Q0 x.2 n');rw[hr]at HC;have HR:=hid hr;clear hr
       go_wp2_with fail
       refine(HC.o _ ((Ext.refl _).alloc _)).mono ?_;rintro e w5 ⟨rfl,hx5⟩;have HX5:=hid ((HX2.o.alloc _).trans hx5);clear hx5
       cases r with
       |true=>
        go_wp2
        go_roundw
        case rel=>exact⟨j+1,by omega,by go_num,HX5,hid (Yb HXX.o HR.o HB.o)⟩
        case measure=>simp [intOf];omega
       |false=>
        go_wp2
        go_ret;refine⟨XP ?_,HE0.o.trans HX5.o⟩;rw[<-HZ2.o,Yd (p:=fun f:Int×Ty=>Q0 f.2 n') HXX.o HR.o,Bool.and_false]
      ·obtain rfl:j=nb:=by omega
       go_wp2
       go_ret;refine⟨XP ?_,HE0.o.trans HX2.o⟩;have h:=HB.o;rw[Qj (by have:=HLB.o;omega)]at h;rw[<-HZ2.o,HA2.o,h];rfl
end Go.Proofs.YtlmipgdnlfjpaaaGreat
