/- Merged by program from texts of my own. -/
import Derived.Test.YtlmipgdnlfjpaaaGreatRows
import Derived.Test.YtlmipgdnlfjpaaaGreatBasm
import Derived.Test.YtlmipgdnlfjpaaaGreatTymm
import Derived.Test.YtlmipgdnlfjpaaaGreatReg
import Derived.BigQuiet
import Derived.IntWalk
namespace Go.Proofs.YtlmipgdnlfjpaaaGreat
open Go.RowKit Go.Deco
set_option linter.unusedSimpArgs false
set_option linter.unusedVariables false
def TBool (w:World)(b:Bool)(e:Ending)(w':World):Prop:=e= .returned (.bool b)∧Ext w w'
def TInt (w:World)(n:Int)(e:Ending)(w':World):Prop:=e= .returned (.int .i64 n)∧Ext w w'
theorem allT_step {E:Type}{p:E→Bool}{l:List E}{k:Nat}{s:E}(hk:l[k]? =some s)(hp:p s=true)(h:(l.take k).all p=true):(l.take (k+1)).all p=true:=by
 rw[take_snoc' hk,List.all_append,h];simp[hp]
theorem allT_hit {E:Type}{p:E→Bool}{l:List E}{k:Nat}{s:E}(hk:l[k]? =some s)(hp:p s=false):l.all p=false:=by
 rw[Bool.eq_false_iff];intro h;rw[List.all_eq_true]at h;have:=h s (List.mem_of_getElem? hk);rw[hp]at this;cases this
set_option maxRecDepth 100000 in
set_option maxHeartbeats 4000000 in
theorem shallow_any:∀(d:Nat) (w:World) (t:Ty) (v:Value) (n:Nat),TyV d w All v t→n≤64→Calls Tryz.prog 73 #[v,.int .i64 n] w (TBool w (shalT t n)):=by
 intro d
 induction d using Nat.strongRecOn with
 | _ d ih=>
  intro w t v n hv hn;obtain⟨A,na,ca,B,nb,cb,rfl,hE,hF,hk,hs,hc⟩:=hv;have hla:=hE.len;have hlb:=hF.len;obtain⟨hac,ham⟩:=hE.cap;obtain⟨hbc,hbm⟩:=hF.cap;obtain⟨z,hz⟩:∃z,shalT t n=z:=⟨_,rfl⟩;rw[hz];rw[shalT_eq]at hz;obtain⟨tk,ts,tc,te,tf⟩:=t;simp only[Ty.kind,Ty.size,Ty.count,Ty.elem,Ty.fields]at hz hE hF hla hlb ⊢;obtain⟨W0,hW0⟩:∃W0,w.alloc (.cells #[.int .i64 tk,.int .i64 ts,.int .i64 tc,.slice A na ca,.slice B nb cb] 42)=W0:=⟨_,rfl⟩;have hE0:Ext w W0:=by rw[←hW0];exact(Ext.refl w).alloc _
  have o3:W0.cell? ⟨w.heap.size,3,none⟩=some (.slice A na ca):=by rw[←hW0];simp[go_sem]
  have o4:W0.cell? ⟨w.heap.size,4,none⟩=some (.slice B nb cb):=by rw[←hW0];simp[go_sem]
  have HZ:=hid hz;have HE:=hid hE;have HF:=hid hF;have HLA:=hid hla;have HLB:=hid hlb;have HE0:=hid hE0;have HIH:=hid ih;clear hz hE hF hla hlb hE0 ih hk hs hc;by_cases h0:n=0
  ·subst h0;obtain rfl:z=false:=HZ.out.symm;go_enter Tryz.func73,Tryz.ntmps73
   go_wp2
   go_ret;exact⟨rfl,HE0.out⟩
  ·obtain⟨n',hn'⟩:∃n',n - 1=n':=⟨_,rfl⟩;have hn64:n'≤64:=by omega
   have w1:IntKind.i64.wrap ((n:Int) - 1)=(n':Int):=by rw[IntWalk.i64_in _ (by omega)];omega
   have HZ2:Hid ((te.all (fun x=>shalT x n') && tf.all (fun f=>shalT f.2 n'))=z):=hid (by
    have h:=HZ.out;rw[decide_eq_true (by omega),Bool.true_and]at h;have e:(n:Int) - 1=n':=by omega
    rw[e]at h;exact h)
   have h01:1≤n:=by omega
   clear HZ hn' h0;go_enter Tryz.func73,Tryz.ntmps73
   go_wp2
   go_loopw [14] (fun i wr=>∃k:Nat,k≤na∧i= .int .i64 k∧Hid (Ext W0 wr)∧Hid ((te.take k).all (fun x=>shalT x n')=true)) (fun i _=>na - (intOf i).toNat)
   case atStart=>exact⟨0,by omega,rfl,hid (Ext.refl _),hid rfl⟩
   case round=>
    obtain⟨k,hk,rfl,HX,HA⟩:=hrel;by_cases h1:k<na
    ·obtain⟨x,hx⟩:∃x,te[k]? =some x:=⟨_,List.getElem?_eq_getElem (by have:=HLA.out;omega)⟩;obtain⟨d',b,off,A1,n1,c1,B1,m1,e1,hd,rfl,hv1,c0,c1',c2,c3,c4⟩:=(HE.out.ext (HE0.out.trans HX.out)).ty_at hx;have HC:=hid (fun w' (hw:Ext wr w')=>HIH.out d' (by omega) w' x _ n' (hv1.ext hw) (by omega));have HXX:=hid hx;clear hd hv1 hx;obtain⟨r,hr⟩:∃r,shalT x n'=r:=⟨_,rfl⟩;rw[hr]at HC;have HR:=hid hr;clear hr
     go_wp2_with fail
     refine(HC.out _ ((Ext.refl _).alloc _)).mono ?_;rintro e w5 ⟨rfl,hx5⟩;have HX5:=hid ((HX.out.alloc _).trans hx5);clear hx5
     cases r with
     |true=>
      go_wp2
      go_roundw
      case rel=>exact⟨k+1,by omega,by go_num,HX5,hid (allT_step HXX.out HR.out HA.out)⟩
      case measure=>simp [intOf];omega
     |false=>
      go_wp2
      go_ret;refine⟨ret_bool ?_,HE0.out.trans HX5.out⟩;rw[←HZ2.out,allT_hit HXX.out HR.out,Bool.false_and]
    ·obtain rfl:k=na:=by omega
     have HA2:Hid (te.all (fun x=>shalT x n')=true):=hid (by have h:=HA.out;rwa [List.take_of_length_le (by have:=HLA.out;omega)]at h);have o4':=HX.out.cell o4;clear HA
     go_wp2
     clear o4'
     go_loopw [27] (fun i wr=>∃k:Nat,k≤nb∧i= .int .i64 k∧Hid (Ext W0 wr)∧Hid ((tf.take k).all (fun f=>shalT f.2 n')=true)) (fun i _=>nb - (intOf i).toNat)
     case atStart=>exact⟨0,by omega,rfl,HX,hid rfl⟩
     case round=>
      obtain⟨j,hj,rfl,HX2,HB⟩:=hrel;by_cases h2:j<nb
      ·obtain⟨x,hx⟩:∃x,tf[j]? =some x:=⟨_,List.getElem?_eq_getElem (by have:=HLB.out;omega)⟩;obtain⟨d',b,off,A1,n1,c1,B1,m1,e1,hd,rfl,hv1, -,c0,c1',c2,c3,c4,c5⟩:=(HF.out.ext (HE0.out.trans HX2.out)).fd_at hx;have HC:=hid (fun w' (hw:Ext wr w')=>HIH.out d' (by omega) w' x.2 _ n' (hv1.ext hw) (by omega));have HXX:=hid hx;clear hd hv1 hx;obtain⟨r,hr⟩:∃r,shalT x.2 n'=r:=⟨_,rfl⟩;rw[hr]at HC;have HR:=hid hr;clear hr
       go_wp2_with fail
       refine(HC.out _ ((Ext.refl _).alloc _)).mono ?_;rintro e w5 ⟨rfl,hx5⟩;have HX5:=hid ((HX2.out.alloc _).trans hx5);clear hx5
       cases r with
       |true=>
        go_wp2
        go_roundw
        case rel=>exact⟨j+1,by omega,by go_num,HX5,hid (allT_step HXX.out HR.out HB.out)⟩
        case measure=>simp [intOf];omega
       |false=>
        go_wp2
        go_ret;refine⟨ret_bool ?_,HE0.out.trans HX5.out⟩;rw[←HZ2.out,allT_hit (p:=fun f:Int×Ty=>shalT f.2 n') HXX.out HR.out,Bool.and_false]
      ·obtain rfl:j=nb:=by omega
       go_wp2
       go_ret;refine⟨ret_bool ?_,HE0.out.trans HX2.out⟩;have h:=HB.out;rw[List.take_of_length_le (by have:=HLB.out;omega)]at h;rw[←HZ2.out,HA2.out,h];rfl
end Go.Proofs.YtlmipgdnlfjpaaaGreat
