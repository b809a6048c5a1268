/- Lemmas of mine, merged. -/
import Derived.Test.YtlmipgdnlfjpaaaGreatTyBm
import Derived.Deep.CutBlock
set_option maxRecDepth 100000
set_option maxHeartbeats 8000000
set_option linter.unusedSimpArgs false
set_option linter.unusedVariables false
namespace Go.Proofs.YtlmipgdnlfjpaaaGreat
open Go.RowKit Go.Deco
def KQ (k s c:Int):Option (Nat×Bool×Int×Int):=
 if k=0\/k=6\/k=5 then some (0,decide (k=5),0,0)
 else if k=1\/k=2 then (if s=1\/s=2\/s=4 then some (0,false,s,0) else none)
 else if k=3 then some (1,false,0,0)
 else if k=4 then (if 1<=c/\c<=65536 then some (1,false,0,c) else none)
 else none
def rW (t:Ty):Option (Nat×Bool×Int×Int):=KQ t.kind t.size t.count
theorem GD {k s c:Int}{el:Nat}{fl:Bool}{ps pc:Int}(h:KQ k s c=some (el,fl,ps,pc)):(k == 5)=fl:=by
 have hb:(k == 5)=decide (k=5):=by rw[Bool.eq_iff_iff];simp
 rw[hb];unfold KQ at h
 repeat' (split at h)
 all_goals first
  |(injection h with h;simp only[Prod.mk.injEq]at h;rw[<-h.2.1];done)
  |(injection h with h;simp only[Prod.mk.injEq]at h;rw[<-h.2.1];exact Qw (by omega))
  |cases h
theorem ak {t:Ty}(h:rW t=none):Qd t=false:=by
 obtain⟨k,s,c,e,f⟩:=t;change KQ k s c=none at h;unfold KQ at h;rw[Qd]
 split at h
 ·cases h
 ·rename_i h1
  rw[if_neg (by omega)]
  split at h
  ·rename_i h2
   rw[if_pos h2]
   split at h
   ·cases h
   ·rename_i h3
    rw[Qw h3];rfl
  ·rename_i h2
   rw[if_neg h2]
   split at h
   ·cases h
   ·rename_i h3
    rw[if_neg h3]
    split at h
    ·rename_i h4
     rw[if_pos h4]
     split at h
     ·cases h
     ·rename_i h5
      by_cases h6:1<=c
      ·rw[Qw (show ¬c<=65536 by omega)];simp
      ·rw[Qw h6];simp
    ·rename_i h4
     rw[if_neg h4,if_neg (by omega)]
theorem aj {k s c:Int}{e:List Ty}{f:List (Int×Ty)}{el:Nat}{fl:Bool}{ps pc:Int}(h:KQ k s c=some (el,fl,ps,pc)):
  Qd (.mk k s c e f)=(decide (s=ps) && decide (c=pc) && decide (e.length=el) && (fl || decide (f.length=0)) && Zk (-1) f && e.all Qd)/\(el=0\/el=1):=by
 unfold KQ at h;have hemp:∀{α:Type} (l:List α),l.isEmpty=decide (l.length=0):=fun l=>by cases l <;> simp
 have hff:decide (f.length=0)=true->Zk (-1) f=true:=fun h=>by
  have:f=[]:=List.length_eq_zero_iff.1 (by simpa using h);subst this;rfl
 have hee:decide (e.length=0)=true->e.all Qd=true:=fun h=>by
  have:e=[]:=List.length_eq_zero_iff.1 (by simpa using h);subst this;rfl
 have he1:Xd e=(decide (e.length=1) && e.all Qd):=by
  match e with
  |[]=>rfl
  |[x]=>simp [Xd]
  |x :: y :: l=>simp [Xd]
 rw[Qd]
 split at h
 ·rename_i h1
  injection h with h
  simp only[Prod.mk.injEq]at h;obtain⟨rfl,rfl,rfl,rfl⟩:=h;refine⟨?_,.inl rfl⟩;by_cases h5:k=5
  ·subst h5;rw[if_neg (by omega),if_neg (by omega),if_neg (by omega),if_neg (by omega),if_pos rfl,hemp e]
   revert hff hee
   generalize decide (f.length=0)=b1;generalize decide (e.length=0)=b2;generalize Zk (-1) f=b3;generalize e.all Qd=b4;generalize decide (e.length=1)=b5;cases b1 <;> cases b2 <;> cases b3 <;> cases b4 <;> cases b5 <;> simp
  ·rw[if_pos (by omega),hemp e,hemp f,Qw h5]
   revert hff hee
   generalize decide (f.length=0)=b1;generalize decide (e.length=0)=b2;generalize Zk (-1) f=b3;generalize e.all Qd=b4;generalize decide (e.length=1)=b5;cases b1 <;> cases b2 <;> cases b3 <;> cases b4 <;> cases b5 <;> simp
 ·rename_i h1
  rw[if_neg (by omega)]
  split at h
  ·rename_i h2
   rw[if_pos h2]
   split at h
   ·rename_i h3
    injection h with h
    simp only[Prod.mk.injEq]at h;obtain⟨rfl,rfl,rfl,rfl⟩:=h;refine⟨?_,.inl rfl⟩;rw[hemp e,hemp f,Qv h3]
    revert hff hee
    generalize decide (f.length=0)=b1;generalize decide (e.length=0)=b2;generalize Zk (-1) f=b3;generalize e.all Qd=b4;generalize decide (e.length=1)=b5;cases b1 <;> cases b2 <;> cases b3 <;> cases b4 <;> cases b5 <;> simp
   ·cases h
  ·rename_i h2
   rw[if_neg h2]
   split at h
   ·rename_i h3
    injection h with h
    simp only[Prod.mk.injEq]at h;obtain⟨rfl,rfl,rfl,rfl⟩:=h;refine⟨?_,.inr rfl⟩;rw[if_pos h3,hemp f,he1]
    revert hff hee
    generalize decide (f.length=0)=b1;generalize decide (e.length=0)=b2;generalize Zk (-1) f=b3;generalize e.all Qd=b4;generalize decide (e.length=1)=b5;cases b1 <;> cases b2 <;> cases b3 <;> cases b4 <;> cases b5 <;> simp
   ·rename_i h3
    rw[if_neg h3]
    split at h
    ·rename_i h4
     rw[if_pos h4]
     split at h
     ·rename_i h5
      injection h with h
      simp only[Prod.mk.injEq]at h;obtain⟨rfl,rfl,rfl,rfl⟩:=h;refine⟨?_,.inr rfl⟩;rw[hemp f,he1,Qv h5.1,Qv h5.2]
      revert hff hee
      generalize decide (f.length=0)=b1;generalize decide (e.length=0)=b2;generalize Zk (-1) f=b3;generalize e.all Qd=b4;generalize decide (e.length=1)=b5;cases b1 <;> cases b2 <;> cases b3 <;> cases b4 <;> cases b5 <;> simp
     ·cases h
    ·cases h
def okF (l:List (Int×Ty))(k:Nat):Bool:=match l[k]? with
 |none=>true
 |some f=>decide (0<=f.1) && decide (f.1<65536) && (match k with|0=>true|j+1=>(match l[j]? with|none=>true|some g=>decide (g.1<f.1))) && Qd f.2
theorem vM:∀(l r:List (Int×Ty)) (p:Int),Zk p (l ++ r)=(Zk p l && Zk ((l.getLast?.map Prod.fst).getD p) r)
 |[],r,p=>by simp[Zk]
 | (o,t) :: l,r,p=>by
  rw[List.cons_append,Zk,Zk,vM l r o]
  have:(((o,t) :: l).getLast?.map Prod.fst).getD p=(l.getLast?.map Prod.fst).getD o:=by
   cases l with
   |nil=>rfl
   |cons x l=>
    rw[List.getLast?_cons_cons];obtain⟨y,hy⟩:∃y,(x :: l).getLast? =some y:=⟨_,List.getLast?_eq_some_getLast (by simp)⟩;rw[hy];rfl
  rw[this];simp[Bool.and_assoc]
theorem wJ (l:List (Int×Ty))(k:Nat)(f:Int×Ty)(hk:l[k]? =some f)(h:Zk (-1) (l.take k)=true):Zk (-1) (l.take (k+1))=okF l k:=by
 rw[VC hk,vM,h,Bool.true_and];unfold okF;rw[hk];obtain⟨o,t⟩:=f
 cases k with
 | zero=>
  simp[Zk];by_cases h0:0<=o
  ·have: -1<o:=by omega
   simp[h0,this]
  ·have:¬ -1<o:=by omega
   simp[h0,this]
 | succ j=>
  have hlt:=(Qz hk).1;obtain⟨g,hg⟩:∃g,l[j]? =some g:=⟨_,Qq (by omega)⟩;have hlast:(l.take (j+1)).getLast? =some g:=by rw[VC hg];simp
  have hgm:0<=g.1:=by
   have:=XF h g (List.mem_of_getLast? hlast);omega
  rw[hlast];simp only[hg];simp[Zk];by_cases h1:g.1<o
  ·have:0<=o:=by omega
   simp[h1,this]
  ·simp[h1]
theorem zF {l:List (Int×Ty)}{k:Nat}{f:Int×Ty}(hk:l[k]? =some f)(h:Zk (-1) (l.take k)=true)(ho:okF l k=false):Zk (-1) l=false:=by
 have e:=vM (l.take (k+1)) (l.drop (k+1)) (-1);rw[List.take_append_drop,wJ l k f hk h,ho,Bool.false_and]at e;exact e
theorem qw {l:List (Int×Ty)}{k:Nat}{f:Int×Ty}(hk:l[k]? =some f)(h:f.1<0\/65536<=f.1\/(∃j g,k=j+1/\l[j]? =some g/\f.1<=g.1)\/Qd f.2=false):okF l k=false:=by
 unfold okF;rw[hk];rcases h with h|h|⟨j,g,rfl,hg,h⟩|h
 ·simp[show ¬0<=f.1 by omega]
 ·simp[show ¬f.1<65536 by omega]
 ·simp[hg,show ¬g.1<f.1 by omega]
 ·simp[h]
theorem j8 {l:List (Int×Ty)}{k:Nat}{f:Int×Ty}(hk:l[k]? =some f)(h0:0<=f.1)(h1:f.1<65536)(h2:k=0\/∃j g,k=j+1/\l[j]? =some g/\g.1<f.1):okF l k=Qd f.2:=by
 unfold okF;rw[hk];rcases h2 with rfl|⟨j,g,rfl,hg,h⟩
 ·simp[h0,h1]
 ·simp[hg,h0,h1,h]
theorem ly:∀(d:Nat) (w:World) (t:Ty) (v:Value),TyV d w All v t->Calls Tryz.prog 74 #[v] w (ZX w (Qd t)):=by
 intro d
 induction d using Nat.strongRecOn with
 | _ d ih =>
  intro w t v hv;obtain⟨A,na,ca,B,nb,cb,rfl,hE,hF,hk,hs,hc⟩:=hv;have hla:=hE.len;have hlb:=hF.len;obtain⟨hac,ham⟩:=hE.cap;obtain⟨hbc,hbm⟩:=hF.cap;obtain⟨z,hz⟩:=Qg (Qd t);rw[hz];obtain⟨W0,hW0⟩:=Qg (w.alloc (.cells #[.int .i64 t.kind,.int .i64 t.size,.int .i64 t.count,.slice A na ca,.slice B nb cb] 42));have hE0:Ext w W0:=by rw[<-hW0];exact(Ext.refl w).alloc _
  have hsz0:w.heap.size<W0.heap.size:=by rw[<-hW0];simp[go_sem]
  have hne:w.heap.size≠W0.heap.size:=by omega
  have hne':W0.heap.size≠w.heap.size:=by omega
  have o0:W0.cell? ⟨w.heap.size,0,none⟩=some (.int .i64 t.kind):=by rw[<-hW0];simp[go_sem]
  have o1:W0.cell? ⟨w.heap.size,1,none⟩=some (.int .i64 t.size):=by rw[<-hW0];simp[go_sem]
  have o2:W0.cell? ⟨w.heap.size,2,none⟩=some (.int .i64 t.count):=by rw[<-hW0];simp[go_sem]
  have o3:W0.cell? ⟨w.heap.size,3,none⟩=some (.slice A na ca):=by rw[<-hW0];simp[go_sem]
  have o4:W0.cell? ⟨w.heap.size,4,none⟩=some (.slice B nb cb):=by rw[<-hW0];simp[go_sem]
  have HE:=hid hE;have HF:=hid hF;have HLA:=hid hla;have HLB:=hid hlb;have HE0:=hid hE0;have HIH:=hid ih;have HZ:=hid hz;have HSZ:=hid hsz0;clear hE hF hla hlb hE0 ih hk hs hc hz hsz0;obtain⟨tk,ts,tc,te,tf⟩:=t;simp only[Ty.kind,Ty.size,Ty.count,Ty.elem,Ty.fields]at *;obtain⟨W1,hW1⟩:=Qg (W0.alloc (.cells #[.int .i64 tk,.int .i64 0,.int .i64 0,.slice none 0 0,.slice none 0 0] 42));have hE1:Ext W0 W1:=by rw[<-hW1];exact(Ext.refl W0).alloc _
  have p1:W1.cell? ⟨W0.heap.size,1,none⟩=some (.int .i64 0):=by rw[<-hW1];simp[go_sem]
  have p2:W1.cell? ⟨W0.heap.size,2,none⟩=some (.int .i64 0):=by rw[<-hW1];simp[go_sem]
  have f1:W1.frozen? ⟨W0.heap.size,1,none⟩=false:=by rw[<-hW1];simp[go_sem]
  have f2:W1.frozen? ⟨W0.heap.size,2,none⟩=false:=by rw[<-hW1];simp[go_sem]
  have q1:=o1;have q2:=o2;have q3:=o3;have q4:=o4;have o0:=hE1.cell o0;have o1:=hE1.cell o1;have o2:=hE1.cell o2;have o3:=hE1.cell o3;have o4:=hE1.cell o4;have HE1:=hid hE1;have HW1:=hid hW1;clear hE1 hW1;have HQ:Hid (W0.cell? ⟨w.heap.size,3,none⟩=some (.slice A na ca)/\W0.cell? ⟨w.heap.size,4,none⟩=some (.slice B nb cb)/\W0.cell? ⟨w.heap.size,1,none⟩=some (.int .i64 ts)/\W0.cell? ⟨w.heap.size,2,none⟩=some (.int .i64 tc)):=hid ⟨q3,q4,q1,q2⟩;clear q1 q2 q3 q4
  cases hh:rW (.mk tk ts tc te tf) with
  | none =>
   obtain rfl:z=false:=by rw[<-HZ.o];exact ak hh
   change KQ tk ts tc=none at hh;unfold KQ at hh;by_cases h1:tk=0\/tk=6\/tk=5
   ·rw[if_pos h1]at hh;cases hh
   ·rw [if_neg h1]at hh;by_cases h2:tk=1\/tk=2
    ·rw[if_pos h2]at hh;by_cases h3:ts=1\/ts=2\/ts=4
     ·rw[if_pos h3]at hh;cases hh
     ·clear hh h1;have n1:(ts != 1)=true:=by simp;omega
      have n2:(ts != 2)=true:=by simp;omega
      have n4:(ts != 4)=true:=by simp;omega
      clear h3;rcases h2 with rfl|rfl
      ·go_enter Tryz.func74,Tryz.ntmps74
       go_wp2_with fail
       rw[HW1.o];refine rgH (Ext.hc1 o0) (Ext.refl _).drew (fun hSg1q0=>?_);refine QB 0 1 2 3 ?_;refine rgT 4 ?_;refine wpAnyH_done (by kernel_rfl) ?_ _;clear hW0
       go_wp2
       go_ret;exact⟨rfl,by repeat (first|exact HE0.o.trans HE1.o|refine Ext.setCell ?_ (Nat.le_of_lt HSZ.o) _|refine Ext.drew ?_|refine Ext.alloc ?_ _)⟩
      ·go_enter Tryz.func74,Tryz.ntmps74
       go_wp2_with fail
       rw[HW1.o];refine rgH (Ext.hc1 o0) (Ext.refl _).drew (fun hSg2q0=>?_);refine QB 0 1 2 3 ?_;refine rgT 4 ?_;refine wpAnyH_done (by kernel_rfl) ?_ _;clear hW0
       go_wp2
       go_ret;exact⟨rfl,by repeat (first|exact HE0.o.trans HE1.o|refine Ext.setCell ?_ (Nat.le_of_lt HSZ.o) _|refine Ext.drew ?_|refine Ext.alloc ?_ _)⟩
    ·rw [if_neg h2]at hh;by_cases h3:tk=3
     ·rw[if_pos h3]at hh;cases hh
     ·rw [if_neg h3]at hh;by_cases h4:tk=4
      ·rw[if_pos h4]at hh;by_cases h5:1<=tc/\tc<=65536
       ·rw[if_pos h5]at hh;cases hh
       ·clear hh h1 h2 h3;subst h4;by_cases h6:tc<1
        ·go_enter Tryz.func74,Tryz.ntmps74
         go_wp2_with fail
         rw[HW1.o];refine rgH (Ext.hc1 o0) (Ext.refl _).drew (fun hSg3q0=>?_);refine QB 0 1 2 3 ?_;refine rgT 4 ?_;refine wpAnyH_done (by kernel_rfl) ?_ _;clear hW0
         go_wp2
         go_ret;exact⟨rfl,by repeat (first|exact HE0.o.trans HE1.o|refine Ext.setCell ?_ (Nat.le_of_lt HSZ.o) _|refine Ext.drew ?_|refine Ext.alloc ?_ _)⟩
        ·have h7:65536<tc:=by omega
         clear h5;go_enter Tryz.func74,Tryz.ntmps74
         go_wp2_with fail
         rw[HW1.o];refine rgH (Ext.hc1 o0) (Ext.refl _).drew (fun hSg4q0=>?_);refine QB 0 1 2 3 ?_;refine rgT 4 ?_;refine wpAnyH_done (by kernel_rfl) ?_ _;clear hW0
         go_wp2
         go_ret;exact⟨rfl,by repeat (first|exact HE0.o.trans HE1.o|refine Ext.setCell ?_ (Nat.le_of_lt HSZ.o) _|refine Ext.drew ?_|refine Ext.alloc ?_ _)⟩
      ·clear hh;have n0:(tk == 0)=false:=by simp;omega
       have n1:(tk == 1)=false:=by simp;omega
       have n2:(tk == 2)=false:=by simp;omega
       have n3:(tk == 3)=false:=by simp;omega
       have n4:(tk == 4)=false:=by simp;omega
       have n5:(tk == 5)=false:=by simp;omega
       have n6:(tk == 6)=false:=by simp;omega
       clear h1 h2 h3 h4;go_enter Tryz.func74,Tryz.ntmps74
       go_wp2_with fail
       rw[HW1.o];refine rgH (Ext.hc1 o0) (Ext.refl _).drew (fun hSg5q0=>?_);refine QB 0 1 2 3 ?_;refine rgT 4 ?_;refine wpAnyH_done (by kernel_rfl) ?_ _;clear hW0
       go_wp2
       go_ret;exact⟨rfl,by repeat (first|exact HE0.o.trans HE1.o|refine Ext.setCell ?_ (Nat.le_of_lt HSZ.o) _|refine Ext.drew ?_|refine Ext.alloc ?_ _)⟩
  | some r =>
   obtain⟨el,fl,ps,pc⟩:=r;change KQ tk ts tc=some (el,fl,ps,pc) at hh;obtain⟨hz2,hel⟩:=aj (e:=te) (f:=tf) hh;rw[HZ.o]at hz2;have hk5:(tk == 5)=fl:=GD hh;have HZ2:=hid hz2;have HHD:=hid hh;have HEL:=hid hel;clear HZ hz2 hh hel;go_enter Tryz.func74,Tryz.ntmps74
   go_wp2_with fail
   rw[HW1.o];refine rgH (Ext.hc1 o0) (Ext.refl _).drew (fun hSg6q0=>?_);refine QB 0 1 2 3 ?_;refine rgT 4 ?_;refine wpAnyH_done (by kernel_rfl) ?_ _;clear hW0;clear hk5
   go_upto_block 0 with fail
   go_cut [4] from 14 to 53 (fun s4 wx=>s4= .int .i64 el/\Hid (Ext W0 wx/\wx.cell? ⟨W0.heap.size,1,none⟩=some (.int .i64 ps)/\wx.cell? ⟨W0.heap.size,2,none⟩=some (.int .i64 pc)))
   case first=>
    have hh:=HHD.o;unfold KQ at hh;by_cases h1:tk=0\/tk=6\/tk=5
    ·rw[if_pos h1]at hh;injection hh with hh
     simp only[Prod.mk.injEq]at hh;obtain⟨rfl, -,rfl,rfl⟩:=hh;clear HHD HZ2 HEL;rcases h1 with rfl|rfl|rfl
     all_goals
      go_wp2
      go_meet;exact⟨rfl,hid ⟨HE1.o.drew,p1,p2⟩⟩
    ·rw [if_neg h1]at hh;by_cases h2:tk=1\/tk=2
     ·rw[if_pos h2]at hh;by_cases h3:ts=1\/ts=2\/ts=4
      ·rw[if_pos h3]at hh;injection hh with hh
       simp only[Prod.mk.injEq]at hh;obtain⟨rfl, -,rfl,rfl⟩:=hh;clear HHD HZ2 HEL h1;rcases h2 with rfl|rfl <;> rcases h3 with rfl|rfl|rfl
       all_goals
        go_wp2
        go_meet;exact⟨rfl,hid ⟨by repeat (first|exact HE1.o|refine Ext.setCell ?_ (Nat.le_refl _) _|refine Ext.drew ?_),by simp[go_sem,p1,p2],by simp[go_sem,p1,p2]⟩⟩
      ·rw[if_neg h3]at hh;cases hh
     ·rw [if_neg h2]at hh;by_cases h3:tk=3
      ·rw[if_pos h3]at hh;injection hh with hh
       simp only[Prod.mk.injEq]at hh;obtain⟨rfl, -,rfl,rfl⟩:=hh;clear HHD HZ2 HEL h1 h2;subst h3
       go_wp2
       go_meet;exact⟨rfl,hid ⟨HE1.o.drew,p1,p2⟩⟩
      ·rw[if_neg h3]at hh;by_cases h4:tk=4
       ·rw[if_pos h4]at hh;by_cases h5:1<=tc/\tc<=65536
        ·rw[if_pos h5]at hh;injection hh with hh
         simp only[Prod.mk.injEq]at hh;obtain⟨rfl, -,rfl,rfl⟩:=hh;obtain⟨h5,h6⟩:=h5;clear HHD HZ2 HEL h1 h2 h3;subst h4
         go_wp2
         go_meet;exact⟨rfl,hid ⟨by repeat (first|exact HE1.o|refine Ext.setCell ?_ (Nat.le_refl _) _|refine Ext.drew ?_),by simp[go_sem,p1,p2],by simp[go_sem,p1,p2]⟩⟩
        ·rw[if_neg h5]at hh;cases hh
       ·rw[if_neg h4]at hh;cases hh
   case rest=>
    obtain⟨rfl,HXP⟩:=hcut;clear o0 o1 o2 o3 o4 p1 p2 f1 f2 HHD;obtain⟨hx0,p1,p2⟩:=HXP.o;have o1:=hx0.cell HQ.o.2.2.1;have o2:=hx0.cell HQ.o.2.2.2;have o3:=hx0.cell HQ.o.1;have o4:=hx0.cell HQ.o.2.1;have HX0:=hid hx0;clear hx0 HXP HE1;by_cases c1:ts=ps
    case neg=>
     have n1:(ts != ps)=true:=by simp[c1]
     obtain rfl:z=false:=by rw[HZ2.o,Qw c1];rfl
     clear c1
     go_wp2
     go_ret;exact⟨rfl,HE0.o.trans HX0.o⟩
    by_cases c2:tc=pc
    case neg=>
     have n1:(ts != ps)=false:=by simp[c1]
     have n2:(tc != pc)=true:=by simp[c2]
     obtain rfl:z=false:=by rw[HZ2.o,Qw c2];simp
     clear c1 c2
     go_wp2
     go_ret;exact⟨rfl,HE0.o.trans HX0.o⟩
    by_cases c3:na=el
    case neg=>
     have n1:(ts != ps)=false:=by simp[c1]
     have n2:(tc != pc)=false:=by simp[c2]
     have n3:((na:Int) != (el:Int))=true:=by simp;omega
     obtain rfl:z=false:=by rw[HZ2.o,Qw (show ¬te.length=el from fun h=>c3 (by have:=HLA.o;omega))];simp
     clear c1 c2 c3
     go_wp2
     go_ret;exact⟨rfl,HE0.o.trans HX0.o⟩
    have n1:(ts != ps)=false:=by simp[c1]
    have n2:(tc != pc)=false:=by simp[c2]
    have n3:((na:Int) != (na:Int))=false:=by simp
    subst c3;by_cases c4:fl=false/\0<nb
    case pos=>
     obtain⟨rfl,c4⟩:=c4;have n4:(nb:Int) > 0:=by omega
     have n5:decide ((nb:Int) > 0)=true:=Qv n4;obtain rfl:z=false:=by rw[HZ2.o,Qw (show ¬tf.length=0 by have:=HLB.o;omega)];simp
     clear c1 c2
     go_wp2
     go_ret;exact⟨rfl,HE0.o.trans HX0.o⟩
    have HZ3:Hid ((Zk (-1) tf && te.all Qd)=z):=hid (by
     rw[HZ2.o,Qv c1,Qv c2,Qv (show te.length=na by have:=HLA.o;omega)]
     have h5:(fl || decide (tf.length=0))=true:=by
      cases fl with
      |true=>rfl
      |false=>
       have:¬0<nb:=fun h=>c4 ⟨rfl,h⟩;simp;have:=HLB.o;exact List.length_eq_zero_iff.1 (by omega)
     rw[h5];simp)
    have n6:fl=true\/nb=0:=by
     cases fl with
     |true=>exact .inl rfl
     |false=>exact .inr (by have:¬0<nb:=fun h=>c4 ⟨rfl,h⟩;omega)
    clear c1 c2 c4 HZ2;go_upto_region 20 with fail
    go_cut [82] from 54 to 82 (fun s82 wx'=>s82= .bool false/\wx'=wc)
    case first=>
     rcases n6 with rfl|rfl
     ·go_wp2
      go_meet;exact⟨rfl,rfl⟩
     ·cases fl
      all_goals
       go_wp2
       go_meet;exact⟨rfl,rfl⟩
    case rest=>
     obtain⟨rfl,rfl⟩:=hcut;clear p1 p2 o1 o2 n1 n2 n3 n6
     go_wp2
     clear o4 o3
     go_loopw [86] (fun i wr=>∃k:Nat,k<=nb/\i= .int .i64 k/\Hid (Ext W0 wr)/\Hid (Zk (-1) (tf.take k)=true)) (fun i _=>nb - (intOf i).toNat)
     case atStart=>exact⟨0,by omega,rfl,HX0,hid rfl⟩
     case round=>
      obtain⟨k,hk,rfl,HX,HA⟩:=hrel;by_cases h1:k<nb
      ·obtain⟨x,hx⟩:∃x,tf[k]? =some x:=⟨_,Qq (by have:=HLB.o;omega)⟩;obtain⟨d',b,off,A1,m1,c1,B1,m2,e1,hd,rfl,hv1, -,c0,c1',c2,c3,c4,c5⟩:=(HF.o.ext (HE0.o.trans HX.o)).fd_at hx;have HC:=hid (fun w' (hw:Ext wr w')=>HIH.o d' (by omega) w' x.2 _ (hv1.ext hw));have HXX:=hid hx;obtain⟨r,hr⟩:=Qg (Qd x.2);rw[hr]at HC;have HR:=hid hr;obtain⟨W2,hW2⟩:=Qg (wr.alloc (.cells #[.int .i64 x.1,.int .i64 x.2.kind,.int .i64 x.2.size,.int .i64 x.2.count,.slice A1 m1 c1,.slice B1 m2 e1] 59));have hE2:Ext wr W2:=by rw[<-hW2];exact(Ext.refl _).alloc _
       have p0:W2.cell? ⟨wr.heap.size,0,none⟩=some (.int .i64 x.1):=by rw[<-hW2];simp[go_sem]
       have p1:W2.cell? ⟨wr.heap.size,1,none⟩=some (.int .i64 x.2.kind):=by rw[<-hW2];simp[go_sem]
       have p2:W2.cell? ⟨wr.heap.size,2,none⟩=some (.int .i64 x.2.size):=by rw[<-hW2];simp[go_sem]
       have p3:W2.cell? ⟨wr.heap.size,3,none⟩=some (.int .i64 x.2.count):=by rw[<-hW2];simp[go_sem]
       have p4:W2.cell? ⟨wr.heap.size,4,none⟩=some (.slice A1 m1 c1):=by rw[<-hW2];simp[go_sem]
       have p5:W2.cell? ⟨wr.heap.size,5,none⟩=some (.slice B1 m2 e1):=by rw[<-hW2];simp[go_sem]
       have o4:=(HX.o.trans hE2).cell HQ.o.2.1;have HX2:=hid hE2;have HW2:=hid hW2;have w1:IntKind.i64.wrap ((k:Int)+1)=(k:Int)+1:=IntWalk.i64_in _ (by omega);have HND:Hid (okF tf k=false->Zk (-1) tf=false):=hid (zF hx HA.o);have HST:Hid (Zk (-1) (tf.take (k+1))=okF tf k):=hid (wJ tf k x hx HA.o);clear hd hv1 hx hr hE2 hW2;by_cases g1:x.1<0
       ·have d1:decide (x.1<0)=true:=Qv g1;have HFL:=hid (HND.o (qw HXX.o (.inl g1)))
        go_wp2_with fail
        rw[HW2.o];refine rgH (Ext.hc1 p0) (Ext.refl _).drew (fun hSg7q0=>?_);refine QB 0 1 2 3 ?_;refine ZM 4 5 ?_;refine rgU 6 ?_;refine QJ 7 8 ?_;refine Qc 9 10 11 12 ?_;refine Qc 13 14 15 16 ?_;refine Qc 17 18 19 20 ?_;refine ZM 21 22 ?_;refine QJ 23 24 ?_;refine ZM 25 26 ?_;refine rgC 27 (fun K hK=>?_);refine cast (if_neg (fun h=>Bool.noConfusion (show false=true from h))).symm ?_;refine rgK hK (by assumption) (fun hSg7q1=>?_);clear hK K;refine rgU 28 ?_;refine rgT 29 ?_;refine wpAnyH_done (by kernel_rfl) ?_ _;obtain rfl:z=false:=by rw[<-HZ3.o,HFL.o];rfl
        go_wp2
        go_ret;exact⟨rfl,HE0.o.trans (HX.o.trans HX2.o.drew)⟩
       by_cases g2:65536<=x.1
       ·have d1:decide (x.1<0)=false:=Qw g1;have d2:decide (x.1>=65536)=true:=Qv g2;have HFL:=hid (HND.o (qw HXX.o (.inr (.inl g2))))
        go_wp2_with fail
        rw[HW2.o];refine rgH (Ext.hc1 p0) (Ext.refl _).drew (fun hSg8q0=>?_);refine Qp 0 1 2 3 4 5 ?_;refine Zd 6 7 8 ?_;refine Qc 9 10 11 12 ?_;refine Qc 13 14 15 16 ?_;refine Qc 17 18 19 20 ?_;refine ZM 21 22 ?_;refine QJ 23 24 ?_;refine ZM 25 26 ?_;refine rgC 27 (fun K hK=>?_);refine cast (if_neg (fun h=>Bool.noConfusion (show false=true from h))).symm ?_;refine rgK hK (by assumption) (fun hSg8q1=>?_);clear hK K;refine rgU 28 ?_;refine rgT 29 ?_;refine wpAnyH_done (by kernel_rfl) ?_ _;obtain rfl:z=false:=by rw[<-HZ3.o,HFL.o];rfl
        go_wp2
        go_ret;exact⟨rfl,HE0.o.trans (HX.o.trans HX2.o.drew)⟩
       have d1:decide (x.1<0)=false:=Qw g1;have d2:decide (x.1>=65536)=false:=Qw g2;by_cases hk0:k=0
       ·have d3:decide ((k:Int) > 0)=false:=Qw (by omega);have d4:decide ((0:Int)<(k:Int))=false:=Qw (by omega);have d5:decide (0<k)=false:=Qw (by omega);have HOK:Hid (okF tf k=r):=hid (by rw[j8 HXX.o (by omega) (by omega) (.inl hk0),HR.o]);clear hk0 g1 g2
        go_wp2_with fail
        rw[HW2.o];refine rgH (Ext.hc6 p0 p1 p2 p3 p4 p5) (Ext.refl _).drew (fun hSg9q0=>?_);refine Qp 0 1 2 3 4 5 ?_;refine Qp 6 7 8 9 10 11 ?_;refine Qc 12 13 14 15 ?_;refine Qc 16 17 18 19 ?_;refine ZM 20 21 ?_;refine QB 22 23 24 25 ?_;refine rgT 26 ?_;refine rgC 27 (fun K hK=>?_);go_simp;go_at_call 74;refine(HC.o _ HX2.o.drew).mono ?_;rintro e w5 ⟨rfl,hx5⟩;have HX5:=hid hx5.drew_left;clear hx5;refine rgK hK ⟨HX5.o.c p0,HX5.o.c p1,HX5.o.c p2,HX5.o.c p3,HX5.o.c p4,HX5.o.c p5⟩ (fun hSg9q1=>?_);clear hK K;refine QJ 28 29 ?_;refine wpAnyH_done (by kernel_rfl) ?_ _
        cases r with
        | true=>
         go_wp2
         go_roundw
         case rel=>
          exact⟨k+1,by omega,by go_num,hid (HX.o.trans (HX2.o.trans HX5.o)),hid (by rw[HST.o,HOK.o])⟩
         case measure=>simp [intOf];omega
        |false=>
         have HFL:=hid (HND.o HOK.o);obtain rfl:z=false:=by rw[<-HZ3.o,HFL.o];rfl
         go_wp2
         go_ret;exact⟨rfl,HE0.o.trans (HX.o.trans (HX2.o.trans HX5.o))⟩
       ·obtain⟨j,hj⟩:=Qg (k - 1);have hjk:k=j+1:=by omega
        obtain⟨y,hy⟩:∃y,tf[j]? =some y:=⟨_,Qq (by have:=HLB.o;omega)⟩;obtain⟨-,b',off', -, -, -, -, -, -, -,hbo, -, -,e0, -⟩:=(HF.o.ext (HE0.o.trans (HX.o.trans HX2.o))).fd_at hy;obtain⟨rfl,rfl⟩:b=b'/\off=off':=by simpa using hbo
        have d3:decide ((k:Int) > 0)=true:=Qv (by omega);have d4:decide ((0:Int)<(k:Int))=true:=Qv (by omega);have d5:decide (0<k)=true:=Qv (by omega);have w2:IntKind.i64.wrap ((k:Int) - 1)=(j:Int):=by rw[IntWalk.i64_in _ (by omega)];omega
        have i1:(0:Int)<=(j:Int):=by omega
        have i2:(j:Int)<(nb:Int):=by omega
        have i3:j<nb:=by omega
        have HJK:=hid hjk;have HYY:=hid hy;clear hj hy hjk hbo hk0;by_cases g3:x.1<=y.1
        ·have d6:decide (x.1<=y.1)=true:=Qv g3;have HFL:=hid (HND.o (qw HXX.o (.inr (.inr (.inl ⟨j,y,HJK.o,HYY.o,g3⟩)))));clear g1 g2
         go_wp2_with fail
         rw[HW2.o];refine rgH (Ext.hc3 p0 o4 e0) (Ext.refl _).drew (fun hSg10q0=>?_);refine Qp 0 1 2 3 4 5 ?_;refine Qp 6 7 8 9 10 11 ?_;refine Qp 12 13 14 15 16 17 ?_;refine Qp 18 19 20 21 22 23 ?_;refine rgT 24 ?_;refine ZM 25 26 ?_;refine rgC 27 (fun K hK=>?_);refine cast (if_neg (fun h=>Bool.noConfusion (show false=true from h))).symm ?_;refine rgK hK (by assumption) (fun hSg10q1=>?_);clear hK K;refine rgU 28 ?_;refine rgT 29 ?_;refine wpAnyH_done (by kernel_rfl) ?_ _;obtain rfl:z=false:=by rw[<-HZ3.o,HFL.o];rfl
         go_wp2
         go_ret;exact⟨rfl,HE0.o.trans (HX.o.trans HX2.o.drew)⟩
        ·have d6:decide (x.1<=y.1)=false:=Qw g3;have HOK:Hid (okF tf k=r):=hid (by rw[j8 HXX.o (by omega) (by omega) (.inr ⟨j,y,HJK.o,HYY.o,by omega⟩),HR.o]);clear g1 g2 g3
         go_wp2_with fail
         rw[HW2.o];refine rgH (Ext.hc8 p0 p1 p2 p3 p4 p5 o4 e0) (Ext.refl _).drew (fun hSg11q0=>?_);refine Qp 0 1 2 3 4 5 ?_;refine Qp 6 7 8 9 10 11 ?_;refine Qp 12 13 14 15 16 17 ?_;refine Qp 18 19 20 21 22 23 ?_;refine Zd 24 25 26 ?_;refine rgC 27 (fun K hK=>?_);go_simp;go_at_call 74;refine(HC.o _ HX2.o.drew).mono ?_;rintro e w5 ⟨rfl,hx5⟩;have HX5:=hid hx5.drew_left;clear hx5;refine rgK hK ⟨HX5.o.c p0,HX5.o.c p1,HX5.o.c p2,HX5.o.c p3,HX5.o.c p4,HX5.o.c p5,HX5.o.c o4,HX5.o.c e0⟩ (fun hSg11q1=>?_);clear hK K;refine QJ 28 29 ?_;refine wpAnyH_done (by kernel_rfl) ?_ _;clear w2
         cases r with
         | true=>
          go_wp2
          go_roundw
          case rel=>
           exact⟨k+1,by omega,by go_num,hid (HX.o.trans (HX2.o.trans HX5.o)),hid (by rw[HST.o,HOK.o])⟩
          case measure=>simp [intOf];omega
         |false=>
          have HFL:=hid (HND.o HOK.o);obtain rfl:z=false:=by rw[<-HZ3.o,HFL.o];rfl
          go_wp2
          go_ret;exact⟨rfl,HE0.o.trans (HX.o.trans (HX2.o.trans HX5.o))⟩
      ·obtain rfl:k=nb:=by omega
       have hfull:Zk (-1) tf=true:=by have h:=HA.o;rwa [Qj (by have:=HLB.o;omega)]at h
       have HZ4:Hid (te.all Qd=z):=hid (by rw[<-HZ3.o,hfull];rfl);have o3:=HX.o.c HQ.o.1;clear hfull;rcases HEL.o with rfl|rfl
       ·obtain rfl:z=true:=by
         rw[<-HZ4.o,List.length_eq_zero_iff.1 (show te.length=0 from HLA.o.symm)];rfl
        go_wp2
        go_ret;exact⟨rfl,HE0.o.trans HX.o⟩
       ·obtain⟨x,hx⟩:∃x,te=[x]:=List.length_eq_one_iff.1 (show te.length=1 from HLA.o.symm);obtain⟨d',b,off,A1,m1,c1,B1,m2,e1,hd,rfl,hv1,c0,c1',c2,c3,c4⟩:=(HE.o.ext (HE0.o.trans HX.o)).ty_at (k:=0) (t:=x) (by rw[hx];rfl);simp only[Nat.zero_mul,Nat.add_zero]at c0 c1' c2 c3 c4;have HC:=hid (fun w' (hw:Ext wr w')=>HIH.o d' (by omega) w' x _ (hv1.ext hw));have hr:Qd x=z:=by rw[<-HZ4.o,hx];simp
        rw[hr]at HC;clear hd hv1 hx hr HZ4 HZ3
        go_wp2_with fail
        refine(HC.o _ (Ext.refl _)).mono ?_;rintro e w5 ⟨rfl,hx5⟩;have HX5:=hid hx5;clear hx5
        go_wp2
        go_ret;exact⟨rfl,HE0.o.trans (HX.o.trans HX5.o)⟩
theorem l5:∀(d:Nat) (w:World) (t:Ty) (v:Value),TyV d w All v t->Qd t=true->Calls Tryz.prog 75 #[v] w (ZX w (wiT t)):=by
 intro d
 induction d using Nat.strongRecOn with
 | _ d ih=>
  intro w t v hv hform;have HSV:=hid (fun W (hW:Ext w W)=>kq d W t v (hv.ext hW) hform);obtain⟨A,na,ca,B,nb,cb,rfl,hE,hF,hk,hs,hc⟩:=hv;have hla:=hE.len;have hlb:=hF.len;obtain⟨hac,ham⟩:=hE.cap;obtain⟨hbc,hbm⟩:=hF.cap
  have hel:t.elem=[]\/∃x,t.elem=[x]/\Qd x=true:=by
   rcases Z1 hform with(rfl|rfl)|⟨s,hs,(rfl|rfl)⟩|⟨x,rfl,hx⟩|⟨x,m,rfl,hm1,hm2,hx⟩|⟨l,rfl,hl⟩
   ·exact .inl rfl
   ·exact .inl rfl
   ·exact .inl rfl
   ·exact .inl rfl
   ·exact .inr ⟨x,rfl,hx⟩
   ·exact .inr ⟨x,rfl,hx⟩
   ·exact .inl rfl
  have hfl:∀f∈t.fields,Qd f.2=true:=by
   rcases Z1 hform with(rfl|rfl)|⟨s,hs,(rfl|rfl)⟩|⟨x,rfl,hx⟩|⟨x,m,rfl,hm1,hm2,hx⟩|⟨l,rfl,hl⟩
   ·intro f hf;cases hf
   ·intro f hf;cases hf
   ·intro f hf;cases hf
   ·intro f hf;cases hf
   ·intro f hf;cases hf
   ·intro f hf;cases hf
   ·exact fun f hf=>(XF hl f hf).2.2
  obtain⟨z,hz⟩:=Qg (wiT t);rw[hz];obtain⟨sz,hsz⟩:=Qg (szT t);obtain⟨tk,ts,tc,te,tf⟩:=t;rw[wiT,kZ,kX,hsz]at hz;rw[hsz]at HSV;simp only[Ty.kind,Ty.size,Ty.count,Ty.elem,Ty.fields]at hz hE hF hla hlb hel hfl HSV ⊢;obtain⟨W0,hW0⟩:=Qg (w.alloc (.cells #[.int .i64 tk,.int .i64 ts,.int .i64 tc,.slice A na ca,.slice B nb cb] 42));have hE0:Ext w W0:=by rw[<-hW0];exact(Ext.refl w).alloc _
  have o0:W0.cell? ⟨w.heap.size,0,none⟩=some (.int .i64 tk):=by rw[<-hW0];simp[go_sem]
  have o1:W0.cell? ⟨w.heap.size,1,none⟩=some (.int .i64 ts):=by rw[<-hW0];simp[go_sem]
  have o2:W0.cell? ⟨w.heap.size,2,none⟩=some (.int .i64 tc):=by rw[<-hW0];simp[go_sem]
  have o3:W0.cell? ⟨w.heap.size,3,none⟩=some (.slice A na ca):=by rw[<-hW0];simp[go_sem]
  have o4:W0.cell? ⟨w.heap.size,4,none⟩=some (.slice B nb cb):=by rw[<-hW0];simp[go_sem]
  have HZ:=hid hz;have HE:=hid hE;have HF:=hid hF;have HLA:=hid hla;have HLB:=hid hlb;have HE0:=hid hE0;have HIH:=hid ih;have HEL:=hid hel;have HFL:=hid hfl;clear hz hE hF hla hlb hE0 ih hk hs hc hel hfl hsz hform;by_cases h0:nb<=64
  case neg=>
   have d0:decide ((nb:Int) > 64)=true:=Qv (by omega);have hgt:(nb:Int) > 64:=by omega
   obtain rfl:z=false:=by rw[<-HZ.o,Qw (show ¬tf.length<=64 by have:=HLB.o;omega)];rfl
   go_enter Tryz.func75,Tryz.ntmps75
   go_wp2
   go_ret;exact⟨rfl,HE0.o⟩
  have d0:decide ((nb:Int) > 64)=false:=Qw (by omega);have hle:¬(nb:Int) > 64:=by omega
  go_enter Tryz.func75,Tryz.ntmps75
  go_wp2_with fail
  refine(HSV.o _ HE0.o).mono ?_;rintro e w1 ⟨rfl,hx1⟩;have HX1:=hid hx1;clear o0 o1 o2 hle;by_cases h1:sz<=65536
  case neg=>
   have d1:decide (sz > 65536)=true:=Qv (by omega);have hgt:sz > 65536:=by omega
   obtain rfl:z=false:=by rw[<-HZ.o,Qw h1];simp
   go_wp2
   go_ret;exact⟨rfl,HE0.o.trans HX1.o⟩
  have d1:decide (sz > 65536)=false:=Qw (by omega);have hle:¬sz > 65536:=by omega
  have HZ2:Hid (((tf.all fun f=>wiT f.2) && te.all wiT)=z):=hid (by rw[<-HZ.o,Qv h1,Qv (show tf.length<=64 by have:=HLB.o;omega)];simp);have o3:=hx1.cell o3;have o4:=hx1.cell o4;clear hx1 HZ
  go_wp2
  go_loopw [17] (fun i wr=>∃k:Nat,k<=nb/\i= .int .i64 k/\Hid (Ext w1 wr)/\Hid ((tf.take k).all (fun f=>wiT f.2)=true)) (fun i _=>nb - (intOf i).toNat)
  case atStart=>exact⟨0,by omega,rfl,hid (Ext.refl _),hid rfl⟩
  case round=>
   obtain⟨k,hk,rfl,HX,HA⟩:=hrel;by_cases h2:k<nb
   ·obtain⟨x,hx⟩:∃x,tf[k]? =some x:=⟨_,Qq (by have:=HLB.o;omega)⟩;obtain⟨d',b,off,A1,n1,c1,B1,m1,e1,hd,rfl,hv1, -,c0,c1',c2,c3,c4,c5⟩:=(HF.o.ext (HE0.o.trans (HX1.o.trans HX.o))).fd_at hx;have HC:=hid (fun w' (hw:Ext wr w')=>HIH.o d' (by omega) w' x.2 _ (hv1.ext hw) (HFL.o x (Qx hx)));have HXX:=hid hx;clear hd hv1 hx;obtain⟨r,hr⟩:=Qg (wiT x.2);rw[hr]at HC;have HR:=hid hr;clear hr
    go_wp2_with fail
    refine(HC.o _ ((Ext.refl _).alloc _)).mono ?_;rintro e w5 ⟨rfl,hx5⟩;have HX5:=hid ((HX.o.alloc _).trans hx5);clear hx5
    cases r with
    |true=>
     go_wp2
     go_roundw
     case rel=>exact⟨k+1,by omega,by go_num,HX5,hid (Yb HXX.o HR.o HA.o)⟩
     case measure=>simp [intOf];omega
    |false=>
     go_wp2
     go_ret;refine⟨XP ?_,HE0.o.trans (HX1.o.trans HX5.o)⟩;rw[<-HZ2.o,Yd (p:=fun f:Int×Ty=>wiT f.2) HXX.o HR.o,Bool.false_and]
   ·obtain rfl:k=nb:=by omega
    have hfull:(tf.all fun f=>wiT f.2)=true:=by have h:=HA.o;rwa [Qj (by have:=HLB.o;omega)]at h
    have HZ3:Hid (te.all wiT=z):=hid (by rw[<-HZ2.o,hfull];rfl);have o3:=HX.o.c o3;clear hfull HZ2;rcases HEL.o with he|⟨x,he,hxf⟩
    ·have hna:na=0:=by have:=HLA.o;rw[he]at this;exact this
     subst hna;obtain rfl:z=true:=by rw[<-HZ3.o,he];rfl
     clear he
     go_wp2
     go_ret;exact⟨rfl,HE0.o.trans (HX1.o.trans HX.o)⟩
    ·have hna:na=1:=by have:=HLA.o;rw[he]at this;exact this
     subst hna;obtain⟨d',b,off,A1,m1,c1,B1,m2,e1,hd,rfl,hv1,c0,c1',c2,c3,c4⟩:=(HE.o.ext (HE0.o.trans (HX1.o.trans HX.o))).ty_at (k:=0) (t:=x) (by rw[he];rfl);simp only[Nat.zero_mul,Nat.add_zero]at c0 c1' c2 c3 c4;have HC:=hid (fun w' (hw:Ext wr w')=>HIH.o d' (by omega) w' x _ (hv1.ext hw) hxf);have hr:wiT x=z:=by rw[<-HZ3.o,he];simp
     rw[hr]at HC;clear hd hv1 he hr HZ3 hxf
     go_wp2_with fail
     refine(HC.o _ (Ext.refl _)).mono ?_;rintro e w5 ⟨rfl,hx5⟩;have HX5:=hid hx5;clear hx5
     go_wp2
     go_ret;exact⟨rfl,HE0.o.trans (HX1.o.trans (HX.o.trans HX5.o))⟩
def Yx (w:World)(n:Nat)(e:Ending)(w':World):Prop:=e= .returned (.int .i64 n)/\Ext w w'
theorem wM (d:Nat)(w:World)(t:Ty)(v:Value)(hv:TyV d w All v t):Calls Tryz.prog 47 #[v] w (Yx w (Zm t)):=by
 have HV:=hid hv;obtain⟨A,na,ca,B,nb,cb,rfl, -⟩:=hv;obtain⟨z,hz⟩:=Qg (Zm t);rw[hz];have HZ:=hid hz;clear hz;obtain⟨W0,hW0⟩:=Qg (w.alloc (.cells #[.int .i64 t.kind,.int .i64 t.size,.int .i64 t.count,.slice A na ca,.slice B nb cb] 42));have hE0:Ext w W0:=by rw[<-hW0];exact(Ext.refl w).alloc _
 have o0:W0.cell? ⟨w.heap.size,0,none⟩=some (.int .i64 t.kind):=by rw[<-hW0];simp[go_sem]
 have o1:W0.cell? ⟨w.heap.size,1,none⟩=some (.int .i64 t.size):=by rw[<-hW0];simp[go_sem]
 have o2:W0.cell? ⟨w.heap.size,2,none⟩=some (.int .i64 t.count):=by rw[<-hW0];simp[go_sem]
 have o3:W0.cell? ⟨w.heap.size,3,none⟩=some (.slice A na ca):=by rw[<-hW0];simp[go_sem]
 have o4:W0.cell? ⟨w.heap.size,4,none⟩=some (.slice B nb cb):=by rw[<-hW0];simp[go_sem]
 have HE0:=hid hE0;clear hE0;obtain⟨r1,hr1⟩:=Qg (Q0 t 64);have HR1:=hid hr1;have HC1:=hid (tZ d _ t _ 64 (HV.o.ext HE0.o) (by omega));rw[show((64:Nat):Int)=64 from rfl,hr1]at HC1;clear hr1;go_enter Tryz.func47,Tryz.ntmps47
 go_wp2_with fail
 refine(HC1.o).mono ?_;rintro e w1 ⟨rfl,hx1⟩;have HX1:=hid (hx1);have o0:=HX1.o.c o0;have o1:=HX1.o.c o1;have o2:=HX1.o.c o2;have o3:=HX1.o.c o3;have o4:=HX1.o.c o4;clear hx1 hW0
 cases r1 with
 |false=>
  obtain rfl:z=20:=by rw[<-HZ.o];unfold Zm;rw[if_pos HR1.o]
  go_wp2
  go_ret;exact⟨rfl,HE0.o.trans HX1.o⟩
 | true=>
  obtain⟨r2,hr2⟩:=Qg (Qd t);have HR2:=hid hr2;have HC2:=hid (ly d w1 t _ (HV.o.ext (HE0.o.trans HX1.o)));rw[hr2]at HC2;clear hr2
  go_wp2_with fail
  refine(HC2.o).mono ?_;rintro e w2 ⟨rfl,hx2⟩;have HX2:=hid (hx2);have o0:=HX2.o.c o0;have o1:=HX2.o.c o1;have o2:=HX2.o.c o2;have o3:=HX2.o.c o3;have o4:=HX2.o.c o4;clear hx2
  cases r2 with
  |false=>
   obtain rfl:z=2:=by rw[<-HZ.o];unfold Zm;rw[if_neg (by rw[HR1.o];simp),if_pos HR2.o]
   go_wp2
   go_ret;exact⟨rfl,HE0.o.trans (HX1.o.trans HX2.o)⟩
  | true=>
   obtain⟨r3,hr3⟩:=Qg (wiT t);have HR3:=hid hr3;have HC3:=hid (l5 d w2 t _ (HV.o.ext (HE0.o.trans (HX1.o.trans HX2.o))) HR2.o);rw[hr3]at HC3;clear hr3
   go_wp2_with fail
   refine(HC3.o).mono ?_;rintro e w3 ⟨rfl,hx3⟩;have HX3:=hid (hx3);clear hx3
   cases r3 with
   |false=>
    obtain rfl:z=6:=by rw[<-HZ.o];unfold Zm;rw[if_neg (by rw[HR1.o];simp),if_neg (by rw[HR2.o];simp),if_pos HR3.o]
    go_wp2
    go_ret;exact⟨rfl,HE0.o.trans (HX1.o.trans (HX2.o.trans HX3.o))⟩
   |true=>
    obtain rfl:z=0:=by rw[<-HZ.o];unfold Zm;rw[if_neg (by rw[HR1.o];simp),if_neg (by rw[HR2.o];simp),if_neg (by rw[HR3.o];simp)]
    go_wp2
    go_ret;exact⟨rfl,HE0.o.trans (HX1.o.trans (HX2.o.trans HX3.o))⟩
theorem zP (d:Nat)(w:World)(t:Ty)(v:Value)(hv:TyV d w All v t):Calls Tryz.prog 65 #[v] w (ZX w (Zq t)):=by
 have HV:=hid hv;obtain⟨A,na,ca,B,nb,cb,rfl, -⟩:=hv;obtain⟨W0,hW0⟩:=Qg (w.alloc (.cells #[.int .i64 t.kind,.int .i64 t.size,.int .i64 t.count,.slice A na ca,.slice B nb cb] 42));have hE0:Ext w W0:=by rw[<-hW0];exact(Ext.refl w).alloc _
 have o0:W0.cell? ⟨w.heap.size,0,none⟩=some (.int .i64 t.kind):=by rw[<-hW0];simp[go_sem]
 have o1:W0.cell? ⟨w.heap.size,1,none⟩=some (.int .i64 t.size):=by rw[<-hW0];simp[go_sem]
 have o2:W0.cell? ⟨w.heap.size,2,none⟩=some (.int .i64 t.count):=by rw[<-hW0];simp[go_sem]
 have o3:W0.cell? ⟨w.heap.size,3,none⟩=some (.slice A na ca):=by rw[<-hW0];simp[go_sem]
 have o4:W0.cell? ⟨w.heap.size,4,none⟩=some (.slice B nb cb):=by rw[<-hW0];simp[go_sem]
 have HE0:=hid hE0;clear hE0;have HC1:=hid (wM d _ t _ (HV.o.ext HE0.o));unfold Zq;obtain⟨z,hz⟩:=Qg (Zm t);rw[hz]at HC1 ⊢;clear hz;go_enter Tryz.func65,Tryz.ntmps65
 go_wp2_with fail
 refine(HC1.o).mono ?_;rintro e w1 ⟨rfl,hx1⟩;have HX1:=hid (HE0.o.trans hx1);clear hx1 hW0;by_cases h:z=0
 ·subst h
  go_wp2
  go_ret;exact⟨rfl,HX1.o⟩
 ·have n1:((z:Int) == 0)=false:=by simp;omega
  have N2:=hid (show decide (z=0)=false from Qw h)
  go_wp2
  go_ret;exact⟨XP N2.o.symm,HX1.o⟩
theorem tC:∀args w,(callFunc 51 args).run Tryz.prog w= .ok (.enter 51 args) w:=fun args w=>Y6 Tryz.func51 (by kernel_rfl) rfl args w
theorem tq:∀args w,(callFunc 78 args).run Tryz.prog w= .ok (.enter 78 args) w:=fun args w=>Y6 Tryz.func78 (by kernel_rfl) rfl args w
def kJ (d:Nat):Prop:=∀(w:World) (a b:Ty) (va vb:Value),TyV d w All va a->TyV d w All vb b->Calls Tryz.prog 51 #[va,vb] w (ZX w (ZC a b))
theorem xM {α:Type}{l m:List α}{n:Nat}(h:l.take n=m.take n)(hl:n=l.length)(hm:n=m.length):l=m:=by
 rwa [Qj (by omega),Qj (by omega)]at h
theorem zb {α:Type}{l m:List α}{k:Nat}{x y:α}(hx:l[k]? =some x)(hy:m[k]? =some y)(h:x≠y):l≠m:=by
 rintro rfl;rw[hx]at hy;exact h (Option.some.inj hy)
theorem xB {α:Type}{l m:List α}{k:Nat}{x y:α}(hx:l[k]? =some x)(hy:m[k]? =some y)(h:x=y)(ht:l.take k=m.take k):l.take (k+1)=m.take (k+1):=by
 rw[VC hx,VC hy,ht,h]
theorem jk {a b:Ty}(h:ZC a b=false):a≠b:=fun e=>by rw[(Vp a b).2 e]at h;cases h
theorem fp {l m:List Ty}(h:l≠m):Kz l m=false:=by
 rw[Bool.eq_false_iff];exact fun e=>h ((zX l m).1 e)
theorem fm {l m:List (Int×Ty)}(h:l≠m):Kq l m=false:=by
 rw[Bool.eq_false_iff];exact fun e=>h ((zK l m).1 e)
theorem GW (d:Nat)(ih:∀d',d'<d->kJ d')(w:World)(A B:Option Addr)(n m c e:Nat)(l r:List Ty)(hl:Sl (tyR d) w All (.slice A n c) l)(hr:Sl (tyR d) w All (.slice B m e) r):
  Calls Tryz.prog 76 #[.slice A n c,.slice B m e,.func (.func 51) #[] #[]] w (ZX w (Kz l r)):=by
 have hg:=tC;have hln:=hl.len;have hrn:=hr.len;obtain⟨hnc,hcm⟩:=hl.cap;obtain⟨hmc,hdm⟩:=hr.cap;obtain⟨z,hz⟩:=Qg (Kz l r);rw[hz];have HZ:=hid hz;have HS:=hid hl;have HR:=hid hr;have HLL:=hid hln;have HRL:=hid hrn;have HIH:=hid ih;clear hz hl hr hln hrn ih;by_cases hnm:n=m
 case neg=>
  have hne:((n:Int) != (m:Int))=true:=by simp;omega
  obtain rfl:z=false:=by rw[<-HZ.o];exact fp fun h=>hnm (by rw[HLL.o,HRL.o,h])
  go_enter Tryz.func76,Tryz.ntmps76
  go_wp2
  go_ret;exact⟨rfl,Ext.refl w⟩
 subst hnm;have hne:((n:Int) != (n:Int))=false:=by simp
 go_enter Tryz.func76,Tryz.ntmps76
 go_wp2
 go_loopw [17] (fun i wr=>∃k:Nat,k<=n/\i= .int .i64 k/\Hid (Ext w wr)/\Hid (l.take k=r.take k)) (fun i _=>n - (intOf i).toNat)
 case atStart=>exact⟨0,by omega,rfl,hid (Ext.refl w),hid rfl⟩
 case round=>
  obtain⟨k,hk,rfl,HX,HT⟩:=hrel;by_cases h1:k<n
  ·obtain⟨x,hx⟩:∃x,l[k]? =some x:=⟨_,Qq (by have:=HLL.o;omega)⟩;obtain⟨y,hy⟩:∃y,r[k]? =some y:=⟨_,Qq (by have:=HRL.o;omega)⟩;obtain⟨d',b,off,A1,n1,c1,B1,m1,e1,hd,rfl,hv1,c0,c1',c2,c3,c4⟩:=(HS.o.ext HX.o).ty_at hx;obtain⟨d2,b2,off2,A2,n2,cc2,B2,m2,e2,hd2,rfl,hv2,y0,y1,y2,y3,y4⟩:=(HR.o.ext HX.o).ty_at hy;obtain rfl:d'=d2:=by omega
   have HC:=hid (fun w' (hw:Ext wr w')=>HIH.o d' (by omega) w' x y _ _ (hv1.ext hw) (hv2.ext hw));have HXX:=hid hx;have HYY:=hid hy;obtain⟨q,hq⟩:=Qg (ZC x y);rw[hq]at HC;have HQ:=hid hq;clear hd hd2 hv1 hv2 hx hy hq;obtain⟨W1,hW1⟩:=Qg (wr.alloc (.cells #[.int .i64 x.kind,.int .i64 x.size,.int .i64 x.count,.slice A1 n1 c1,.slice B1 m1 e1] 42));have hE1:Ext wr W1:=by rw[<-hW1];exact(Ext.refl wr).alloc _
   have y0:=hE1.cell y0;have y1:=hE1.cell y1;have y2:=hE1.cell y2;have y3:=hE1.cell y3;have y4:=hE1.cell y4;have x0:W1.cell? ⟨wr.heap.size,0,none⟩=some (.int .i64 x.kind):=by rw[<-hW1];simp[go_sem]
   have x1:W1.cell? ⟨wr.heap.size,1,none⟩=some (.int .i64 x.size):=by rw[<-hW1];simp[go_sem]
   have x2:W1.cell? ⟨wr.heap.size,2,none⟩=some (.int .i64 x.count):=by rw[<-hW1];simp[go_sem]
   have x3:W1.cell? ⟨wr.heap.size,3,none⟩=some (.slice A1 n1 c1):=by rw[<-hW1];simp[go_sem]
   have x4:W1.cell? ⟨wr.heap.size,4,none⟩=some (.slice B1 m1 e1):=by rw[<-hW1];simp[go_sem]
   obtain⟨W2,hW2⟩:=Qg (W1.alloc (.cells #[.int .i64 y.kind,.int .i64 y.size,.int .i64 y.count,.slice A2 n2 cc2,.slice B2 m2 e2] 42));have hE2:Ext W1 W2:=by rw[<-hW2];exact(Ext.refl W1).alloc _
   have z0:=hE2.cell x0;have z1:=hE2.cell x1;have z2:=hE2.cell x2;have z3:=hE2.cell x3;have z4:=hE2.cell x4;have b0:W2.cell? ⟨W1.heap.size,0,none⟩=some (.int .i64 y.kind):=by rw[<-hW2];simp[go_sem]
   have b1:W2.cell? ⟨W1.heap.size,1,none⟩=some (.int .i64 y.size):=by rw[<-hW2];simp[go_sem]
   have b2':W2.cell? ⟨W1.heap.size,2,none⟩=some (.int .i64 y.count):=by rw[<-hW2];simp[go_sem]
   have b3:W2.cell? ⟨W1.heap.size,3,none⟩=some (.slice A2 n2 cc2):=by rw[<-hW2];simp[go_sem]
   have b4:W2.cell? ⟨W1.heap.size,4,none⟩=some (.slice B2 m2 e2):=by rw[<-hW2];simp[go_sem]
   have HE1:=hid hE1;have HE2:=hid hE2;clear hE1 hE2
   go_wp2_with fail
   clear hW1 hW2 c0 c1' c2 c3 c4;refine(HC.o _ (HE1.o.trans HE2.o)).mono ?_;rintro e w5 ⟨rfl,hx5⟩;have HX5:=hid (HX.o.trans ((HE1.o.trans HE2.o).trans hx5));clear hx5 x0 x1 x2 x3 x4 y0 y1 y2 y3 y4 z0 z1 z2 z3 z4 b0 b1 b2' b3 b4
   cases q with
   |true=>
    go_wp2
    go_roundw
    case rel=>exact⟨k+1,by omega,by go_num,HX5,hid (xB HXX.o HYY.o ((Vp x y).1 HQ.o) HT.o)⟩
    case measure=>simp [intOf];omega
   |false=>
    obtain rfl:z=false:=by rw[<-HZ.o];exact fp (zb HXX.o HYY.o (jk HQ.o))
    go_wp2
    go_ret;exact⟨rfl,HX5.o⟩
  ·obtain rfl:k=n:=by omega
   obtain rfl:z=true:=by
    rw[<-HZ.o];exact(zX l r).2 (xM HT.o HLL.o HRL.o)
   go_wp2
   go_ret;exact⟨rfl,HX.o⟩
theorem mG {x y:Int×Ty}:(decide (x.1=y.1) && ZC x.2 y.2)=true↔x=y:=by
 rw[Bool.and_eq_true,decide_eq_true_eq,Vp,Prod.ext_iff]
theorem eq (d:Nat)(ih:kJ d)(w:World)(x y:Int×Ty)(va vb:Value)(ha:FdV d w All va x)(hb:FdV d w All vb y):
  Calls Tryz.prog 78 #[va,vb] w (ZX w (decide (x.1=y.1) && ZC x.2 y.2)):=by
 obtain⟨A1,n1,c1,B1,m1,e1,rfl,hi1,hv1⟩:=ha;obtain⟨A2,n2,c2,B2,m2,e2,rfl,hi2,hv2⟩:=hb;obtain⟨z,hz⟩:=Qg ((decide (x.1=y.1) && ZC x.2 y.2));rw[hz];have HZ:=hid hz;have HC:=hid (fun w' (hw:Ext w w')=>ih w' x.2 y.2 _ _ (hv1.ext hw) (hv2.ext hw));clear hz hi1 hi2 hv1 hv2;obtain⟨xo,xt⟩:=x;obtain⟨yo,yt⟩:=y;simp only at HZ HC ⊢;obtain⟨W0,hW0⟩:=Qg ((w.alloc (.cells #[.int .i64 xo,.int .i64 xt.kind,.int .i64 xt.size,.int .i64 xt.count,.slice A1 n1 c1,.slice B1 m1 e1] 59)).alloc (.cells #[.int .i64 yo,.int .i64 yt.kind,.int .i64 yt.size,.int .i64 yt.count,.slice A2 n2 c2,.slice B2 m2 e2] 59));have hE0:Ext w W0:=by rw[<-hW0];exact((Ext.refl w).alloc _).alloc _
 have HE0:=hid hE0;have a0:W0.cell? ⟨w.heap.size,0,none⟩=some (.int .i64 xo):=by rw[<-hW0];simp[go_sem]
 have a1:W0.cell? ⟨w.heap.size,1,none⟩=some (.int .i64 xt.kind):=by rw[<-hW0];simp[go_sem]
 have a2:W0.cell? ⟨w.heap.size,2,none⟩=some (.int .i64 xt.size):=by rw[<-hW0];simp[go_sem]
 have a3:W0.cell? ⟨w.heap.size,3,none⟩=some (.int .i64 xt.count):=by rw[<-hW0];simp[go_sem]
 have a4:W0.cell? ⟨w.heap.size,4,none⟩=some (.slice A1 n1 c1):=by rw[<-hW0];simp[go_sem]
 have a5:W0.cell? ⟨w.heap.size,5,none⟩=some (.slice B1 m1 e1):=by rw[<-hW0];simp[go_sem]
 have b0:W0.cell? ⟨w.heap.size+1,0,none⟩=some (.int .i64 yo):=by rw[<-hW0];simp[go_sem]
 have b1:W0.cell? ⟨w.heap.size+1,1,none⟩=some (.int .i64 yt.kind):=by rw[<-hW0];simp[go_sem]
 have b2:W0.cell? ⟨w.heap.size+1,2,none⟩=some (.int .i64 yt.size):=by rw[<-hW0];simp[go_sem]
 have b3:W0.cell? ⟨w.heap.size+1,3,none⟩=some (.int .i64 yt.count):=by rw[<-hW0];simp[go_sem]
 have b4:W0.cell? ⟨w.heap.size+1,4,none⟩=some (.slice A2 n2 c2):=by rw[<-hW0];simp[go_sem]
 have b5:W0.cell? ⟨w.heap.size+1,5,none⟩=some (.slice B2 m2 e2):=by rw[<-hW0];simp[go_sem]
 clear hE0;by_cases h:xo=yo
 ·subst h;obtain⟨q,hq⟩:=Qg (ZC xt yt);rw[hq]at HC;obtain rfl:z=q:=by rw[<-HZ.o,hq];simp
  clear hq;go_enter Tryz.func78,Tryz.ntmps78
  go_wp2_with fail
  refine(HC.o _ HE0.o).mono ?_;rintro e w5 ⟨rfl,hx5⟩;have HX5:=hid (HE0.o.trans hx5);clear hx5 hW0
  go_wp2
  go_ret;exact⟨rfl,HX5.o⟩
 ·have n1:(xo == yo)=false:=by simp[h]
  obtain rfl:z=false:=by rw[<-HZ.o,Qw h];rfl
  clear h;go_enter Tryz.func78,Tryz.ntmps78
  go_wp2
  go_ret;exact⟨rfl,HE0.o⟩
theorem GJ (d:Nat)(ih:∀d',d'<d->kJ d')(w:World)(A B:Option Addr)(n m c e:Nat)(l r:List (Int×Ty))(hl:Sl (fdR (tyR d)) w All (.slice A n c) l)(hr:Sl (fdR (tyR d)) w All (.slice B m e) r):
  Calls Tryz.prog 77 #[.slice A n c,.slice B m e,.func (.func 78) #[] #[]] w (ZX w (Kq l r)):=by
 have hg:=tq;have hln:=hl.len;have hrn:=hr.len;obtain⟨hnc,hcm⟩:=hl.cap;obtain⟨hmc,hdm⟩:=hr.cap;obtain⟨z,hz⟩:=Qg (Kq l r);rw[hz];have HZ:=hid hz;have HS:=hid hl;have HR:=hid hr;have HLL:=hid hln;have HRL:=hid hrn;have HIH:=hid ih;clear hz hl hr hln hrn ih;by_cases hnm:n=m
 case neg=>
  have hne:((n:Int) != (m:Int))=true:=by simp;omega
  obtain rfl:z=false:=by rw[<-HZ.o];exact fm fun h=>hnm (by rw[HLL.o,HRL.o,h])
  go_enter Tryz.func77,Tryz.ntmps77
  go_wp2
  go_ret;exact⟨rfl,Ext.refl w⟩
 subst hnm;have hne:((n:Int) != (n:Int))=false:=by simp
 go_enter Tryz.func77,Tryz.ntmps77
 go_wp2
 go_loopw [17] (fun i wr=>∃k:Nat,k<=n/\i= .int .i64 k/\Hid (Ext w wr)/\Hid (l.take k=r.take k)) (fun i _=>n - (intOf i).toNat)
 case atStart=>exact⟨0,by omega,rfl,hid (Ext.refl w),hid rfl⟩
 case round=>
  obtain⟨k,hk,rfl,HX,HT⟩:=hrel;by_cases h1:k<n
  ·obtain⟨x,hx⟩:∃x,l[k]? =some x:=⟨_,Qq (by have:=HLL.o;omega)⟩;obtain⟨y,hy⟩:∃y,r[k]? =some y:=⟨_,Qq (by have:=HRL.o;omega)⟩;obtain⟨d',b,off,A1,n1,c1,B1,m1,e1,hd,rfl,hv1,hi1,c0,c1',c2,c3,c4,c5⟩:=(HS.o.ext HX.o).fd_at hx;obtain⟨d2,b2,off2,A2,n2,cc2,B2,m2,e2,hd2,rfl,hv2,hi2,y0,y1,y2,y3,y4,y5⟩:=(HR.o.ext HX.o).fd_at hy;obtain rfl:d'=d2:=by omega
   have HC:=hid (fun w' (hw:Ext wr w')=>eq d' (HIH.o d' (by omega)) w' x y _ _ ⟨A1,n1,c1,B1,m1,e1,rfl,hi1,hv1.ext hw⟩ ⟨A2,n2,cc2,B2,m2,e2,rfl,hi2,hv2.ext hw⟩);have HXX:=hid hx;have HYY:=hid hy;obtain⟨q,hq⟩:=Qg ((decide (x.1=y.1) && ZC x.2 y.2));rw[hq]at HC;have HQ:=hid hq;clear hd hd2 hv1 hv2 hx hy hq hi1 hi2;obtain⟨W1,hW1⟩:=Qg (wr.alloc (.cells #[.int .i64 x.1,.int .i64 x.2.kind,.int .i64 x.2.size,.int .i64 x.2.count,.slice A1 n1 c1,.slice B1 m1 e1] 59));have hE1:Ext wr W1:=by rw[<-hW1];exact(Ext.refl wr).alloc _
   have y0:=hE1.cell y0;have y1:=hE1.cell y1;have y2:=hE1.cell y2;have y3:=hE1.cell y3;have y4:=hE1.cell y4;have y5:=hE1.cell y5;have x0:W1.cell? ⟨wr.heap.size,0,none⟩=some (.int .i64 x.1):=by rw[<-hW1];simp[go_sem]
   have x1:W1.cell? ⟨wr.heap.size,1,none⟩=some (.int .i64 x.2.kind):=by rw[<-hW1];simp[go_sem]
   have x2:W1.cell? ⟨wr.heap.size,2,none⟩=some (.int .i64 x.2.size):=by rw[<-hW1];simp[go_sem]
   have x3:W1.cell? ⟨wr.heap.size,3,none⟩=some (.int .i64 x.2.count):=by rw[<-hW1];simp[go_sem]
   have x4:W1.cell? ⟨wr.heap.size,4,none⟩=some (.slice A1 n1 c1):=by rw[<-hW1];simp[go_sem]
   have x5:W1.cell? ⟨wr.heap.size,5,none⟩=some (.slice B1 m1 e1):=by rw[<-hW1];simp[go_sem]
   obtain⟨W2,hW2⟩:=Qg (W1.alloc (.cells #[.int .i64 y.1,.int .i64 y.2.kind,.int .i64 y.2.size,.int .i64 y.2.count,.slice A2 n2 cc2,.slice B2 m2 e2] 59));have hE2:Ext W1 W2:=by rw[<-hW2];exact(Ext.refl W1).alloc _
   have z0:=hE2.cell x0;have z1:=hE2.cell x1;have z2:=hE2.cell x2;have z3:=hE2.cell x3;have z4:=hE2.cell x4;have z5:=hE2.cell x5;have b0:W2.cell? ⟨W1.heap.size,0,none⟩=some (.int .i64 y.1):=by rw[<-hW2];simp[go_sem]
   have b1:W2.cell? ⟨W1.heap.size,1,none⟩=some (.int .i64 y.2.kind):=by rw[<-hW2];simp[go_sem]
   have b2':W2.cell? ⟨W1.heap.size,2,none⟩=some (.int .i64 y.2.size):=by rw[<-hW2];simp[go_sem]
   have b3:W2.cell? ⟨W1.heap.size,3,none⟩=some (.int .i64 y.2.count):=by rw[<-hW2];simp[go_sem]
   have b4:W2.cell? ⟨W1.heap.size,4,none⟩=some (.slice A2 n2 cc2):=by rw[<-hW2];simp[go_sem]
   have b5:W2.cell? ⟨W1.heap.size,5,none⟩=some (.slice B2 m2 e2):=by rw[<-hW2];simp[go_sem]
   have HE1:=hid hE1;have HE2:=hid hE2;clear hE1 hE2
   go_wp2_with fail
   clear hW1 hW2 c0 c1' c2 c3 c4 c5;refine(HC.o _ (HE1.o.trans HE2.o)).mono ?_;rintro e w5 ⟨rfl,hx5⟩;have HX5:=hid (HX.o.trans ((HE1.o.trans HE2.o).trans hx5));clear hx5 x0 x1 x2 x3 x4 x5 y0 y1 y2 y3 y4 y5 z0 z1 z2 z3 z4 z5 b0 b1 b2' b3 b4 b5
   cases q with
   |true=>
    go_wp2
    go_roundw
    case rel=>exact⟨k+1,by omega,by go_num,HX5,hid (xB HXX.o HYY.o (mG.1 HQ.o) HT.o)⟩
    case measure=>simp [intOf];omega
   |false=>
    obtain rfl:z=false:=by rw[<-HZ.o];exact fm (zb HXX.o HYY.o (fun e=>by rw[mG.2 e]at HQ;cases HQ.o))
    go_wp2
    go_ret;exact⟨rfl,HX5.o⟩
  ·obtain rfl:k=n:=by omega
   obtain rfl:z=true:=by
    rw[<-HZ.o];exact(zK l r).2 (xM HT.o HLL.o HRL.o)
   go_wp2
   go_ret;exact⟨rfl,HX.o⟩
theorem cB:∀d,kJ d:=by
 intro d
 induction d using Nat.strongRecOn with
 | _ d ih=>
  intro w a b va vb ha hb;obtain⟨A1,n1,c1,B1,m1,e1,rfl,hE1,hF1, -⟩:=ha;obtain⟨A2,n2,c2,B2,m2,e2,rfl,hE2,hF2, -⟩:=hb;obtain⟨z,hz⟩:=Qg (ZC a b);rw[hz];have HZ:=hid hz;have HC1:=hid (fun w' (hw:Ext w w')=>GW d ih w' A1 A2 n1 n2 c1 c2 _ _ (hE1.ext hw) (hE2.ext hw));have HC2:=hid (fun w' (hw:Ext w w')=>GJ d ih w' B1 B2 m1 m2 e1 e2 _ _ (hF1.ext hw) (hF2.ext hw));clear hz hE1 hF1 hE2 hF2 ih;obtain⟨k,s,c,e,f⟩:=a;obtain⟨k',s',c',e',f'⟩:=b;simp only[Ty.kind,Ty.size,Ty.count,Ty.elem,Ty.fields]at HC1 HC2 ⊢;rw[ZC]at HZ;obtain⟨W0,hW0⟩:=Qg ((w.alloc (.cells #[.int .i64 k,.int .i64 s,.int .i64 c,.slice A1 n1 c1,.slice B1 m1 e1] 42)).alloc (.cells #[.int .i64 k',.int .i64 s',.int .i64 c',.slice A2 n2 c2,.slice B2 m2 e2] 42));have hE0:Ext w W0:=by rw[<-hW0];exact((Ext.refl w).alloc _).alloc _
  have HE0:=hid hE0;have a0:W0.cell? ⟨w.heap.size,0,none⟩=some (.int .i64 k):=by rw[<-hW0];simp[go_sem]
  have a1:W0.cell? ⟨w.heap.size,1,none⟩=some (.int .i64 s):=by rw[<-hW0];simp[go_sem]
  have a2:W0.cell? ⟨w.heap.size,2,none⟩=some (.int .i64 c):=by rw[<-hW0];simp[go_sem]
  have a3:W0.cell? ⟨w.heap.size,3,none⟩=some (.slice A1 n1 c1):=by rw[<-hW0];simp[go_sem]
  have b0:W0.cell? ⟨w.heap.size+1,0,none⟩=some (.int .i64 k'):=by rw[<-hW0];simp[go_sem]
  have b1:W0.cell? ⟨w.heap.size+1,1,none⟩=some (.int .i64 s'):=by rw[<-hW0];simp[go_sem]
  have b2:W0.cell? ⟨w.heap.size+1,2,none⟩=some (.int .i64 c'):=by rw[<-hW0];simp[go_sem]
  have b3:W0.cell? ⟨w.heap.size+1,3,none⟩=some (.slice A2 n2 c2):=by rw[<-hW0];simp[go_sem]
  have a4:W0.cell? ⟨w.heap.size,4,none⟩=some (.slice B1 m1 e1):=by rw[<-hW0];simp[go_sem]
  have b4:W0.cell? ⟨w.heap.size+1,4,none⟩=some (.slice B2 m2 e2):=by rw[<-hW0];simp[go_sem]
  clear hE0;by_cases h1:k=k'
  case neg=>
   have g1:(k == k')=false:=by simp[h1]
   obtain rfl:z=false:=by rw[<-HZ.o,Qw h1];rfl
   clear h1;go_enter Tryz.func51,Tryz.ntmps51
   go_wp2
   go_ret;exact⟨rfl,HE0.o⟩
  subst h1;by_cases h2:s=s'
  case neg=>
   have g1:(s == s')=false:=by simp[h2]
   obtain rfl:z=false:=by rw[<-HZ.o,Qw h2];simp
   clear h2;go_enter Tryz.func51,Tryz.ntmps51
   go_wp2
   go_ret;exact⟨rfl,HE0.o⟩
  subst h2;by_cases h3:c=c'
  case neg=>
   have g1:(c == c')=false:=by simp[h3]
   obtain rfl:z=false:=by rw[<-HZ.o,Qw h3];simp
   clear h3;go_enter Tryz.func51,Tryz.ntmps51
   go_wp2
   go_ret;exact⟨rfl,HE0.o⟩
  subst h3;obtain⟨q1,hq1⟩:=Qg (Kz e e');obtain⟨q2,hq2⟩:=Qg (Kq f f');rw[hq1]at HC1 HZ;rw[hq2]at HC2 HZ;have HZ2:Hid ((q1 && q2)=z):=hid (by rw[<-HZ.o];simp);clear hq1 hq2 HZ;go_enter Tryz.func51,Tryz.ntmps51
  go_wp2_with fail
  refine(HC1.o _ HE0.o).mono ?_;rintro e5 w5 ⟨rfl,hx5⟩;have HX5:=hid (HE0.o.trans hx5);have a4:=hx5.cell a4;have b4:=hx5.cell b4;clear hx5 hW0
  cases q1 with
  |false=>
   obtain rfl:z=false:=by rw[<-HZ2.o];rfl
   go_wp2
   go_ret;exact⟨rfl,HX5.o⟩
  |true=>
   obtain rfl:z=q2:=by rw[<-HZ2.o];rfl
   go_wp2_with fail
   refine(HC2.o _ HX5.o).mono ?_;rintro e6 w6 ⟨rfl,hx6⟩;have HX6:=hid (HX5.o.trans hx6);clear hx6
   go_wp2
   go_ret;exact⟨rfl,HX6.o⟩
theorem ik:∀(d:Nat) (w:World) (t:Ty) (v:Value) (n:Nat),TyV d w All v t->n<=64->Calls Tryz.prog 85 #[v,.int .i64 n] w (ZX w (!Q0 t n)):=by
 intro d
 induction d using Nat.strongRecOn with
 | _ d ih=>
  intro w t v n hv hn;obtain⟨A,na,ca,B,nb,cb,rfl,hE,hF,hk,hs,hc⟩:=hv;have hla:=hE.len;have hlb:=hF.len;obtain⟨hac,ham⟩:=hE.cap;obtain⟨hbc,hbm⟩:=hF.cap;obtain⟨z,hz⟩:=Qg (Q0 t n);rw[hz];rw[j9]at hz;obtain⟨tk,ts,tc,te,tf⟩:=t;simp only[Ty.kind,Ty.size,Ty.count,Ty.elem,Ty.fields]at hz hE hF hla hlb ⊢;obtain⟨W0,hW0⟩:=Qg (w.alloc (.cells #[.int .i64 tk,.int .i64 ts,.int .i64 tc,.slice A na ca,.slice B nb cb] 42));have hE0:Ext w W0:=by rw[<-hW0];exact(Ext.refl w).alloc _
  have o3:W0.cell? ⟨w.heap.size,3,none⟩=some (.slice A na ca):=by rw[<-hW0];simp[go_sem]
  have o4:W0.cell? ⟨w.heap.size,4,none⟩=some (.slice B nb cb):=by rw[<-hW0];simp[go_sem]
  have HZ:=hid hz;have HE:=hid hE;have HF:=hid hF;have HLA:=hid hla;have HLB:=hid hlb;have HE0:=hid hE0;have HIH:=hid ih;clear hz hE hF hla hlb hE0 ih hk hs hc;by_cases h0:n=0
  ·subst h0;obtain rfl:z=false:=HZ.o.symm;go_enter Tryz.func85,Tryz.ntmps85
   go_wp2
   go_ret;exact⟨rfl,HE0.o⟩
  ·obtain⟨n',hn'⟩:∃n',n - 1=n':=⟨_,rfl⟩;have hn64:n'<=64:=by omega
   have w1:IntKind.i64.wrap ((n:Int) - 1)=(n':Int):=by rw[IntWalk.i64_in _ (by omega)];omega
   have HZ2:Hid ((te.all (fun x=>Q0 x n') && tf.all (fun f=>Q0 f.2 n'))=z):=hid (by
    have h:=HZ.o;rw[Qv (by omega),Bool.true_and]at h;have e:(n:Int) - 1=n':=by omega
    rw[e]at h;exact h)
   have h01:1<=n:=by omega
   clear HZ hn' h0;go_enter Tryz.func85,Tryz.ntmps85
   go_wp2
   go_loopw [5] (fun i wr=>∃k:Nat,k<=na/\i= .int .i64 k/\Hid (Ext W0 wr)/\Hid ((te.take k).all (fun x=>Q0 x n')=true)) (fun i _=>na - (intOf i).toNat)
   case atStart=>exact⟨0,by omega,rfl,hid (Ext.refl _),hid rfl⟩
   case round=>
    obtain⟨k,hk,rfl,HX,HA⟩:=hrel;have o3:=HX.o.c o3;by_cases h1:k<na
    ·obtain⟨x,hx⟩:∃x,te[k]? =some x:=⟨_,Qq (by have:=HLA.o;omega)⟩;obtain⟨d',b,off,A1,n1,c1,B1,m1,e1,hd,rfl,hv1,c0,c1',c2,c3,c4⟩:=(HE.o.ext (HE0.o.trans HX.o)).ty_at hx;have HC:=hid (fun w' (hw:Ext wr w')=>HIH.o d' (by omega) w' x _ n' (hv1.ext hw) (by omega));have HXX:=hid hx;clear hd hv1 hx;obtain⟨r,hr⟩:=Qg (Q0 x n');rw[hr]at HC;have HR:=hid hr;clear hr
     go_wp2_with fail
     refine(HC.o _ (Ext.refl _)).mono ?_;rintro e w5 ⟨rfl,hx5⟩;have HX5:=hid (HX.o.trans hx5);clear hx5 c0 c1' c2 c3 c4 o3
     cases r with
     |true=>
      go_wp2
      go_roundw
      case rel=>exact⟨k+1,by omega,by go_num,HX5,hid (Yb HXX.o HR.o HA.o)⟩
      case measure=>simp [intOf];omega
     |false=>
      go_wp2
      go_ret;refine⟨XP ?_,HE0.o.trans HX5.o⟩;rw[<-HZ2.o,Yd HXX.o HR.o,Bool.false_and];rfl
    ·obtain rfl:k=na:=by omega
     have HA2:Hid (te.all (fun x=>Q0 x n')=true):=hid (by have h:=HA.o;rwa [Qj (by have:=HLA.o;omega)]at h);have HO4:=hid o4;clear HA
     go_wp2
     clear o3
     go_loopw [6] (fun i wr=>∃k:Nat,k<=nb/\i= .int .i64 k/\Hid (Ext W0 wr)/\Hid ((tf.take k).all (fun f=>Q0 f.2 n')=true)) (fun i _=>nb - (intOf i).toNat)
     case atStart=>exact⟨0,by omega,rfl,HX,hid rfl⟩
     case round=>
      obtain⟨j,hj,rfl,HX2,HB⟩:=hrel;have o4:=HX2.o.c HO4.o;by_cases h2:j<nb
      ·obtain⟨x,hx⟩:∃x,tf[j]? =some x:=⟨_,Qq (by have:=HLB.o;omega)⟩;obtain⟨d',b,off,A1,n1,c1,B1,m1,e1,hd,rfl,hv1, -,c0,c1',c2,c3,c4,c5⟩:=(HF.o.ext (HE0.o.trans HX2.o)).fd_at hx;have HC:=hid (fun w' (hw:Ext wr w')=>HIH.o d' (by omega) w' x.2 _ n' (hv1.ext hw) (by omega));have HXX:=hid hx;clear hd hv1 hx;obtain⟨r,hr⟩:=Qg (Q0 x.2 n');rw[hr]at HC;have HR:=hid hr;clear hr
       go_wp2_with fail
       refine(HC.o _ (Ext.refl _)).mono ?_;rintro e w5 ⟨rfl,hx5⟩;have HX5:=hid (HX2.o.trans hx5);clear hx5 c0 c1' c2 c3 c4 c5 o4
       cases r with
       |true=>
        go_wp2
        go_roundw
        case rel=>exact⟨j+1,by omega,by go_num,HX5,hid (Yb HXX.o HR.o HB.o)⟩
        case measure=>simp [intOf];omega
       |false=>
        go_wp2
        go_ret;refine⟨XP ?_,HE0.o.trans HX5.o⟩;rw[<-HZ2.o,Yd (p:=fun f:Int×Ty=>Q0 f.2 n') HXX.o HR.o,Bool.and_false];rfl
      ·obtain rfl:j=nb:=by omega
       go_wp2
       go_ret;refine⟨XP ?_,HE0.o.trans HX2.o⟩;have h:=HB.o;rw[Qj (by have:=HLB.o;omega)]at h;rw[<-HZ2.o,HA2.o,h];rfl
end Go.Proofs.YtlmipgdnlfjpaaaGreat
