/- Merged by program from texts of my own. -/
import Derived.Test.YtlmipgdnlfjpaaaGreatTyBm
import Derived.Deep.CutBlock
namespace Go.Proofs.YtlmipgdnlfjpaaaGreat
open Go.RowKit Go.Deco
set_option linter.unusedSimpArgs false
set_option linter.unusedVariables false
def headK (k s c:Int):Option (Nat×Bool×Int×Int):=
 if k=0∨k=6∨k=5 then some (0,decide (k=5),0,0)
 else if k=1∨k=2 then (if s=1∨s=2∨s=4 then some (0,false,s,0) else none)
 else if k=3 then some (1,false,0,0)
 else if k=4 then (if 1≤c∧c≤65536 then some (1,false,0,c) else none)
 else none
def headT (t:Ty):Option (Nat×Bool×Int×Int):=headK t.kind t.size t.count
theorem head_fl {k s c:Int}{el:Nat}{fl:Bool}{ps pc:Int}(h:headK k s c=some (el,fl,ps,pc)):(k == 5)=fl:=by
 have hb:(k == 5)=decide (k=5):=by rw[Bool.eq_iff_iff];simp
 rw[hb];unfold headK at h
 repeat' (split at h)
 all_goals first
  |(injection h with h;simp only[Prod.mk.injEq]at h;rw[←h.2.1];done)
  |(injection h with h;simp only[Prod.mk.injEq]at h;rw[←h.2.1];exact decide_eq_false (by omega))
  |cases h
theorem form_none {t:Ty}(h:headT t=none):formT t=false:=by
 obtain⟨k,s,c,e,f⟩:=t;change headK k s c=none at h;unfold headK at h;rw[formT]
 split at h
 ·cases h
 ·rename_i h1
  rw[if_neg (by omega)]
  split at h
  ·rename_i h2
   rw[if_pos h2]
   split at h
   ·cases h
   ·rename_i h3
    rw[decide_eq_false h3];rfl
  ·rename_i h2
   rw[if_neg h2]
   split at h
   ·cases h
   ·rename_i h3
    rw[if_neg h3]
    split at h
    ·rename_i h4
     rw[if_pos h4]
     split at h
     ·cases h
     ·rename_i h5
      by_cases h6:1≤c
      ·rw[decide_eq_false (show ¬c≤65536 by omega)];simp
      ·rw[decide_eq_false h6];simp
    ·rename_i h4
     rw[if_neg h4,if_neg (by omega)]
theorem form_some {k s c:Int}{e:List Ty}{f:List (Int×Ty)}{el:Nat}{fl:Bool}{ps pc:Int}(h:headK k s c=some (el,fl,ps,pc)):
  formT (.mk k s c e f)=(decide (s=ps) && decide (c=pc) && decide (e.length=el) && (fl || decide (f.length=0)) && formF (-1) f && e.all formT)∧(el=0∨el=1):=by
 unfold headK at h;have hemp:∀{α:Type} (l:List α),l.isEmpty=decide (l.length=0):=fun l=>by cases l <;> simp
 have hff:decide (f.length=0)=true→formF (-1) f=true:=fun h=>by
  have:f=[]:=List.length_eq_zero_iff.1 (by simpa using h);subst this;rfl
 have hee:decide (e.length=0)=true→e.all formT=true:=fun h=>by
  have:e=[]:=List.length_eq_zero_iff.1 (by simpa using h);subst this;rfl
 have he1:formE e=(decide (e.length=1) && e.all formT):=by
  match e with
  |[]=>rfl
  |[x]=>simp [formE]
  |x :: y :: l=>simp [formE]
 rw[formT]
 split at h
 ·rename_i h1
  injection h with h
  simp only[Prod.mk.injEq]at h;obtain⟨rfl,rfl,rfl,rfl⟩:=h;refine⟨?_,.inl rfl⟩;by_cases h5:k=5
  ·subst h5;rw[if_neg (by omega),if_neg (by omega),if_neg (by omega),if_neg (by omega),if_pos rfl,hemp e]
   revert hff hee
   generalize decide (f.length=0)=b1;generalize decide (e.length=0)=b2;generalize formF (-1) f=b3;generalize e.all formT=b4;generalize decide (e.length=1)=b5;cases b1 <;> cases b2 <;> cases b3 <;> cases b4 <;> cases b5 <;> simp
  ·rw[if_pos (by omega),hemp e,hemp f,decide_eq_false h5]
   revert hff hee
   generalize decide (f.length=0)=b1;generalize decide (e.length=0)=b2;generalize formF (-1) f=b3;generalize e.all formT=b4;generalize decide (e.length=1)=b5;cases b1 <;> cases b2 <;> cases b3 <;> cases b4 <;> cases b5 <;> simp
 ·rename_i h1
  rw[if_neg (by omega)]
  split at h
  ·rename_i h2
   rw[if_pos h2]
   split at h
   ·rename_i h3
    injection h with h
    simp only[Prod.mk.injEq]at h;obtain⟨rfl,rfl,rfl,rfl⟩:=h;refine⟨?_,.inl rfl⟩;rw[hemp e,hemp f,decide_eq_true h3]
    revert hff hee
    generalize decide (f.length=0)=b1;generalize decide (e.length=0)=b2;generalize formF (-1) f=b3;generalize e.all formT=b4;generalize decide (e.length=1)=b5;cases b1 <;> cases b2 <;> cases b3 <;> cases b4 <;> cases b5 <;> simp
   ·cases h
  ·rename_i h2
   rw[if_neg h2]
   split at h
   ·rename_i h3
    injection h with h
    simp only[Prod.mk.injEq]at h;obtain⟨rfl,rfl,rfl,rfl⟩:=h;refine⟨?_,.inr rfl⟩;rw[if_pos h3,hemp f,he1]
    revert hff hee
    generalize decide (f.length=0)=b1;generalize decide (e.length=0)=b2;generalize formF (-1) f=b3;generalize e.all formT=b4;generalize decide (e.length=1)=b5;cases b1 <;> cases b2 <;> cases b3 <;> cases b4 <;> cases b5 <;> simp
   ·rename_i h3
    rw[if_neg h3]
    split at h
    ·rename_i h4
     rw[if_pos h4]
     split at h
     ·rename_i h5
      injection h with h
      simp only[Prod.mk.injEq]at h;obtain⟨rfl,rfl,rfl,rfl⟩:=h;refine⟨?_,.inr rfl⟩;rw[hemp f,he1,decide_eq_true h5.1,decide_eq_true h5.2]
      revert hff hee
      generalize decide (f.length=0)=b1;generalize decide (e.length=0)=b2;generalize formF (-1) f=b3;generalize e.all formT=b4;generalize decide (e.length=1)=b5;cases b1 <;> cases b2 <;> cases b3 <;> cases b4 <;> cases b5 <;> simp
     ·cases h
    ·cases h
def okF (l:List (Int×Ty))(k:Nat):Bool:=match l[k]? with
 |none=>true
 |some f=>decide (0≤f.1) && decide (f.1<65536) && (match k with|0=>true|j+1=>(match l[j]? with|none=>true|some g=>decide (g.1<f.1))) && formT f.2
theorem formF_split:∀(l r:List (Int×Ty)) (p:Int),formF p (l ++ r)=(formF p l && formF ((l.getLast?.map Prod.fst).getD p) r)
 |[],r,p=>by simp[formF]
 | (o,t) :: l,r,p=>by
  rw[List.cons_append,formF,formF,formF_split l r o]
  have:(((o,t) :: l).getLast?.map Prod.fst).getD p=(l.getLast?.map Prod.fst).getD o:=by
   cases l with
   |nil=>rfl
   |cons x l=>
    rw[List.getLast?_cons_cons];obtain⟨y,hy⟩:∃y,(x :: l).getLast? =some y:=⟨_,List.getLast?_eq_some_getLast (by simp)⟩;rw[hy];rfl
  rw[this];simp[Bool.and_assoc]
theorem formF_snoc (l:List (Int×Ty))(k:Nat)(f:Int×Ty)(hk:l[k]? =some f)(h:formF (-1) (l.take k)=true):formF (-1) (l.take (k+1))=okF l k:=by
 rw[take_snoc' hk,formF_split,h,Bool.true_and];unfold okF;rw[hk];obtain⟨o,t⟩:=f
 cases k with
 | zero=>
  simp[formF];by_cases h0:0≤o
  ·have: -1<o:=by omega
   simp[h0,this]
  ·have:¬ -1<o:=by omega
   simp[h0,this]
 | succ j=>
  have hlt:=(List.getElem?_eq_some_iff.1 hk).1;obtain⟨g,hg⟩:∃g,l[j]? =some g:=⟨_,List.getElem?_eq_getElem (by omega)⟩;have hlast:(l.take (j+1)).getLast? =some g:=by rw[take_snoc' hg];simp
  have hgm:0≤g.1:=by
   have:=formF_all h g (List.mem_of_getLast? hlast);omega
  rw[hlast];simp only[hg];simp[formF];by_cases h1:g.1<o
  ·have:0≤o:=by omega
   simp[h1,this]
  ·simp[h1]
theorem formF_no {l:List (Int×Ty)}{k:Nat}{f:Int×Ty}(hk:l[k]? =some f)(h:formF (-1) (l.take k)=true)(ho:okF l k=false):formF (-1) l=false:=by
 have e:=formF_split (l.take (k+1)) (l.drop (k+1)) (-1);rw[List.take_append_drop,formF_snoc l k f hk h,ho,Bool.false_and]at e;exact e
theorem okF_false {l:List (Int×Ty)}{k:Nat}{f:Int×Ty}(hk:l[k]? =some f)(h:f.1<0∨65536≤f.1∨(∃j g,k=j+1∧l[j]? =some g∧f.1≤g.1)∨formT f.2=false):okF l k=false:=by
 unfold okF;rw[hk];rcases h with h|h|⟨j,g,rfl,hg,h⟩|h
 ·simp[show ¬0≤f.1 by omega]
 ·simp[show ¬f.1<65536 by omega]
 ·simp[hg,show ¬g.1<f.1 by omega]
 ·simp[h]
theorem okF_true {l:List (Int×Ty)}{k:Nat}{f:Int×Ty}(hk:l[k]? =some f)(h0:0≤f.1)(h1:f.1<65536)(h2:k=0∨∃j g,k=j+1∧l[j]? =some g∧g.1<f.1):okF l k=formT f.2:=by
 unfold okF;rw[hk];rcases h2 with rfl|⟨j,g,rfl,hg,h⟩
 ·simp[h0,h1]
 ·simp[hg,h0,h1,h]
set_option maxRecDepth 100000 in
set_option maxHeartbeats 8000000 in
theorem formed_any:∀(d:Nat) (w:World) (t:Ty) (v:Value),TyV d w All v t→Calls Tryz.prog 74 #[v] w (TBool w (formT t)):=by
 intro d
 induction d using Nat.strongRecOn with
 | _ d ih =>
  intro w t v hv;obtain⟨A,na,ca,B,nb,cb,rfl,hE,hF,hk,hs,hc⟩:=hv;have hla:=hE.len;have hlb:=hF.len;obtain⟨hac,ham⟩:=hE.cap;obtain⟨hbc,hbm⟩:=hF.cap;obtain⟨z,hz⟩:∃z,formT t=z:=⟨_,rfl⟩;rw[hz];obtain⟨W0,hW0⟩:∃W0,w.alloc (.cells #[.int .i64 t.kind,.int .i64 t.size,.int .i64 t.count,.slice A na ca,.slice B nb cb] 42)=W0:=⟨_,rfl⟩;have hE0:Ext w W0:=by rw[←hW0];exact(Ext.refl w).alloc _
  have hsz0:w.heap.size<W0.heap.size:=by rw[←hW0];simp[go_sem]
  have hne:w.heap.size≠W0.heap.size:=by omega
  have hne':W0.heap.size≠w.heap.size:=by omega
  have o0:W0.cell? ⟨w.heap.size,0,none⟩=some (.int .i64 t.kind):=by rw[←hW0];simp[go_sem]
  have o1:W0.cell? ⟨w.heap.size,1,none⟩=some (.int .i64 t.size):=by rw[←hW0];simp[go_sem]
  have o2:W0.cell? ⟨w.heap.size,2,none⟩=some (.int .i64 t.count):=by rw[←hW0];simp[go_sem]
  have o3:W0.cell? ⟨w.heap.size,3,none⟩=some (.slice A na ca):=by rw[←hW0];simp[go_sem]
  have o4:W0.cell? ⟨w.heap.size,4,none⟩=some (.slice B nb cb):=by rw[←hW0];simp[go_sem]
  have HE:=hid hE;have HF:=hid hF;have HLA:=hid hla;have HLB:=hid hlb;have HE0:=hid hE0;have HIH:=hid ih;have HZ:=hid hz;have HSZ:=hid hsz0;clear hE hF hla hlb hE0 ih hk hs hc hz hsz0;obtain⟨tk,ts,tc,te,tf⟩:=t;simp only[Ty.kind,Ty.size,Ty.count,Ty.elem,Ty.fields]at *;obtain⟨W1,hW1⟩:∃W1,W0.alloc (.cells #[.int .i64 tk,.int .i64 0,.int .i64 0,.slice none 0 0,.slice none 0 0] 42)=W1:=⟨_,rfl⟩;have hE1:Ext W0 W1:=by rw[←hW1];exact(Ext.refl W0).alloc _
  have p1:W1.cell? ⟨W0.heap.size,1,none⟩=some (.int .i64 0):=by rw[←hW1];simp[go_sem]
  have p2:W1.cell? ⟨W0.heap.size,2,none⟩=some (.int .i64 0):=by rw[←hW1];simp[go_sem]
  have f1:W1.frozen? ⟨W0.heap.size,1,none⟩=false:=by rw[←hW1];simp[go_sem]
  have f2:W1.frozen? ⟨W0.heap.size,2,none⟩=false:=by rw[←hW1];simp[go_sem]
  have q1:=o1;have q2:=o2;have q3:=o3;have q4:=o4;have o0:=hE1.cell o0;have o1:=hE1.cell o1;have o2:=hE1.cell o2;have o3:=hE1.cell o3;have o4:=hE1.cell o4;have HE1:=hid hE1;have HW1:=hid hW1;clear hE1 hW1;have HQ:Hid (W0.cell? ⟨w.heap.size,3,none⟩=some (.slice A na ca)∧W0.cell? ⟨w.heap.size,4,none⟩=some (.slice B nb cb)∧W0.cell? ⟨w.heap.size,1,none⟩=some (.int .i64 ts)∧W0.cell? ⟨w.heap.size,2,none⟩=some (.int .i64 tc)):=hid ⟨q3,q4,q1,q2⟩;clear q1 q2 q3 q4
  cases hh:headT (.mk tk ts tc te tf) with
  | none =>
   obtain rfl:z=false:=by rw[←HZ.out];exact form_none hh
   change headK tk ts tc=none at hh;unfold headK at hh;by_cases h1:tk=0∨tk=6∨tk=5
   ·rw[if_pos h1]at hh;cases hh
   ·rw [if_neg h1]at hh;by_cases h2:tk=1∨tk=2
    ·rw[if_pos h2]at hh;by_cases h3:ts=1∨ts=2∨ts=4
     ·rw[if_pos h3]at hh;cases hh
     ·clear hh h1;have n1:(ts != 1)=true:=by simp;omega
      have n2:(ts != 2)=true:=by simp;omega
      have n4:(ts != 4)=true:=by simp;omega
      clear h3;rcases h2 with rfl|rfl
      ·go_enter Tryz.func74,Tryz.ntmps74
       go_wp2_with fail
       rw[HW1.out];refine wp_region_held_drew (S:=(fun w'=>w'.cell? ⟨w.heap.size,0,none⟩=some (.int .i64 1))) (by kernel_rfl) o0 (fun hSg1q0=>?_);refine rgT4 0 1 2 3 ?_;refine rgT 4 ?_;refine wpAnyH_done (by kernel_rfl) ?_ _;clear hW0
       go_wp2
       go_ret;exact⟨rfl,by repeat (first|exact HE0.out.trans HE1.out|refine Ext.setCell ?_ (Nat.le_of_lt HSZ.out) _|refine Ext.drew ?_|refine Ext.alloc ?_ _)⟩
      ·go_enter Tryz.func74,Tryz.ntmps74
       go_wp2_with fail
       rw[HW1.out];refine wp_region_held_drew (S:=(fun w'=>w'.cell? ⟨w.heap.size,0,none⟩=some (.int .i64 2))) (by kernel_rfl) o0 (fun hSg2q0=>?_);refine rgT4 0 1 2 3 ?_;refine rgT 4 ?_;refine wpAnyH_done (by kernel_rfl) ?_ _;clear hW0
       go_wp2
       go_ret;exact⟨rfl,by repeat (first|exact HE0.out.trans HE1.out|refine Ext.setCell ?_ (Nat.le_of_lt HSZ.out) _|refine Ext.drew ?_|refine Ext.alloc ?_ _)⟩
    ·rw [if_neg h2]at hh;by_cases h3:tk=3
     ·rw[if_pos h3]at hh;cases hh
     ·rw [if_neg h3]at hh;by_cases h4:tk=4
      ·rw[if_pos h4]at hh;by_cases h5:1≤tc∧tc≤65536
       ·rw[if_pos h5]at hh;cases hh
       ·clear hh h1 h2 h3;subst h4;by_cases h6:tc<1
        ·go_enter Tryz.func74,Tryz.ntmps74
         go_wp2_with fail
         rw[HW1.out];refine wp_region_held_drew (S:=(fun w'=>w'.cell? ⟨w.heap.size,0,none⟩=some (.int .i64 4))) (by kernel_rfl) o0 (fun hSg3q0=>?_);refine rgT4 0 1 2 3 ?_;refine rgT 4 ?_;refine wpAnyH_done (by kernel_rfl) ?_ _;clear hW0
         go_wp2
         go_ret;exact⟨rfl,by repeat (first|exact HE0.out.trans HE1.out|refine Ext.setCell ?_ (Nat.le_of_lt HSZ.out) _|refine Ext.drew ?_|refine Ext.alloc ?_ _)⟩
        ·have h7:65536<tc:=by omega
         clear h5;go_enter Tryz.func74,Tryz.ntmps74
         go_wp2_with fail
         rw[HW1.out];refine wp_region_held_drew (S:=(fun w'=>w'.cell? ⟨w.heap.size,0,none⟩=some (.int .i64 4))) (by kernel_rfl) o0 (fun hSg4q0=>?_);refine rgT4 0 1 2 3 ?_;refine rgT 4 ?_;refine wpAnyH_done (by kernel_rfl) ?_ _;clear hW0
         go_wp2
         go_ret;exact⟨rfl,by repeat (first|exact HE0.out.trans HE1.out|refine Ext.setCell ?_ (Nat.le_of_lt HSZ.out) _|refine Ext.drew ?_|refine Ext.alloc ?_ _)⟩
      ·clear hh;have n0:(tk == 0)=false:=by simp;omega
       have n1:(tk == 1)=false:=by simp;omega
       have n2:(tk == 2)=false:=by simp;omega
       have n3:(tk == 3)=false:=by simp;omega
       have n4:(tk == 4)=false:=by simp;omega
       have n5:(tk == 5)=false:=by simp;omega
       have n6:(tk == 6)=false:=by simp;omega
       clear h1 h2 h3 h4;go_enter Tryz.func74,Tryz.ntmps74
       go_wp2_with fail
       rw[HW1.out];refine wp_region_held_drew (S:=(fun w'=>w'.cell? ⟨w.heap.size,0,none⟩=some (.int .i64 tk))) (by kernel_rfl) o0 (fun hSg5q0=>?_);refine rgT4 0 1 2 3 ?_;refine rgT 4 ?_;refine wpAnyH_done (by kernel_rfl) ?_ _;clear hW0
       go_wp2
       go_ret;exact⟨rfl,by repeat (first|exact HE0.out.trans HE1.out|refine Ext.setCell ?_ (Nat.le_of_lt HSZ.out) _|refine Ext.drew ?_|refine Ext.alloc ?_ _)⟩
  | some r =>
   obtain⟨el,fl,ps,pc⟩:=r;change headK tk ts tc=some (el,fl,ps,pc) at hh;obtain⟨hz2,hel⟩:=form_some (e:=te) (f:=tf) hh;rw[HZ.out]at hz2;have hk5:(tk == 5)=fl:=head_fl hh;have HZ2:=hid hz2;have HHD:=hid hh;have HEL:=hid hel;clear HZ hz2 hh hel;go_enter Tryz.func74,Tryz.ntmps74
   go_wp2_with fail
   rw[HW1.out];refine wp_region_held_drew (S:=(fun w'=>w'.cell? ⟨w.heap.size,0,none⟩=some (.int .i64 tk))) (by kernel_rfl) o0 (fun hSg6q0=>?_);refine rgT4 0 1 2 3 ?_;refine rgT 4 ?_;refine wpAnyH_done (by kernel_rfl) ?_ _;clear hW0;clear hk5
   go_upto_block 0 with fail
   go_cut [4] from 14 to 53 (fun s4 wx=>s4= .int .i64 el∧Hid (Ext W0 wx∧wx.cell? ⟨W0.heap.size,1,none⟩=some (.int .i64 ps)∧wx.cell? ⟨W0.heap.size,2,none⟩=some (.int .i64 pc)))
   case first=>
    have hh:=HHD.out;unfold headK at hh;by_cases h1:tk=0∨tk=6∨tk=5
    ·rw[if_pos h1]at hh;injection hh with hh
     simp only[Prod.mk.injEq]at hh;obtain⟨rfl, -,rfl,rfl⟩:=hh;clear HHD HZ2 HEL;rcases h1 with rfl|rfl|rfl
     all_goals
      go_wp2
      go_meet;exact⟨rfl,hid ⟨HE1.out.drew,p1,p2⟩⟩
    ·rw [if_neg h1]at hh;by_cases h2:tk=1∨tk=2
     ·rw[if_pos h2]at hh;by_cases h3:ts=1∨ts=2∨ts=4
      ·rw[if_pos h3]at hh;injection hh with hh
       simp only[Prod.mk.injEq]at hh;obtain⟨rfl, -,rfl,rfl⟩:=hh;clear HHD HZ2 HEL h1;rcases h2 with rfl|rfl <;> rcases h3 with rfl|rfl|rfl
       all_goals
        go_wp2
        go_meet;exact⟨rfl,hid ⟨by repeat (first|exact HE1.out|refine Ext.setCell ?_ (Nat.le_refl _) _|refine Ext.drew ?_),by simp[go_sem,p1,p2],by simp[go_sem,p1,p2]⟩⟩
      ·rw[if_neg h3]at hh;cases hh
     ·rw [if_neg h2]at hh;by_cases h3:tk=3
      ·rw[if_pos h3]at hh;injection hh with hh
       simp only[Prod.mk.injEq]at hh;obtain⟨rfl, -,rfl,rfl⟩:=hh;clear HHD HZ2 HEL h1 h2;subst h3
       go_wp2
       go_meet;exact⟨rfl,hid ⟨HE1.out.drew,p1,p2⟩⟩
      ·rw[if_neg h3]at hh;by_cases h4:tk=4
       ·rw[if_pos h4]at hh;by_cases h5:1≤tc∧tc≤65536
        ·rw[if_pos h5]at hh;injection hh with hh
         simp only[Prod.mk.injEq]at hh;obtain⟨rfl, -,rfl,rfl⟩:=hh;obtain⟨h5,h6⟩:=h5;clear HHD HZ2 HEL h1 h2 h3;subst h4
         go_wp2
         go_meet;exact⟨rfl,hid ⟨by repeat (first|exact HE1.out|refine Ext.setCell ?_ (Nat.le_refl _) _|refine Ext.drew ?_),by simp[go_sem,p1,p2],by simp[go_sem,p1,p2]⟩⟩
        ·rw[if_neg h5]at hh;cases hh
       ·rw[if_neg h4]at hh;cases hh
   case rest=>
    obtain⟨rfl,HXP⟩:=hcut;clear o0 o1 o2 o3 o4 p1 p2 f1 f2 HHD;obtain⟨hx0,p1,p2⟩:=HXP.out;have o1:=hx0.cell HQ.out.2.2.1;have o2:=hx0.cell HQ.out.2.2.2;have o3:=hx0.cell HQ.out.1;have o4:=hx0.cell HQ.out.2.1;have HX0:=hid hx0;clear hx0 HXP HE1;by_cases c1:ts=ps
    case neg=>
     have n1:(ts != ps)=true:=by simp[c1]
     obtain rfl:z=false:=by rw[HZ2.out,decide_eq_false c1];rfl
     clear c1
     go_wp2
     go_ret;exact⟨rfl,HE0.out.trans HX0.out⟩
    by_cases c2:tc=pc
    case neg=>
     have n1:(ts != ps)=false:=by simp[c1]
     have n2:(tc != pc)=true:=by simp[c2]
     obtain rfl:z=false:=by rw[HZ2.out,decide_eq_false c2];simp
     clear c1 c2
     go_wp2
     go_ret;exact⟨rfl,HE0.out.trans HX0.out⟩
    by_cases c3:na=el
    case neg=>
     have n1:(ts != ps)=false:=by simp[c1]
     have n2:(tc != pc)=false:=by simp[c2]
     have n3:((na:Int) != (el:Int))=true:=by simp;omega
     obtain rfl:z=false:=by rw[HZ2.out,decide_eq_false (show ¬te.length=el from fun h=>c3 (by have:=HLA.out;omega))];simp
     clear c1 c2 c3
     go_wp2
     go_ret;exact⟨rfl,HE0.out.trans HX0.out⟩
    have n1:(ts != ps)=false:=by simp[c1]
    have n2:(tc != pc)=false:=by simp[c2]
    have n3:((na:Int) != (na:Int))=false:=by simp
    subst c3;by_cases c4:fl=false∧0<nb
    case pos=>
     obtain⟨rfl,c4⟩:=c4;have n4:(nb:Int) > 0:=by omega
     have n5:decide ((nb:Int) > 0)=true:=decide_eq_true n4;obtain rfl:z=false:=by rw[HZ2.out,decide_eq_false (show ¬tf.length=0 by have:=HLB.out;omega)];simp
     clear c1 c2
     go_wp2
     go_ret;exact⟨rfl,HE0.out.trans HX0.out⟩
    have HZ3:Hid ((formF (-1) tf && te.all formT)=z):=hid (by
     rw[HZ2.out,decide_eq_true c1,decide_eq_true c2,decide_eq_true (show te.length=na by have:=HLA.out;omega)]
     have h5:(fl || decide (tf.length=0))=true:=by
      cases fl with
      |true=>rfl
      |false=>
       have:¬0<nb:=fun h=>c4 ⟨rfl,h⟩;simp;have:=HLB.out;exact List.length_eq_zero_iff.1 (by omega)
     rw[h5];simp)
    have n6:fl=true∨nb=0:=by
     cases fl with
     |true=>exact .inl rfl
     |false=>exact .inr (by have:¬0<nb:=fun h=>c4 ⟨rfl,h⟩;omega)
    clear c1 c2 c4 HZ2;go_upto_region 20 with fail
    go_cut [82] from 54 to 82 (fun s82 wx'=>s82= .bool false∧wx'=wc)
    case first=>
     rcases n6 with rfl|rfl
     ·go_wp2
      go_meet;exact⟨rfl,rfl⟩
     ·cases fl
      all_goals
       go_wp2
       go_meet;exact⟨rfl,rfl⟩
    case rest=>
     obtain⟨rfl,rfl⟩:=hcut;clear p1 p2 o1 o2 n1 n2 n3 n6
     go_wp2
     clear o4 o3
     go_loopw [86] (fun i wr=>∃k:Nat,k≤nb∧i= .int .i64 k∧Hid (Ext W0 wr)∧Hid (formF (-1) (tf.take k)=true)) (fun i _=>nb - (intOf i).toNat)
     case atStart=>exact⟨0,by omega,rfl,HX0,hid rfl⟩
     case round=>
      obtain⟨k,hk,rfl,HX,HA⟩:=hrel;by_cases h1:k<nb
      ·obtain⟨x,hx⟩:∃x,tf[k]? =some x:=⟨_,List.getElem?_eq_getElem (by have:=HLB.out;omega)⟩;obtain⟨d',b,off,A1,m1,c1,B1,m2,e1,hd,rfl,hv1, -,c0,c1',c2,c3,c4,c5⟩:=(HF.out.ext (HE0.out.trans HX.out)).fd_at hx;have HC:=hid (fun w' (hw:Ext wr w')=>HIH.out d' (by omega) w' x.2 _ (hv1.ext hw));have HXX:=hid hx;obtain⟨r,hr⟩:∃r,formT x.2=r:=⟨_,rfl⟩;rw[hr]at HC;have HR:=hid hr;obtain⟨W2,hW2⟩:∃W2,wr.alloc (.cells #[.int .i64 x.1,.int .i64 x.2.kind,.int .i64 x.2.size,.int .i64 x.2.count,.slice A1 m1 c1,.slice B1 m2 e1] 59)=W2:=⟨_,rfl⟩;have hE2:Ext wr W2:=by rw[←hW2];exact(Ext.refl _).alloc _
       have p0:W2.cell? ⟨wr.heap.size,0,none⟩=some (.int .i64 x.1):=by rw[←hW2];simp[go_sem]
       have p1:W2.cell? ⟨wr.heap.size,1,none⟩=some (.int .i64 x.2.kind):=by rw[←hW2];simp[go_sem]
       have p2:W2.cell? ⟨wr.heap.size,2,none⟩=some (.int .i64 x.2.size):=by rw[←hW2];simp[go_sem]
       have p3:W2.cell? ⟨wr.heap.size,3,none⟩=some (.int .i64 x.2.count):=by rw[←hW2];simp[go_sem]
       have p4:W2.cell? ⟨wr.heap.size,4,none⟩=some (.slice A1 m1 c1):=by rw[←hW2];simp[go_sem]
       have p5:W2.cell? ⟨wr.heap.size,5,none⟩=some (.slice B1 m2 e1):=by rw[←hW2];simp[go_sem]
       have o4:=(HX.out.trans hE2).cell HQ.out.2.1;have HX2:=hid hE2;have HW2:=hid hW2;have w1:IntKind.i64.wrap ((k:Int)+1)=(k:Int)+1:=IntWalk.i64_in _ (by omega);have HND:Hid (okF tf k=false→formF (-1) tf=false):=hid (formF_no hx HA.out);have HST:Hid (formF (-1) (tf.take (k+1))=okF tf k):=hid (formF_snoc tf k x hx HA.out);clear hd hv1 hx hr hE2 hW2;by_cases g1:x.1<0
       ·have d1:decide (x.1<0)=true:=decide_eq_true g1;have HFL:=hid (HND.out (okF_false HXX.out (.inl g1)))
        go_wp2_with fail
        rw[HW2.out];refine wp_region_held_drew (S:=(fun w'=>w'.cell? ⟨wr.heap.size,0,none⟩=some (.int .i64 x.1))) (by kernel_rfl) p0 (fun hSg7q0=>?_);refine rgT4 0 1 2 3 ?_;refine rgU2 4 5 ?_;refine rgU 6 ?_;refine rgT2 7 8 ?_;refine rgU4 9 10 11 12 ?_;refine rgU4 13 14 15 16 ?_;refine rgU4 17 18 19 20 ?_;refine rgU2 21 22 ?_;refine rgT2 23 24 ?_;refine rgU2 25 26 ?_;refine rgC 27 (fun K hK=>?_);refine cast (if_neg (fun h=>Bool.noConfusion (show false=true from h))).symm ?_;refine rgK hK (by assumption) (fun hSg7q1=>?_);clear hK K;refine rgU 28 ?_;refine rgT 29 ?_;refine wpAnyH_done (by kernel_rfl) ?_ _;obtain rfl:z=false:=by rw[←HZ3.out,HFL.out];rfl
        go_wp2
        go_ret;exact⟨rfl,HE0.out.trans (HX.out.trans HX2.out.drew)⟩
       by_cases g2:65536≤x.1
       ·have d1:decide (x.1<0)=false:=decide_eq_false g1;have d2:decide (x.1≥65536)=true:=decide_eq_true g2;have HFL:=hid (HND.out (okF_false HXX.out (.inr (.inl g2))))
        go_wp2_with fail
        rw[HW2.out];refine wp_region_held_drew (S:=(fun w'=>w'.cell? ⟨wr.heap.size,0,none⟩=some (.int .i64 x.1))) (by kernel_rfl) p0 (fun hSg8q0=>?_);refine rgT6 0 1 2 3 4 5 ?_;refine rgT3 6 7 8 ?_;refine rgU4 9 10 11 12 ?_;refine rgU4 13 14 15 16 ?_;refine rgU4 17 18 19 20 ?_;refine rgU2 21 22 ?_;refine rgT2 23 24 ?_;refine rgU2 25 26 ?_;refine rgC 27 (fun K hK=>?_);refine cast (if_neg (fun h=>Bool.noConfusion (show false=true from h))).symm ?_;refine rgK hK (by assumption) (fun hSg8q1=>?_);clear hK K;refine rgU 28 ?_;refine rgT 29 ?_;refine wpAnyH_done (by kernel_rfl) ?_ _;obtain rfl:z=false:=by rw[←HZ3.out,HFL.out];rfl
        go_wp2
        go_ret;exact⟨rfl,HE0.out.trans (HX.out.trans HX2.out.drew)⟩
       have d1:decide (x.1<0)=false:=decide_eq_false g1;have d2:decide (x.1≥65536)=false:=decide_eq_false g2;by_cases hk0:k=0
       ·have d3:decide ((k:Int) > 0)=false:=decide_eq_false (by omega);have d4:decide ((0:Int)<(k:Int))=false:=decide_eq_false (by omega);have d5:decide (0<k)=false:=decide_eq_false (by omega);have HOK:Hid (okF tf k=r):=hid (by rw[okF_true HXX.out (by omega) (by omega) (.inl hk0),HR.out]);clear hk0 g1 g2
        go_wp2_with fail
        rw[HW2.out];refine wp_region_held_drew (S:=(fun w'=>w'.cell? ⟨wr.heap.size,0,none⟩=some (.int .i64 x.1)∧w'.cell? ⟨wr.heap.size,1,none⟩=some (.int .i64 x.2.kind)∧w'.cell? ⟨wr.heap.size,2,none⟩=some (.int .i64 x.2.size)∧w'.cell? ⟨wr.heap.size,3,none⟩=some (.int .i64 x.2.count)∧w'.cell? ⟨wr.heap.size,4,none⟩=some (.slice A1 m1 c1)∧w'.cell? ⟨wr.heap.size,5,none⟩=some (.slice B1 m2 e1))) (by kernel_rfl) ⟨p0,p1,p2,p3,p4,p5⟩ (fun hSg9q0=>?_);refine rgT6 0 1 2 3 4 5 ?_;refine rgT6 6 7 8 9 10 11 ?_;refine rgU4 12 13 14 15 ?_;refine rgU4 16 17 18 19 ?_;refine rgU2 20 21 ?_;refine rgT4 22 23 24 25 ?_;refine rgT 26 ?_;refine rgC 27 (fun K hK=>?_);go_simp;go_at_call 74;refine(HC.out _ HX2.out.drew).mono ?_;rintro e w5 ⟨rfl,hx5⟩;have HX5:=hid hx5.drew_left;clear hx5;refine rgK hK ⟨HX5.out.cell p0,HX5.out.cell p1,HX5.out.cell p2,HX5.out.cell p3,HX5.out.cell p4,HX5.out.cell p5⟩ (fun hSg9q1=>?_);clear hK K;refine rgT2 28 29 ?_;refine wpAnyH_done (by kernel_rfl) ?_ _
        cases r with
        | true=>
         go_wp2
         go_roundw
         case rel=>
          exact⟨k+1,by omega,by go_num,hid (HX.out.trans (HX2.out.trans HX5.out)),hid (by rw[HST.out,HOK.out])⟩
         case measure=>simp [intOf];omega
        |false=>
         have HFL:=hid (HND.out HOK.out);obtain rfl:z=false:=by rw[←HZ3.out,HFL.out];rfl
         go_wp2
         go_ret;exact⟨rfl,HE0.out.trans (HX.out.trans (HX2.out.trans HX5.out))⟩
       ·obtain⟨j,hj⟩:∃j,k - 1=j:=⟨_,rfl⟩;have hjk:k=j+1:=by omega
        obtain⟨y,hy⟩:∃y,tf[j]? =some y:=⟨_,List.getElem?_eq_getElem (by have:=HLB.out;omega)⟩;obtain⟨-,b',off', -, -, -, -, -, -, -,hbo, -, -,e0, -⟩:=(HF.out.ext (HE0.out.trans (HX.out.trans HX2.out))).fd_at hy;obtain⟨rfl,rfl⟩:b=b'∧off=off':=by simpa using hbo
        have d3:decide ((k:Int) > 0)=true:=decide_eq_true (by omega);have d4:decide ((0:Int)<(k:Int))=true:=decide_eq_true (by omega);have d5:decide (0<k)=true:=decide_eq_true (by omega);have w2:IntKind.i64.wrap ((k:Int) - 1)=(j:Int):=by rw[IntWalk.i64_in _ (by omega)];omega
        have i1:(0:Int)≤(j:Int):=by omega
        have i2:(j:Int)<(nb:Int):=by omega
        have i3:j<nb:=by omega
        have HJK:=hid hjk;have HYY:=hid hy;clear hj hy hjk hbo hk0;by_cases g3:x.1≤y.1
        ·have d6:decide (x.1≤y.1)=true:=decide_eq_true g3;have HFL:=hid (HND.out (okF_false HXX.out (.inr (.inr (.inl ⟨j,y,HJK.out,HYY.out,g3⟩)))));clear g1 g2
         go_wp2_with fail
         rw[HW2.out];refine wp_region_held_drew (S:=(fun w'=>w'.cell? ⟨wr.heap.size,0,none⟩=some (.int .i64 x.1)∧w'.cell? ⟨w.heap.size,4,none⟩=some (.slice (some ⟨b,off,none⟩) nb cb)∧w'.cell? ⟨b,off+j * 6,none⟩=some (.int .i64 y.1))) (by kernel_rfl) ⟨p0,o4,e0⟩ (fun hSg10q0=>?_);refine rgT6 0 1 2 3 4 5 ?_;refine rgT6 6 7 8 9 10 11 ?_;refine rgT6 12 13 14 15 16 17 ?_;refine rgT6 18 19 20 21 22 23 ?_;refine rgT 24 ?_;refine rgU2 25 26 ?_;refine rgC 27 (fun K hK=>?_);refine cast (if_neg (fun h=>Bool.noConfusion (show false=true from h))).symm ?_;refine rgK hK (by assumption) (fun hSg10q1=>?_);clear hK K;refine rgU 28 ?_;refine rgT 29 ?_;refine wpAnyH_done (by kernel_rfl) ?_ _;obtain rfl:z=false:=by rw[←HZ3.out,HFL.out];rfl
         go_wp2
         go_ret;exact⟨rfl,HE0.out.trans (HX.out.trans HX2.out.drew)⟩
        ·have d6:decide (x.1≤y.1)=false:=decide_eq_false g3;have HOK:Hid (okF tf k=r):=hid (by rw[okF_true HXX.out (by omega) (by omega) (.inr ⟨j,y,HJK.out,HYY.out,by omega⟩),HR.out]);clear g1 g2 g3
         go_wp2_with fail
         rw[HW2.out];refine wp_region_held_drew (S:=(fun w'=>w'.cell? ⟨wr.heap.size,0,none⟩=some (.int .i64 x.1)∧w'.cell? ⟨wr.heap.size,1,none⟩=some (.int .i64 x.2.kind)∧w'.cell? ⟨wr.heap.size,2,none⟩=some (.int .i64 x.2.size)∧w'.cell? ⟨wr.heap.size,3,none⟩=some (.int .i64 x.2.count)∧w'.cell? ⟨wr.heap.size,4,none⟩=some (.slice A1 m1 c1)∧w'.cell? ⟨wr.heap.size,5,none⟩=some (.slice B1 m2 e1)∧w'.cell? ⟨w.heap.size,4,none⟩=some (.slice (some ⟨b,off,none⟩) nb cb)∧w'.cell? ⟨b,off+j * 6,none⟩=some (.int .i64 y.1))) (by kernel_rfl) ⟨p0,p1,p2,p3,p4,p5,o4,e0⟩ (fun hSg11q0=>?_);refine rgT6 0 1 2 3 4 5 ?_;refine rgT6 6 7 8 9 10 11 ?_;refine rgT6 12 13 14 15 16 17 ?_;refine rgT6 18 19 20 21 22 23 ?_;refine rgT3 24 25 26 ?_;refine rgC 27 (fun K hK=>?_);go_simp;go_at_call 74;refine(HC.out _ HX2.out.drew).mono ?_;rintro e w5 ⟨rfl,hx5⟩;have HX5:=hid hx5.drew_left;clear hx5;refine rgK hK ⟨HX5.out.cell p0,HX5.out.cell p1,HX5.out.cell p2,HX5.out.cell p3,HX5.out.cell p4,HX5.out.cell p5,HX5.out.cell o4,HX5.out.cell e0⟩ (fun hSg11q1=>?_);clear hK K;refine rgT2 28 29 ?_;refine wpAnyH_done (by kernel_rfl) ?_ _;clear w2
         cases r with
         | true=>
          go_wp2
          go_roundw
          case rel=>
           exact⟨k+1,by omega,by go_num,hid (HX.out.trans (HX2.out.trans HX5.out)),hid (by rw[HST.out,HOK.out])⟩
          case measure=>simp [intOf];omega
         |false=>
          have HFL:=hid (HND.out HOK.out);obtain rfl:z=false:=by rw[←HZ3.out,HFL.out];rfl
          go_wp2
          go_ret;exact⟨rfl,HE0.out.trans (HX.out.trans (HX2.out.trans HX5.out))⟩
      ·obtain rfl:k=nb:=by omega
       have hfull:formF (-1) tf=true:=by have h:=HA.out;rwa [List.take_of_length_le (by have:=HLB.out;omega)]at h
       have HZ4:Hid (te.all formT=z):=hid (by rw[←HZ3.out,hfull];rfl);have o3:=HX.out.cell HQ.out.1;clear hfull;rcases HEL.out with rfl|rfl
       ·obtain rfl:z=true:=by
         rw[←HZ4.out,List.length_eq_zero_iff.1 (show te.length=0 from HLA.out.symm)];rfl
        go_wp2
        go_ret;exact⟨rfl,HE0.out.trans HX.out⟩
       ·obtain⟨x,hx⟩:∃x,te=[x]:=List.length_eq_one_iff.1 (show te.length=1 from HLA.out.symm);obtain⟨d',b,off,A1,m1,c1,B1,m2,e1,hd,rfl,hv1,c0,c1',c2,c3,c4⟩:=(HE.out.ext (HE0.out.trans HX.out)).ty_at (k:=0) (t:=x) (by rw[hx];rfl);simp only[Nat.zero_mul,Nat.add_zero]at c0 c1' c2 c3 c4;have HC:=hid (fun w' (hw:Ext wr w')=>HIH.out d' (by omega) w' x _ (hv1.ext hw));have hr:formT x=z:=by rw[←HZ4.out,hx];simp
        rw[hr]at HC;clear hd hv1 hx hr HZ4 HZ3
        go_wp2_with fail
        refine(HC.out _ (Ext.refl _)).mono ?_;rintro e w5 ⟨rfl,hx5⟩;have HX5:=hid hx5;clear hx5
        go_wp2
        go_ret;exact⟨rfl,HE0.out.trans (HX.out.trans HX5.out)⟩
end Go.Proofs.YtlmipgdnlfjpaaaGreat
namespace Go.Proofs.YtlmipgdnlfjpaaaGreat
open Go.RowKit Go.Deco
set_option linter.unusedSimpArgs false
set_option linter.unusedVariables false
set_option maxRecDepth 100000 in
set_option maxHeartbeats 4000000 in
theorem within_any:∀(d:Nat) (w:World) (t:Ty) (v:Value),TyV d w All v t→formT t=true→Calls Tryz.prog 75 #[v] w (TBool w (wiT t)):=by
 intro d
 induction d using Nat.strongRecOn with
 | _ d ih=>
  intro w t v hv hform;have HSV:=hid (fun W (hW:Ext w W)=>size_any d W t v (hv.ext hW) hform);obtain⟨A,na,ca,B,nb,cb,rfl,hE,hF,hk,hs,hc⟩:=hv;have hla:=hE.len;have hlb:=hF.len;obtain⟨hac,ham⟩:=hE.cap;obtain⟨hbc,hbm⟩:=hF.cap
  have hel:t.elem=[]∨∃x,t.elem=[x]∧formT x=true:=by
   rcases formT_cases hform with(rfl|rfl)|⟨s,hs,(rfl|rfl)⟩|⟨x,rfl,hx⟩|⟨x,m,rfl,hm1,hm2,hx⟩|⟨l,rfl,hl⟩
   ·exact .inl rfl
   ·exact .inl rfl
   ·exact .inl rfl
   ·exact .inl rfl
   ·exact .inr ⟨x,rfl,hx⟩
   ·exact .inr ⟨x,rfl,hx⟩
   ·exact .inl rfl
  have hfl:∀f∈t.fields,formT f.2=true:=by
   rcases formT_cases hform with(rfl|rfl)|⟨s,hs,(rfl|rfl)⟩|⟨x,rfl,hx⟩|⟨x,m,rfl,hm1,hm2,hx⟩|⟨l,rfl,hl⟩
   ·intro f hf;cases hf
   ·intro f hf;cases hf
   ·intro f hf;cases hf
   ·intro f hf;cases hf
   ·intro f hf;cases hf
   ·intro f hf;cases hf
   ·exact fun f hf=>(formF_all hl f hf).2.2
  obtain⟨z,hz⟩:∃z,wiT t=z:=⟨_,rfl⟩;rw[hz];obtain⟨sz,hsz⟩:∃s,szT t=s:=⟨_,rfl⟩;obtain⟨tk,ts,tc,te,tf⟩:=t;rw[wiT,wiE_all,wiF_all,hsz]at hz;rw[hsz]at HSV;simp only[Ty.kind,Ty.size,Ty.count,Ty.elem,Ty.fields]at hz hE hF hla hlb hel hfl HSV ⊢;obtain⟨W0,hW0⟩:∃W0,w.alloc (.cells #[.int .i64 tk,.int .i64 ts,.int .i64 tc,.slice A na ca,.slice B nb cb] 42)=W0:=⟨_,rfl⟩;have hE0:Ext w W0:=by rw[←hW0];exact(Ext.refl w).alloc _
  have o0:W0.cell? ⟨w.heap.size,0,none⟩=some (.int .i64 tk):=by rw[←hW0];simp[go_sem]
  have o1:W0.cell? ⟨w.heap.size,1,none⟩=some (.int .i64 ts):=by rw[←hW0];simp[go_sem]
  have o2:W0.cell? ⟨w.heap.size,2,none⟩=some (.int .i64 tc):=by rw[←hW0];simp[go_sem]
  have o3:W0.cell? ⟨w.heap.size,3,none⟩=some (.slice A na ca):=by rw[←hW0];simp[go_sem]
  have o4:W0.cell? ⟨w.heap.size,4,none⟩=some (.slice B nb cb):=by rw[←hW0];simp[go_sem]
  have HZ:=hid hz;have HE:=hid hE;have HF:=hid hF;have HLA:=hid hla;have HLB:=hid hlb;have HE0:=hid hE0;have HIH:=hid ih;have HEL:=hid hel;have HFL:=hid hfl;clear hz hE hF hla hlb hE0 ih hk hs hc hel hfl hsz hform;by_cases h0:nb≤64
  case neg=>
   have d0:decide ((nb:Int) > 64)=true:=decide_eq_true (by omega);have hgt:(nb:Int) > 64:=by omega
   obtain rfl:z=false:=by rw[←HZ.out,decide_eq_false (show ¬tf.length≤64 by have:=HLB.out;omega)];rfl
   go_enter Tryz.func75,Tryz.ntmps75
   go_wp2
   go_ret;exact⟨rfl,HE0.out⟩
  have d0:decide ((nb:Int) > 64)=false:=decide_eq_false (by omega);have hle:¬(nb:Int) > 64:=by omega
  go_enter Tryz.func75,Tryz.ntmps75
  go_wp2_with fail
  refine(HSV.out _ HE0.out).mono ?_;rintro e w1 ⟨rfl,hx1⟩;have HX1:=hid hx1;clear o0 o1 o2 hle;by_cases h1:sz≤65536
  case neg=>
   have d1:decide (sz > 65536)=true:=decide_eq_true (by omega);have hgt:sz > 65536:=by omega
   obtain rfl:z=false:=by rw[←HZ.out,decide_eq_false h1];simp
   go_wp2
   go_ret;exact⟨rfl,HE0.out.trans HX1.out⟩
  have d1:decide (sz > 65536)=false:=decide_eq_false (by omega);have hle:¬sz > 65536:=by omega
  have HZ2:Hid (((tf.all fun f=>wiT f.2) && te.all wiT)=z):=hid (by rw[←HZ.out,decide_eq_true h1,decide_eq_true (show tf.length≤64 by have:=HLB.out;omega)];simp);have o3:=hx1.cell o3;have o4:=hx1.cell o4;clear hx1 HZ
  go_wp2
  go_loopw [17] (fun i wr=>∃k:Nat,k≤nb∧i= .int .i64 k∧Hid (Ext w1 wr)∧Hid ((tf.take k).all (fun f=>wiT f.2)=true)) (fun i _=>nb - (intOf i).toNat)
  case atStart=>exact⟨0,by omega,rfl,hid (Ext.refl _),hid rfl⟩
  case round=>
   obtain⟨k,hk,rfl,HX,HA⟩:=hrel;by_cases h2:k<nb
   ·obtain⟨x,hx⟩:∃x,tf[k]? =some x:=⟨_,List.getElem?_eq_getElem (by have:=HLB.out;omega)⟩;obtain⟨d',b,off,A1,n1,c1,B1,m1,e1,hd,rfl,hv1, -,c0,c1',c2,c3,c4,c5⟩:=(HF.out.ext (HE0.out.trans (HX1.out.trans HX.out))).fd_at hx;have HC:=hid (fun w' (hw:Ext wr w')=>HIH.out d' (by omega) w' x.2 _ (hv1.ext hw) (HFL.out x (List.mem_of_getElem? hx)));have HXX:=hid hx;clear hd hv1 hx;obtain⟨r,hr⟩:∃r,wiT x.2=r:=⟨_,rfl⟩;rw[hr]at HC;have HR:=hid hr;clear hr
    go_wp2_with fail
    refine(HC.out _ ((Ext.refl _).alloc _)).mono ?_;rintro e w5 ⟨rfl,hx5⟩;have HX5:=hid ((HX.out.alloc _).trans hx5);clear hx5
    cases r with
    |true=>
     go_wp2
     go_roundw
     case rel=>exact⟨k+1,by omega,by go_num,HX5,hid (allT_step HXX.out HR.out HA.out)⟩
     case measure=>simp [intOf];omega
    |false=>
     go_wp2
     go_ret;refine⟨ret_bool ?_,HE0.out.trans (HX1.out.trans HX5.out)⟩;rw[←HZ2.out,allT_hit (p:=fun f:Int×Ty=>wiT f.2) HXX.out HR.out,Bool.false_and]
   ·obtain rfl:k=nb:=by omega
    have hfull:(tf.all fun f=>wiT f.2)=true:=by have h:=HA.out;rwa [List.take_of_length_le (by have:=HLB.out;omega)]at h
    have HZ3:Hid (te.all wiT=z):=hid (by rw[←HZ2.out,hfull];rfl);have o3:=HX.out.cell o3;clear hfull HZ2;rcases HEL.out with he|⟨x,he,hxf⟩
    ·have hna:na=0:=by have:=HLA.out;rw[he]at this;exact this
     subst hna;obtain rfl:z=true:=by rw[←HZ3.out,he];rfl
     clear he
     go_wp2
     go_ret;exact⟨rfl,HE0.out.trans (HX1.out.trans HX.out)⟩
    ·have hna:na=1:=by have:=HLA.out;rw[he]at this;exact this
     subst hna;obtain⟨d',b,off,A1,m1,c1,B1,m2,e1,hd,rfl,hv1,c0,c1',c2,c3,c4⟩:=(HE.out.ext (HE0.out.trans (HX1.out.trans HX.out))).ty_at (k:=0) (t:=x) (by rw[he];rfl);simp only[Nat.zero_mul,Nat.add_zero]at c0 c1' c2 c3 c4;have HC:=hid (fun w' (hw:Ext wr w')=>HIH.out d' (by omega) w' x _ (hv1.ext hw) hxf);have hr:wiT x=z:=by rw[←HZ3.out,he];simp
     rw[hr]at HC;clear hd hv1 he hr HZ3 hxf
     go_wp2_with fail
     refine(HC.out _ (Ext.refl _)).mono ?_;rintro e w5 ⟨rfl,hx5⟩;have HX5:=hid hx5;clear hx5
     go_wp2
     go_ret;exact⟨rfl,HE0.out.trans (HX1.out.trans (HX.out.trans HX5.out))⟩
def TErr (w:World)(n:Nat)(e:Ending)(w':World):Prop:=e= .returned (.int .i64 n)∧Ext w w'
set_option maxRecDepth 100000 in
set_option maxHeartbeats 4000000 in
theorem tcheck_any (d:Nat)(w:World)(t:Ty)(v:Value)(hv:TyV d w All v t):Calls Tryz.prog 47 #[v] w (TErr w (chkT t)):=by
 have HV:=hid hv;obtain⟨A,na,ca,B,nb,cb,rfl, -⟩:=hv;obtain⟨z,hz⟩:∃z,chkT t=z:=⟨_,rfl⟩;rw[hz];have HZ:=hid hz;clear hz;obtain⟨W0,hW0⟩:∃W0,w.alloc (.cells #[.int .i64 t.kind,.int .i64 t.size,.int .i64 t.count,.slice A na ca,.slice B nb cb] 42)=W0:=⟨_,rfl⟩;have hE0:Ext w W0:=by rw[←hW0];exact(Ext.refl w).alloc _
 have o0:W0.cell? ⟨w.heap.size,0,none⟩=some (.int .i64 t.kind):=by rw[←hW0];simp[go_sem]
 have o1:W0.cell? ⟨w.heap.size,1,none⟩=some (.int .i64 t.size):=by rw[←hW0];simp[go_sem]
 have o2:W0.cell? ⟨w.heap.size,2,none⟩=some (.int .i64 t.count):=by rw[←hW0];simp[go_sem]
 have o3:W0.cell? ⟨w.heap.size,3,none⟩=some (.slice A na ca):=by rw[←hW0];simp[go_sem]
 have o4:W0.cell? ⟨w.heap.size,4,none⟩=some (.slice B nb cb):=by rw[←hW0];simp[go_sem]
 have HE0:=hid hE0;clear hE0;obtain⟨r1,hr1⟩:∃r,shalT t 64=r:=⟨_,rfl⟩;have HR1:=hid hr1;have HC1:=hid (shallow_any d _ t _ 64 (HV.out.ext HE0.out) (by omega));rw[show((64:Nat):Int)=64 from rfl,hr1]at HC1;clear hr1;go_enter Tryz.func47,Tryz.ntmps47
 go_wp2_with fail
 refine(HC1.out).mono ?_;rintro e w1 ⟨rfl,hx1⟩;have HX1:=hid (hx1);have o0:=HX1.out.cell o0;have o1:=HX1.out.cell o1;have o2:=HX1.out.cell o2;have o3:=HX1.out.cell o3;have o4:=HX1.out.cell o4;clear hx1 hW0
 cases r1 with
 |false=>
  obtain rfl:z=20:=by rw[←HZ.out];unfold chkT;rw[if_pos HR1.out]
  go_wp2
  go_ret;exact⟨rfl,HE0.out.trans HX1.out⟩
 | true=>
  obtain⟨r2,hr2⟩:∃r,formT t=r:=⟨_,rfl⟩;have HR2:=hid hr2;have HC2:=hid (formed_any d w1 t _ (HV.out.ext (HE0.out.trans HX1.out)));rw[hr2]at HC2;clear hr2
  go_wp2_with fail
  refine(HC2.out).mono ?_;rintro e w2 ⟨rfl,hx2⟩;have HX2:=hid (hx2);have o0:=HX2.out.cell o0;have o1:=HX2.out.cell o1;have o2:=HX2.out.cell o2;have o3:=HX2.out.cell o3;have o4:=HX2.out.cell o4;clear hx2
  cases r2 with
  |false=>
   obtain rfl:z=2:=by rw[←HZ.out];unfold chkT;rw[if_neg (by rw[HR1.out];simp),if_pos HR2.out]
   go_wp2
   go_ret;exact⟨rfl,HE0.out.trans (HX1.out.trans HX2.out)⟩
  | true=>
   obtain⟨r3,hr3⟩:∃r,wiT t=r:=⟨_,rfl⟩;have HR3:=hid hr3;have HC3:=hid (within_any d w2 t _ (HV.out.ext (HE0.out.trans (HX1.out.trans HX2.out))) HR2.out);rw[hr3]at HC3;clear hr3
   go_wp2_with fail
   refine(HC3.out).mono ?_;rintro e w3 ⟨rfl,hx3⟩;have HX3:=hid (hx3);clear hx3
   cases r3 with
   |false=>
    obtain rfl:z=6:=by rw[←HZ.out];unfold chkT;rw[if_neg (by rw[HR1.out];simp),if_neg (by rw[HR2.out];simp),if_pos HR3.out]
    go_wp2
    go_ret;exact⟨rfl,HE0.out.trans (HX1.out.trans (HX2.out.trans HX3.out))⟩
   |true=>
    obtain rfl:z=0:=by rw[←HZ.out];unfold chkT;rw[if_neg (by rw[HR1.out];simp),if_neg (by rw[HR2.out];simp),if_neg (by rw[HR3.out];simp)]
    go_wp2
    go_ret;exact⟨rfl,HE0.out.trans (HX1.out.trans (HX2.out.trans HX3.out))⟩
set_option maxRecDepth 100000 in
set_option maxHeartbeats 1000000 in
theorem good_any (d:Nat)(w:World)(t:Ty)(v:Value)(hv:TyV d w All v t):Calls Tryz.prog 65 #[v] w (TBool w (goodT t)):=by
 have HV:=hid hv;obtain⟨A,na,ca,B,nb,cb,rfl, -⟩:=hv;obtain⟨W0,hW0⟩:∃W0,w.alloc (.cells #[.int .i64 t.kind,.int .i64 t.size,.int .i64 t.count,.slice A na ca,.slice B nb cb] 42)=W0:=⟨_,rfl⟩;have hE0:Ext w W0:=by rw[←hW0];exact(Ext.refl w).alloc _
 have o0:W0.cell? ⟨w.heap.size,0,none⟩=some (.int .i64 t.kind):=by rw[←hW0];simp[go_sem]
 have o1:W0.cell? ⟨w.heap.size,1,none⟩=some (.int .i64 t.size):=by rw[←hW0];simp[go_sem]
 have o2:W0.cell? ⟨w.heap.size,2,none⟩=some (.int .i64 t.count):=by rw[←hW0];simp[go_sem]
 have o3:W0.cell? ⟨w.heap.size,3,none⟩=some (.slice A na ca):=by rw[←hW0];simp[go_sem]
 have o4:W0.cell? ⟨w.heap.size,4,none⟩=some (.slice B nb cb):=by rw[←hW0];simp[go_sem]
 have HE0:=hid hE0;clear hE0;have HC1:=hid (tcheck_any d _ t _ (HV.out.ext HE0.out));unfold goodT;obtain⟨z,hz⟩:∃z,chkT t=z:=⟨_,rfl⟩;rw[hz]at HC1 ⊢;clear hz;go_enter Tryz.func65,Tryz.ntmps65
 go_wp2_with fail
 refine(HC1.out).mono ?_;rintro e w1 ⟨rfl,hx1⟩;have HX1:=hid (HE0.out.trans hx1);clear hx1 hW0;by_cases h:z=0
 ·subst h
  go_wp2
  go_ret;exact⟨rfl,HX1.out⟩
 ·have n1:((z:Int) == 0)=false:=by simp;omega
  have N2:=hid (show decide (z=0)=false from decide_eq_false h)
  go_wp2
  go_ret;exact⟨ret_bool N2.out.symm,HX1.out⟩
end Go.Proofs.YtlmipgdnlfjpaaaGreat
namespace Go.Proofs.YtlmipgdnlfjpaaaGreat
open Go.RowKit Go.Deco
set_option linter.unusedSimpArgs false
set_option linter.unusedVariables false
theorem call_tsame:∀args w,(callFunc 51 args).run Tryz.prog w= .ok (.enter 51 args) w:=fun args w=>callFunc_enter Tryz.func51 (by kernel_rfl) rfl args w
theorem call_tsame1:∀args w,(callFunc 78 args).run Tryz.prog w= .ok (.enter 78 args) w:=fun args w=>callFunc_enter Tryz.func78 (by kernel_rfl) rfl args w
def SameOk (d:Nat):Prop:=∀(w:World) (a b:Ty) (va vb:Value),TyV d w All va a→TyV d w All vb b→Calls Tryz.prog 51 #[va,vb] w (TBool w (sameT a b))
theorem take_eq_end {α:Type}{l m:List α}{n:Nat}(h:l.take n=m.take n)(hl:n=l.length)(hm:n=m.length):l=m:=by
 rwa [List.take_of_length_le (by omega),List.take_of_length_le (by omega)]at h
theorem take_eq_no {α:Type}{l m:List α}{k:Nat}{x y:α}(hx:l[k]? =some x)(hy:m[k]? =some y)(h:x≠y):l≠m:=by
 rintro rfl;rw[hx]at hy;exact h (Option.some.inj hy)
theorem take_eq_step {α:Type}{l m:List α}{k:Nat}{x y:α}(hx:l[k]? =some x)(hy:m[k]? =some y)(h:x=y)(ht:l.take k=m.take k):l.take (k+1)=m.take (k+1):=by
 rw[take_snoc' hx,take_snoc' hy,ht,h]
theorem same_false {a b:Ty}(h:sameT a b=false):a≠b:=fun e=>by rw[(sameT_iff a b).2 e]at h;cases h
theorem sameE_false {l m:List Ty}(h:l≠m):sameE l m=false:=by
 rw[Bool.eq_false_iff];exact fun e=>h ((sameE_iff l m).1 e)
theorem sameF_false {l m:List (Int×Ty)}(h:l≠m):sameF l m=false:=by
 rw[Bool.eq_false_iff];exact fun e=>h ((sameF_iff l m).1 e)
set_option maxRecDepth 100000 in
set_option maxHeartbeats 4000000 in
theorem eqT_any (d:Nat)(ih:∀d',d'<d→SameOk d')(w:World)(A B:Option Addr)(n m c e:Nat)(l r:List Ty)(hl:Sl (tyR d) w All (.slice A n c) l)(hr:Sl (tyR d) w All (.slice B m e) r):
  Calls Tryz.prog 76 #[.slice A n c,.slice B m e,.func (.func 51) #[] #[]] w (TBool w (sameE l r)):=by
 have hg:=call_tsame;have hln:=hl.len;have hrn:=hr.len;obtain⟨hnc,hcm⟩:=hl.cap;obtain⟨hmc,hdm⟩:=hr.cap;obtain⟨z,hz⟩:∃z,sameE l r=z:=⟨_,rfl⟩;rw[hz];have HZ:=hid hz;have HS:=hid hl;have HR:=hid hr;have HLL:=hid hln;have HRL:=hid hrn;have HIH:=hid ih;clear hz hl hr hln hrn ih;by_cases hnm:n=m
 case neg=>
  have hne:((n:Int) != (m:Int))=true:=by simp;omega
  obtain rfl:z=false:=by rw[←HZ.out];exact sameE_false fun h=>hnm (by rw[HLL.out,HRL.out,h])
  go_enter Tryz.func76,Tryz.ntmps76
  go_wp2
  go_ret;exact⟨rfl,Ext.refl w⟩
 subst hnm;have hne:((n:Int) != (n:Int))=false:=by simp
 go_enter Tryz.func76,Tryz.ntmps76
 go_wp2
 go_loopw [17] (fun i wr=>∃k:Nat,k≤n∧i= .int .i64 k∧Hid (Ext w wr)∧Hid (l.take k=r.take k)) (fun i _=>n - (intOf i).toNat)
 case atStart=>exact⟨0,by omega,rfl,hid (Ext.refl w),hid rfl⟩
 case round=>
  obtain⟨k,hk,rfl,HX,HT⟩:=hrel;by_cases h1:k<n
  ·obtain⟨x,hx⟩:∃x,l[k]? =some x:=⟨_,List.getElem?_eq_getElem (by have:=HLL.out;omega)⟩;obtain⟨y,hy⟩:∃y,r[k]? =some y:=⟨_,List.getElem?_eq_getElem (by have:=HRL.out;omega)⟩;obtain⟨d',b,off,A1,n1,c1,B1,m1,e1,hd,rfl,hv1,c0,c1',c2,c3,c4⟩:=(HS.out.ext HX.out).ty_at hx;obtain⟨d2,b2,off2,A2,n2,cc2,B2,m2,e2,hd2,rfl,hv2,y0,y1,y2,y3,y4⟩:=(HR.out.ext HX.out).ty_at hy;obtain rfl:d'=d2:=by omega
   have HC:=hid (fun w' (hw:Ext wr w')=>HIH.out d' (by omega) w' x y _ _ (hv1.ext hw) (hv2.ext hw));have HXX:=hid hx;have HYY:=hid hy;obtain⟨q,hq⟩:∃q,sameT x y=q:=⟨_,rfl⟩;rw[hq]at HC;have HQ:=hid hq;clear hd hd2 hv1 hv2 hx hy hq;obtain⟨W1,hW1⟩:∃W1,wr.alloc (.cells #[.int .i64 x.kind,.int .i64 x.size,.int .i64 x.count,.slice A1 n1 c1,.slice B1 m1 e1] 42)=W1:=⟨_,rfl⟩;have hE1:Ext wr W1:=by rw[←hW1];exact(Ext.refl wr).alloc _
   have y0:=hE1.cell y0;have y1:=hE1.cell y1;have y2:=hE1.cell y2;have y3:=hE1.cell y3;have y4:=hE1.cell y4;have x0:W1.cell? ⟨wr.heap.size,0,none⟩=some (.int .i64 x.kind):=by rw[←hW1];simp[go_sem]
   have x1:W1.cell? ⟨wr.heap.size,1,none⟩=some (.int .i64 x.size):=by rw[←hW1];simp[go_sem]
   have x2:W1.cell? ⟨wr.heap.size,2,none⟩=some (.int .i64 x.count):=by rw[←hW1];simp[go_sem]
   have x3:W1.cell? ⟨wr.heap.size,3,none⟩=some (.slice A1 n1 c1):=by rw[←hW1];simp[go_sem]
   have x4:W1.cell? ⟨wr.heap.size,4,none⟩=some (.slice B1 m1 e1):=by rw[←hW1];simp[go_sem]
   obtain⟨W2,hW2⟩:∃W2,W1.alloc (.cells #[.int .i64 y.kind,.int .i64 y.size,.int .i64 y.count,.slice A2 n2 cc2,.slice B2 m2 e2] 42)=W2:=⟨_,rfl⟩;have hE2:Ext W1 W2:=by rw[←hW2];exact(Ext.refl W1).alloc _
   have z0:=hE2.cell x0;have z1:=hE2.cell x1;have z2:=hE2.cell x2;have z3:=hE2.cell x3;have z4:=hE2.cell x4;have b0:W2.cell? ⟨W1.heap.size,0,none⟩=some (.int .i64 y.kind):=by rw[←hW2];simp[go_sem]
   have b1:W2.cell? ⟨W1.heap.size,1,none⟩=some (.int .i64 y.size):=by rw[←hW2];simp[go_sem]
   have b2':W2.cell? ⟨W1.heap.size,2,none⟩=some (.int .i64 y.count):=by rw[←hW2];simp[go_sem]
   have b3:W2.cell? ⟨W1.heap.size,3,none⟩=some (.slice A2 n2 cc2):=by rw[←hW2];simp[go_sem]
   have b4:W2.cell? ⟨W1.heap.size,4,none⟩=some (.slice B2 m2 e2):=by rw[←hW2];simp[go_sem]
   have HE1:=hid hE1;have HE2:=hid hE2;clear hE1 hE2
   go_wp2_with fail
   clear hW1 hW2 c0 c1' c2 c3 c4;refine(HC.out _ (HE1.out.trans HE2.out)).mono ?_;rintro e w5 ⟨rfl,hx5⟩;have HX5:=hid (HX.out.trans ((HE1.out.trans HE2.out).trans hx5));clear hx5 x0 x1 x2 x3 x4 y0 y1 y2 y3 y4 z0 z1 z2 z3 z4 b0 b1 b2' b3 b4
   cases q with
   |true=>
    go_wp2
    go_roundw
    case rel=>exact⟨k+1,by omega,by go_num,HX5,hid (take_eq_step HXX.out HYY.out ((sameT_iff x y).1 HQ.out) HT.out)⟩
    case measure=>simp [intOf];omega
   |false=>
    obtain rfl:z=false:=by rw[←HZ.out];exact sameE_false (take_eq_no HXX.out HYY.out (same_false HQ.out))
    go_wp2
    go_ret;exact⟨rfl,HX5.out⟩
  ·obtain rfl:k=n:=by omega
   obtain rfl:z=true:=by
    rw[←HZ.out];exact(sameE_iff l r).2 (take_eq_end HT.out HLL.out HRL.out)
   go_wp2
   go_ret;exact⟨rfl,HX.out⟩
theorem same1_iff {x y:Int×Ty}:(decide (x.1=y.1) && sameT x.2 y.2)=true↔x=y:=by
 rw[Bool.and_eq_true,decide_eq_true_eq,sameT_iff,Prod.ext_iff]
set_option maxRecDepth 100000 in
set_option maxHeartbeats 4000000 in
theorem same1_any (d:Nat)(ih:SameOk d)(w:World)(x y:Int×Ty)(va vb:Value)(ha:FdV d w All va x)(hb:FdV d w All vb y):
  Calls Tryz.prog 78 #[va,vb] w (TBool w (decide (x.1=y.1) && sameT x.2 y.2)):=by
 obtain⟨A1,n1,c1,B1,m1,e1,rfl,hi1,hv1⟩:=ha;obtain⟨A2,n2,c2,B2,m2,e2,rfl,hi2,hv2⟩:=hb;obtain⟨z,hz⟩:∃z,(decide (x.1=y.1) && sameT x.2 y.2)=z:=⟨_,rfl⟩;rw[hz];have HZ:=hid hz;have HC:=hid (fun w' (hw:Ext w w')=>ih w' x.2 y.2 _ _ (hv1.ext hw) (hv2.ext hw));clear hz hi1 hi2 hv1 hv2;obtain⟨xo,xt⟩:=x;obtain⟨yo,yt⟩:=y;simp only at HZ HC ⊢;obtain⟨W0,hW0⟩:∃W0,(w.alloc (.cells #[.int .i64 xo,.int .i64 xt.kind,.int .i64 xt.size,.int .i64 xt.count,.slice A1 n1 c1,.slice B1 m1 e1] 59)).alloc (.cells #[.int .i64 yo,.int .i64 yt.kind,.int .i64 yt.size,.int .i64 yt.count,.slice A2 n2 c2,.slice B2 m2 e2] 59)=W0:=⟨_,rfl⟩;have hE0:Ext w W0:=by rw[←hW0];exact((Ext.refl w).alloc _).alloc _
 have HE0:=hid hE0;have a0:W0.cell? ⟨w.heap.size,0,none⟩=some (.int .i64 xo):=by rw[←hW0];simp[go_sem]
 have a1:W0.cell? ⟨w.heap.size,1,none⟩=some (.int .i64 xt.kind):=by rw[←hW0];simp[go_sem]
 have a2:W0.cell? ⟨w.heap.size,2,none⟩=some (.int .i64 xt.size):=by rw[←hW0];simp[go_sem]
 have a3:W0.cell? ⟨w.heap.size,3,none⟩=some (.int .i64 xt.count):=by rw[←hW0];simp[go_sem]
 have a4:W0.cell? ⟨w.heap.size,4,none⟩=some (.slice A1 n1 c1):=by rw[←hW0];simp[go_sem]
 have a5:W0.cell? ⟨w.heap.size,5,none⟩=some (.slice B1 m1 e1):=by rw[←hW0];simp[go_sem]
 have b0:W0.cell? ⟨w.heap.size+1,0,none⟩=some (.int .i64 yo):=by rw[←hW0];simp[go_sem]
 have b1:W0.cell? ⟨w.heap.size+1,1,none⟩=some (.int .i64 yt.kind):=by rw[←hW0];simp[go_sem]
 have b2:W0.cell? ⟨w.heap.size+1,2,none⟩=some (.int .i64 yt.size):=by rw[←hW0];simp[go_sem]
 have b3:W0.cell? ⟨w.heap.size+1,3,none⟩=some (.int .i64 yt.count):=by rw[←hW0];simp[go_sem]
 have b4:W0.cell? ⟨w.heap.size+1,4,none⟩=some (.slice A2 n2 c2):=by rw[←hW0];simp[go_sem]
 have b5:W0.cell? ⟨w.heap.size+1,5,none⟩=some (.slice B2 m2 e2):=by rw[←hW0];simp[go_sem]
 clear hE0;by_cases h:xo=yo
 ·subst h;obtain⟨q,hq⟩:∃q,sameT xt yt=q:=⟨_,rfl⟩;rw[hq]at HC;obtain rfl:z=q:=by rw[←HZ.out,hq];simp
  clear hq;go_enter Tryz.func78,Tryz.ntmps78
  go_wp2_with fail
  refine(HC.out _ HE0.out).mono ?_;rintro e w5 ⟨rfl,hx5⟩;have HX5:=hid (HE0.out.trans hx5);clear hx5 hW0
  go_wp2
  go_ret;exact⟨rfl,HX5.out⟩
 ·have n1:(xo == yo)=false:=by simp[h]
  obtain rfl:z=false:=by rw[←HZ.out,decide_eq_false h];rfl
  clear h;go_enter Tryz.func78,Tryz.ntmps78
  go_wp2
  go_ret;exact⟨rfl,HE0.out⟩
set_option maxRecDepth 100000 in
set_option maxHeartbeats 4000000 in
theorem eqF_any (d:Nat)(ih:∀d',d'<d→SameOk d')(w:World)(A B:Option Addr)(n m c e:Nat)(l r:List (Int×Ty))(hl:Sl (fdR (tyR d)) w All (.slice A n c) l)(hr:Sl (fdR (tyR d)) w All (.slice B m e) r):
  Calls Tryz.prog 77 #[.slice A n c,.slice B m e,.func (.func 78) #[] #[]] w (TBool w (sameF l r)):=by
 have hg:=call_tsame1;have hln:=hl.len;have hrn:=hr.len;obtain⟨hnc,hcm⟩:=hl.cap;obtain⟨hmc,hdm⟩:=hr.cap;obtain⟨z,hz⟩:∃z,sameF l r=z:=⟨_,rfl⟩;rw[hz];have HZ:=hid hz;have HS:=hid hl;have HR:=hid hr;have HLL:=hid hln;have HRL:=hid hrn;have HIH:=hid ih;clear hz hl hr hln hrn ih;by_cases hnm:n=m
 case neg=>
  have hne:((n:Int) != (m:Int))=true:=by simp;omega
  obtain rfl:z=false:=by rw[←HZ.out];exact sameF_false fun h=>hnm (by rw[HLL.out,HRL.out,h])
  go_enter Tryz.func77,Tryz.ntmps77
  go_wp2
  go_ret;exact⟨rfl,Ext.refl w⟩
 subst hnm;have hne:((n:Int) != (n:Int))=false:=by simp
 go_enter Tryz.func77,Tryz.ntmps77
 go_wp2
 go_loopw [17] (fun i wr=>∃k:Nat,k≤n∧i= .int .i64 k∧Hid (Ext w wr)∧Hid (l.take k=r.take k)) (fun i _=>n - (intOf i).toNat)
 case atStart=>exact⟨0,by omega,rfl,hid (Ext.refl w),hid rfl⟩
 case round=>
  obtain⟨k,hk,rfl,HX,HT⟩:=hrel;by_cases h1:k<n
  ·obtain⟨x,hx⟩:∃x,l[k]? =some x:=⟨_,List.getElem?_eq_getElem (by have:=HLL.out;omega)⟩;obtain⟨y,hy⟩:∃y,r[k]? =some y:=⟨_,List.getElem?_eq_getElem (by have:=HRL.out;omega)⟩;obtain⟨d',b,off,A1,n1,c1,B1,m1,e1,hd,rfl,hv1,hi1,c0,c1',c2,c3,c4,c5⟩:=(HS.out.ext HX.out).fd_at hx;obtain⟨d2,b2,off2,A2,n2,cc2,B2,m2,e2,hd2,rfl,hv2,hi2,y0,y1,y2,y3,y4,y5⟩:=(HR.out.ext HX.out).fd_at hy;obtain rfl:d'=d2:=by omega
   have HC:=hid (fun w' (hw:Ext wr w')=>same1_any d' (HIH.out d' (by omega)) w' x y _ _ ⟨A1,n1,c1,B1,m1,e1,rfl,hi1,hv1.ext hw⟩ ⟨A2,n2,cc2,B2,m2,e2,rfl,hi2,hv2.ext hw⟩);have HXX:=hid hx;have HYY:=hid hy;obtain⟨q,hq⟩:∃q,(decide (x.1=y.1) && sameT x.2 y.2)=q:=⟨_,rfl⟩;rw[hq]at HC;have HQ:=hid hq;clear hd hd2 hv1 hv2 hx hy hq hi1 hi2;obtain⟨W1,hW1⟩:∃W1,wr.alloc (.cells #[.int .i64 x.1,.int .i64 x.2.kind,.int .i64 x.2.size,.int .i64 x.2.count,.slice A1 n1 c1,.slice B1 m1 e1] 59)=W1:=⟨_,rfl⟩;have hE1:Ext wr W1:=by rw[←hW1];exact(Ext.refl wr).alloc _
   have y0:=hE1.cell y0;have y1:=hE1.cell y1;have y2:=hE1.cell y2;have y3:=hE1.cell y3;have y4:=hE1.cell y4;have y5:=hE1.cell y5;have x0:W1.cell? ⟨wr.heap.size,0,none⟩=some (.int .i64 x.1):=by rw[←hW1];simp[go_sem]
   have x1:W1.cell? ⟨wr.heap.size,1,none⟩=some (.int .i64 x.2.kind):=by rw[←hW1];simp[go_sem]
   have x2:W1.cell? ⟨wr.heap.size,2,none⟩=some (.int .i64 x.2.size):=by rw[←hW1];simp[go_sem]
   have x3:W1.cell? ⟨wr.heap.size,3,none⟩=some (.int .i64 x.2.count):=by rw[←hW1];simp[go_sem]
   have x4:W1.cell? ⟨wr.heap.size,4,none⟩=some (.slice A1 n1 c1):=by rw[←hW1];simp[go_sem]
   have x5:W1.cell? ⟨wr.heap.size,5,none⟩=some (.slice B1 m1 e1):=by rw[←hW1];simp[go_sem]
   obtain⟨W2,hW2⟩:∃W2,W1.alloc (.cells #[.int .i64 y.1,.int .i64 y.2.kind,.int .i64 y.2.size,.int .i64 y.2.count,.slice A2 n2 cc2,.slice B2 m2 e2] 59)=W2:=⟨_,rfl⟩;have hE2:Ext W1 W2:=by rw[←hW2];exact(Ext.refl W1).alloc _
   have z0:=hE2.cell x0;have z1:=hE2.cell x1;have z2:=hE2.cell x2;have z3:=hE2.cell x3;have z4:=hE2.cell x4;have z5:=hE2.cell x5;have b0:W2.cell? ⟨W1.heap.size,0,none⟩=some (.int .i64 y.1):=by rw[←hW2];simp[go_sem]
   have b1:W2.cell? ⟨W1.heap.size,1,none⟩=some (.int .i64 y.2.kind):=by rw[←hW2];simp[go_sem]
   have b2':W2.cell? ⟨W1.heap.size,2,none⟩=some (.int .i64 y.2.size):=by rw[←hW2];simp[go_sem]
   have b3:W2.cell? ⟨W1.heap.size,3,none⟩=some (.int .i64 y.2.count):=by rw[←hW2];simp[go_sem]
   have b4:W2.cell? ⟨W1.heap.size,4,none⟩=some (.slice A2 n2 cc2):=by rw[←hW2];simp[go_sem]
   have b5:W2.cell? ⟨W1.heap.size,5,none⟩=some (.slice B2 m2 e2):=by rw[←hW2];simp[go_sem]
   have HE1:=hid hE1;have HE2:=hid hE2;clear hE1 hE2
   go_wp2_with fail
   clear hW1 hW2 c0 c1' c2 c3 c4 c5;refine(HC.out _ (HE1.out.trans HE2.out)).mono ?_;rintro e w5 ⟨rfl,hx5⟩;have HX5:=hid (HX.out.trans ((HE1.out.trans HE2.out).trans hx5));clear hx5 x0 x1 x2 x3 x4 x5 y0 y1 y2 y3 y4 y5 z0 z1 z2 z3 z4 z5 b0 b1 b2' b3 b4 b5
   cases q with
   |true=>
    go_wp2
    go_roundw
    case rel=>exact⟨k+1,by omega,by go_num,HX5,hid (take_eq_step HXX.out HYY.out (same1_iff.1 HQ.out) HT.out)⟩
    case measure=>simp [intOf];omega
   |false=>
    obtain rfl:z=false:=by rw[←HZ.out];exact sameF_false (take_eq_no HXX.out HYY.out (fun e=>by rw[same1_iff.2 e]at HQ;cases HQ.out))
    go_wp2
    go_ret;exact⟨rfl,HX5.out⟩
  ·obtain rfl:k=n:=by omega
   obtain rfl:z=true:=by
    rw[←HZ.out];exact(sameF_iff l r).2 (take_eq_end HT.out HLL.out HRL.out)
   go_wp2
   go_ret;exact⟨rfl,HX.out⟩
set_option maxRecDepth 100000 in
set_option maxHeartbeats 4000000 in
theorem same_any:∀d,SameOk d:=by
 intro d
 induction d using Nat.strongRecOn with
 | _ d ih=>
  intro w a b va vb ha hb;obtain⟨A1,n1,c1,B1,m1,e1,rfl,hE1,hF1, -⟩:=ha;obtain⟨A2,n2,c2,B2,m2,e2,rfl,hE2,hF2, -⟩:=hb;obtain⟨z,hz⟩:∃z,sameT a b=z:=⟨_,rfl⟩;rw[hz];have HZ:=hid hz;have HC1:=hid (fun w' (hw:Ext w w')=>eqT_any d ih w' A1 A2 n1 n2 c1 c2 _ _ (hE1.ext hw) (hE2.ext hw));have HC2:=hid (fun w' (hw:Ext w w')=>eqF_any d ih w' B1 B2 m1 m2 e1 e2 _ _ (hF1.ext hw) (hF2.ext hw));clear hz hE1 hF1 hE2 hF2 ih;obtain⟨k,s,c,e,f⟩:=a;obtain⟨k',s',c',e',f'⟩:=b;simp only[Ty.kind,Ty.size,Ty.count,Ty.elem,Ty.fields]at HC1 HC2 ⊢;rw[sameT]at HZ;obtain⟨W0,hW0⟩:∃W0,(w.alloc (.cells #[.int .i64 k,.int .i64 s,.int .i64 c,.slice A1 n1 c1,.slice B1 m1 e1] 42)).alloc (.cells #[.int .i64 k',.int .i64 s',.int .i64 c',.slice A2 n2 c2,.slice B2 m2 e2] 42)=W0:=⟨_,rfl⟩;have hE0:Ext w W0:=by rw[←hW0];exact((Ext.refl w).alloc _).alloc _
  have HE0:=hid hE0;have a0:W0.cell? ⟨w.heap.size,0,none⟩=some (.int .i64 k):=by rw[←hW0];simp[go_sem]
  have a1:W0.cell? ⟨w.heap.size,1,none⟩=some (.int .i64 s):=by rw[←hW0];simp[go_sem]
  have a2:W0.cell? ⟨w.heap.size,2,none⟩=some (.int .i64 c):=by rw[←hW0];simp[go_sem]
  have a3:W0.cell? ⟨w.heap.size,3,none⟩=some (.slice A1 n1 c1):=by rw[←hW0];simp[go_sem]
  have b0:W0.cell? ⟨w.heap.size+1,0,none⟩=some (.int .i64 k'):=by rw[←hW0];simp[go_sem]
  have b1:W0.cell? ⟨w.heap.size+1,1,none⟩=some (.int .i64 s'):=by rw[←hW0];simp[go_sem]
  have b2:W0.cell? ⟨w.heap.size+1,2,none⟩=some (.int .i64 c'):=by rw[←hW0];simp[go_sem]
  have b3:W0.cell? ⟨w.heap.size+1,3,none⟩=some (.slice A2 n2 c2):=by rw[←hW0];simp[go_sem]
  have a4:W0.cell? ⟨w.heap.size,4,none⟩=some (.slice B1 m1 e1):=by rw[←hW0];simp[go_sem]
  have b4:W0.cell? ⟨w.heap.size+1,4,none⟩=some (.slice B2 m2 e2):=by rw[←hW0];simp[go_sem]
  clear hE0;by_cases h1:k=k'
  case neg=>
   have g1:(k == k')=false:=by simp[h1]
   obtain rfl:z=false:=by rw[←HZ.out,decide_eq_false h1];rfl
   clear h1;go_enter Tryz.func51,Tryz.ntmps51
   go_wp2
   go_ret;exact⟨rfl,HE0.out⟩
  subst h1;by_cases h2:s=s'
  case neg=>
   have g1:(s == s')=false:=by simp[h2]
   obtain rfl:z=false:=by rw[←HZ.out,decide_eq_false h2];simp
   clear h2;go_enter Tryz.func51,Tryz.ntmps51
   go_wp2
   go_ret;exact⟨rfl,HE0.out⟩
  subst h2;by_cases h3:c=c'
  case neg=>
   have g1:(c == c')=false:=by simp[h3]
   obtain rfl:z=false:=by rw[←HZ.out,decide_eq_false h3];simp
   clear h3;go_enter Tryz.func51,Tryz.ntmps51
   go_wp2
   go_ret;exact⟨rfl,HE0.out⟩
  subst h3;obtain⟨q1,hq1⟩:∃q,sameE e e'=q:=⟨_,rfl⟩;obtain⟨q2,hq2⟩:∃q,sameF f f'=q:=⟨_,rfl⟩;rw[hq1]at HC1 HZ;rw[hq2]at HC2 HZ;have HZ2:Hid ((q1 && q2)=z):=hid (by rw[←HZ.out];simp);clear hq1 hq2 HZ;go_enter Tryz.func51,Tryz.ntmps51
  go_wp2_with fail
  refine(HC1.out _ HE0.out).mono ?_;rintro e5 w5 ⟨rfl,hx5⟩;have HX5:=hid (HE0.out.trans hx5);have a4:=hx5.cell a4;have b4:=hx5.cell b4;clear hx5 hW0
  cases q1 with
  |false=>
   obtain rfl:z=false:=by rw[←HZ2.out];rfl
   go_wp2
   go_ret;exact⟨rfl,HX5.out⟩
  |true=>
   obtain rfl:z=q2:=by rw[←HZ2.out];rfl
   go_wp2_with fail
   refine(HC2.out _ HX5.out).mono ?_;rintro e6 w6 ⟨rfl,hx6⟩;have HX6:=hid (HX5.out.trans hx6);clear hx6
   go_wp2
   go_ret;exact⟨rfl,HX6.out⟩
end Go.Proofs.YtlmipgdnlfjpaaaGreat
namespace Go.Proofs.YtlmipgdnlfjpaaaGreat
open Go.RowKit Go.Deco
set_option linter.unusedSimpArgs false
set_option linter.unusedVariables false
set_option maxRecDepth 100000 in
set_option maxHeartbeats 4000000 in
theorem deep_any:∀(d:Nat) (w:World) (t:Ty) (v:Value) (n:Nat),TyV d w All v t→n≤64→Calls Tryz.prog 85 #[v,.int .i64 n] w (TBool w (!shalT t n)):=by
 intro d
 induction d using Nat.strongRecOn with
 | _ d ih=>
  intro w t v n hv hn;obtain⟨A,na,ca,B,nb,cb,rfl,hE,hF,hk,hs,hc⟩:=hv;have hla:=hE.len;have hlb:=hF.len;obtain⟨hac,ham⟩:=hE.cap;obtain⟨hbc,hbm⟩:=hF.cap;obtain⟨z,hz⟩:∃z,shalT t n=z:=⟨_,rfl⟩;rw[hz];rw[shalT_eq]at hz;obtain⟨tk,ts,tc,te,tf⟩:=t;simp only[Ty.kind,Ty.size,Ty.count,Ty.elem,Ty.fields]at hz hE hF hla hlb ⊢;obtain⟨W0,hW0⟩:∃W0,w.alloc (.cells #[.int .i64 tk,.int .i64 ts,.int .i64 tc,.slice A na ca,.slice B nb cb] 42)=W0:=⟨_,rfl⟩;have hE0:Ext w W0:=by rw[←hW0];exact(Ext.refl w).alloc _
  have o3:W0.cell? ⟨w.heap.size,3,none⟩=some (.slice A na ca):=by rw[←hW0];simp[go_sem]
  have o4:W0.cell? ⟨w.heap.size,4,none⟩=some (.slice B nb cb):=by rw[←hW0];simp[go_sem]
  have HZ:=hid hz;have HE:=hid hE;have HF:=hid hF;have HLA:=hid hla;have HLB:=hid hlb;have HE0:=hid hE0;have HIH:=hid ih;clear hz hE hF hla hlb hE0 ih hk hs hc;by_cases h0:n=0
  ·subst h0;obtain rfl:z=false:=HZ.out.symm;go_enter Tryz.func85,Tryz.ntmps85
   go_wp2
   go_ret;exact⟨rfl,HE0.out⟩
  ·obtain⟨n',hn'⟩:∃n',n - 1=n':=⟨_,rfl⟩;have hn64:n'≤64:=by omega
   have w1:IntKind.i64.wrap ((n:Int) - 1)=(n':Int):=by rw[IntWalk.i64_in _ (by omega)];omega
   have HZ2:Hid ((te.all (fun x=>shalT x n') && tf.all (fun f=>shalT f.2 n'))=z):=hid (by
    have h:=HZ.out;rw[decide_eq_true (by omega),Bool.true_and]at h;have e:(n:Int) - 1=n':=by omega
    rw[e]at h;exact h)
   have h01:1≤n:=by omega
   clear HZ hn' h0;go_enter Tryz.func85,Tryz.ntmps85
   go_wp2
   go_loopw [5] (fun i wr=>∃k:Nat,k≤na∧i= .int .i64 k∧Hid (Ext W0 wr)∧Hid ((te.take k).all (fun x=>shalT x n')=true)) (fun i _=>na - (intOf i).toNat)
   case atStart=>exact⟨0,by omega,rfl,hid (Ext.refl _),hid rfl⟩
   case round=>
    obtain⟨k,hk,rfl,HX,HA⟩:=hrel;have o3:=HX.out.cell o3;by_cases h1:k<na
    ·obtain⟨x,hx⟩:∃x,te[k]? =some x:=⟨_,List.getElem?_eq_getElem (by have:=HLA.out;omega)⟩;obtain⟨d',b,off,A1,n1,c1,B1,m1,e1,hd,rfl,hv1,c0,c1',c2,c3,c4⟩:=(HE.out.ext (HE0.out.trans HX.out)).ty_at hx;have HC:=hid (fun w' (hw:Ext wr w')=>HIH.out d' (by omega) w' x _ n' (hv1.ext hw) (by omega));have HXX:=hid hx;clear hd hv1 hx;obtain⟨r,hr⟩:∃r,shalT x n'=r:=⟨_,rfl⟩;rw[hr]at HC;have HR:=hid hr;clear hr
     go_wp2_with fail
     refine(HC.out _ (Ext.refl _)).mono ?_;rintro e w5 ⟨rfl,hx5⟩;have HX5:=hid (HX.out.trans hx5);clear hx5 c0 c1' c2 c3 c4 o3
     cases r with
     |true=>
      go_wp2
      go_roundw
      case rel=>exact⟨k+1,by omega,by go_num,HX5,hid (allT_step HXX.out HR.out HA.out)⟩
      case measure=>simp [intOf];omega
     |false=>
      go_wp2
      go_ret;refine⟨ret_bool ?_,HE0.out.trans HX5.out⟩;rw[←HZ2.out,allT_hit HXX.out HR.out,Bool.false_and];rfl
    ·obtain rfl:k=na:=by omega
     have HA2:Hid (te.all (fun x=>shalT x n')=true):=hid (by have h:=HA.out;rwa [List.take_of_length_le (by have:=HLA.out;omega)]at h);have HO4:=hid o4;clear HA
     go_wp2
     clear o3
     go_loopw [6] (fun i wr=>∃k:Nat,k≤nb∧i= .int .i64 k∧Hid (Ext W0 wr)∧Hid ((tf.take k).all (fun f=>shalT f.2 n')=true)) (fun i _=>nb - (intOf i).toNat)
     case atStart=>exact⟨0,by omega,rfl,HX,hid rfl⟩
     case round=>
      obtain⟨j,hj,rfl,HX2,HB⟩:=hrel;have o4:=HX2.out.cell HO4.out;by_cases h2:j<nb
      ·obtain⟨x,hx⟩:∃x,tf[j]? =some x:=⟨_,List.getElem?_eq_getElem (by have:=HLB.out;omega)⟩;obtain⟨d',b,off,A1,n1,c1,B1,m1,e1,hd,rfl,hv1, -,c0,c1',c2,c3,c4,c5⟩:=(HF.out.ext (HE0.out.trans HX2.out)).fd_at hx;have HC:=hid (fun w' (hw:Ext wr w')=>HIH.out d' (by omega) w' x.2 _ n' (hv1.ext hw) (by omega));have HXX:=hid hx;clear hd hv1 hx;obtain⟨r,hr⟩:∃r,shalT x.2 n'=r:=⟨_,rfl⟩;rw[hr]at HC;have HR:=hid hr;clear hr
       go_wp2_with fail
       refine(HC.out _ (Ext.refl _)).mono ?_;rintro e w5 ⟨rfl,hx5⟩;have HX5:=hid (HX2.out.trans hx5);clear hx5 c0 c1' c2 c3 c4 c5 o4
       cases r with
       |true=>
        go_wp2
        go_roundw
        case rel=>exact⟨j+1,by omega,by go_num,HX5,hid (allT_step HXX.out HR.out HB.out)⟩
        case measure=>simp [intOf];omega
       |false=>
        go_wp2
        go_ret;refine⟨ret_bool ?_,HE0.out.trans HX5.out⟩;rw[←HZ2.out,allT_hit (p:=fun f:Int×Ty=>shalT f.2 n') HXX.out HR.out,Bool.and_false];rfl
      ·obtain rfl:j=nb:=by omega
       go_wp2
       go_ret;refine⟨ret_bool ?_,HE0.out.trans HX2.out⟩;have h:=HB.out;rw[List.take_of_length_le (by have:=HLB.out;omega)]at h;rw[←HZ2.out,HA2.out,h];rfl
end Go.Proofs.YtlmipgdnlfjpaaaGreat
