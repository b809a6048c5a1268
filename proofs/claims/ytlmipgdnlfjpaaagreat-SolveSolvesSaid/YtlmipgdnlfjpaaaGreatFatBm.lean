/- Lemmas of mine, merged. -/
import Derived.Test.YtlmipgdnlfjpaaaGreatTyfm
import Derived.RangeFuncNested
import Derived.RangeFuncBound
import Derived.RangeFuncCalls
import Derived.RangeFuncLeaves
import Derived.Shelf.Abstract
import Derived.Shelf.RegionOpen
import Derived.WalkKit
import Derived.OwnWalkIn
import Derived.TacticsInMore
import Derived.LoopNIn
import Derived.LoopIn
import Derived.RangeFuncBox
import Derived.RangeFuncWrites
set_option maxRecDepth 100000
set_option linter.unusedSimpArgs false
set_option linter.unusedVariables false
namespace Go.Proofs.YtlmipgdnlfjpaaaGreat
open Go Go.RowKit Go.Deco Go.Shelf
attribute [local go_sem] Oper.semAt_some
def BkE (d:Nat)(wo:World)(l:List (Int×Ty)):Type:={x:Nat×(Int×Ty)×Value // l[x.1]? =some x.2.1/\FdV d wo All x.2.2 x.2.1}
def k9 {d:Nat}{wo:World}{l:List (Int×Ty)}(x:BkE d wo l):Array Value:= #[.int .i64 x.1.1,x.1.2.2]
def Xm {d:Nat}{wo:World}(l:List (Int×Ty))(pre:List (BkE d wo l))(k:Nat):Prop:=pre.map (fun x=>x.1.1)=(List.range' k (l.length - k)).reverse/\k<=l.length
theorem Xm.start {d:Nat}{wo:World}(l:List (Int×Ty)):Xm (d:=d) (wo:=wo) l [] l.length:=by simp[Xm]
theorem Xm.step {d:Nat}{wo:World}{l:List (Int×Ty)}{pre:List (BkE d wo l)}{k:Nat}(h:Xm l pre (k+1))(x:BkE d wo l)(hx:x.1.1=k):Xm l (pre ++ [x]) k:=by
 obtain⟨h1,h2⟩:=h;refine⟨?_,by omega⟩;have e:l.length - k=(l.length - (k+1))+1:=by omega
 rw[List.map_append,h1,e,List.range'_succ];simp[hx]
theorem Xm.len {d:Nat}{wo:World}{l:List (Int×Ty)}{pre:List (BkE d wo l)}{k:Nat}(h:Xm l pre k):pre.length+k=l.length:=by
 have:=congrArg List.length h.1;simp at this;have:=h.2;omega
theorem Xm.mem {d:Nat}{wo:World}{l:List (Int×Ty)}{pre:List (BkE d wo l)}{k j:Nat}(h:Xm l pre k)(hj:k<=j){f:Int×Ty}(hf:l[j]? =some f):∃y∈pre,y.1.2.1=f:=by
 have hlt:=(Qz hf).1
 have hm:j∈pre.map (fun x=>x.1.1):=by
  rw[h.1,List.mem_reverse,List.mem_range'_1];omega
 obtain⟨y,hy,e⟩:=List.mem_map.1 hm;refine⟨y,hy, ?_⟩;have:=y.2.1;rw[e,hf]at this;exact(Option.some.inj this).symm
theorem ow (n:Nat)(w:World)(A:Option Addr)(m c:Nat):
  CallsIn Fence.wide n Tryz.prog 92 #[.slice A m c] w fun e w'=>e= .returned (.func (.func 112) #[] #[.pointer (some ⟨w.heap.size,0,none⟩)])/\w'=w.alloc (.cells #[.slice A m c] 40):=by
 refine callsIn_of_wp Tryz.func92 rfl trivial ?_ rfl;simp only[Tryz.ntmps92,List.size_toArray,List.length_cons,List.length_nil,Nat.reduceAdd,Nat.reduceSub,Array.replicate_succ,Array.replicate_zero,List.push_toArray,List.append_toArray,List.nil_append,List.cons_append]
 gi_wp2
 go_ret;exact⟨rfl,rfl⟩
set_option maxHeartbeats 4000000 in
theorem GQ (n:Nat)(hn:1<=n)(l0 Bn s d:Nat)(wo:World)(A:Option Addr)(m c:Nat)(l:List (Int×Ty))(J Jx:List (BkE d wo l)->World->Prop)(W:World)
  (hY:∀pre x W1,J pre W1->pre.length<m->YieldAt Fence.wide (n - 1) Tryz.prog l0 (k9 x) W1 fun e W'=>
   (e= .returned (.bool true)/\J (pre ++ [x]) W'/\Below s W1 W')\/(e= .returned (.bool false)/\Jx (pre ++ [x]) W'))
  (hE:Ext wo W) (hBn:W.cell? ⟨Bn,0,none⟩=some (.slice A m c)) (hBs:Bn<s) (hso:wo.heap.size<=s) (hl:Sl (fdR (tyR (d+1))) wo All (.slice A m c) l) (h0:J [] W):
  CallsIn Fence.wide n Tryz.prog 112 #[.func (.yield l0) #[] #[],.pointer (some ⟨Bn,0,none⟩)] W fun e W'=>(∃v,e= .returned v)/\
   ((∃ys:List (BkE d wo l),Xm l ys 0/\J ys W')\/(∃pre:List (BkE d wo l),(∃k,Xm l pre k)/\Jx pre W')):=by
 have HLN:=hid hl.len;obtain⟨hmc,hcm⟩:=hl.cap;have HL:=hid hl;have HY:=hid hY;have HJ0:=hid h0;have HBN:=hid hBn;have HE:=hid hE;have w0:IntKind.i64.wrap ((m:Int) - 1)=(m:Int) - 1:=IntWalk.i64_in _ (by omega);clear hl hY h0 hE;refine callsIn_of_wp Tryz.func112 rfl trivial ?_ rfl;simp only[Tryz.ntmps112,List.size_toArray,List.length_cons,List.length_nil,Nat.reduceAdd,Nat.reduceSub,Array.replicate_succ,Array.replicate_zero,List.push_toArray,List.append_toArray,List.nil_append,List.cons_append]
 gi_wp2
 gi_loopw [3] (fun i wr=>∃(k:Nat) (pre:List (BkE d wo l)),i= .int .i64 ((k:Int) - 1)/\k<=m/\Hid (Xm l pre k)/\Hid (J pre wr)/\Hid (Below s W wr)) (fun i _=>(intOf i+1).toNat)
 case atStart=>exact⟨m,[],rfl,by omega,hid (by rw[HLN.o];exact Xm.start l),HJ0,hid (Below.refl _ _)⟩
 case round=>
  obtain⟨k,pre,rfl,hk,HA,HJr,HB⟩:=hrel;have hbn:=HB.o.cell (p:=⟨Bn,0,none⟩) hBs;rw[HBN.o]at hbn;by_cases h1:0<k
  ·obtain⟨q,rfl⟩:∃q,k=q+1:=⟨k - 1,by omega⟩;obtain⟨x,hx⟩:∃x,l[q]? =some x:=⟨_,Qq (by have:=HLN.o;omega)⟩;have hq1:((q+1:Nat):Int) - 1=(q:Int):=by omega
   rw[hq1];have hq0:(q:Int)>=0:=by omega
   have hqn:(q:Int)<(m:Int):=by omega
   have hq2:IntKind.i64.wrap ((q:Int) - 1)=(q:Int) - 1:=IntWalk.i64_in _ (by omega);obtain⟨d',b,off,A1,n1,c1,B1,m1,e1,hd,rfl,hv1,hi1,x0,x1,x2,x3,x4,x5⟩:=HL.o.fd_at hx;obtain rfl:d=d':=by omega
   have hext:Ext wo wr:=Below.trans HE.o (HB.o.mono hso);have x0:=hext.cell x0;have x1:=hext.cell x1;have x2:=hext.cell x2;have x3:=hext.cell x3;have x4:=hext.cell x4;have x5:=hext.cell x5;have hlen:=HA.o.len;obtain⟨y,hy0⟩:∃y:BkE d wo l,y.1=(q,x,.agg #[.int .i64 x.1,.int .i64 x.2.kind,.int .i64 x.2.size,.int .i64 x.2.count,.slice A1 n1 c1,.slice B1 m1 e1]):=⟨⟨_,hx,A1,n1,c1,B1,m1,e1,rfl,hi1,hv1⟩,rfl⟩;have HAS:=hid (HA.o.step y (by rw[hy0]));obtain⟨fn,tmps,assign,body,hy,hR⟩:=HY.o pre y wr HJr.o (by have:=HLN.o;omega);simp only[k9,hy0]at hy;clear hx hd hv1 hi1 hy0 hext hlen
   gi_wp2
   refine hR.mono ?_;rintro e W3 (⟨rfl,hJ3,hk3⟩|⟨rfl,hJx3⟩)
   ·have HJ3:=hid hJ3;have HK3:=hid (HB.o.trans hk3);clear hJ3 hk3 hy hR x0 x1 x2 x3 x4 x5 hbn
    gi_wp2
    first
     |go_roundw
     |refine⟨?rel, ?measure⟩
    case rel=>exact⟨q,_,by first|rfl|go_num,by omega,HAS,HJ3,HK3⟩
    case measure=>simp [intOf]
   ·have HJX:=hid hJx3;clear hJx3 hy hR
    gi_wp2
    refine bodyPost_ret (results_none rfl _ _ _) rfl ?_;exact⟨⟨_,rfl⟩,.inr ⟨_,⟨_,HAS.o⟩,HJX.o⟩⟩
  ·obtain rfl:k=0:=by omega
   gi_wp2
   go_end0
   exact⟨⟨_,rfl⟩,.inl ⟨_,HA.o,HJr.o⟩⟩
end Go.Proofs.YtlmipgdnlfjpaaaGreat
