/- Lemmas of mine, merged. -/
import Derived.Test.YtlmipgdnlfjpaaaGreatProg
import Derived.Test.YtlmipgdnlfjpaaaGreatBasm
import Derived.Shelf.Sort.Plain
import Derived.Shelf.Slices.In.SortNone
import Derived.Sort.OwnSortedInts
set_option linter.unusedSimpArgs false
namespace Go.Proofs.YtlmipgdnlfjpaaaGreat
open Go.RowKit Go.Deco Go.Sort Go.Shelf
def Tryz.sort189_ren:Go.Shelf.Ren:=⟨fun|189=>79|125=>101|257=>100|128=>124|129=>125|294=>115|295=>116|296=>117|297=>118|298=>119|299=>120|216=>121|300=>122|301=>123|328=>129|329=>130|330=>131|331=>132|332=>133|215=>128|343=>134|n=>n,fun|28=>26|3=>3|46=>127|0=>0|51=>146|53=>148|4=>4|183=>139|182=>138|131=>143|5=>5|9=>9|218=>152|222=>156|228=>158|229=>159|n=>n,fun|n=>n⟩
theorem Tryz.sort189:Lays.n189 Tryz.prog Tryz.sort189_ren:={
 mixed:=by kernel_rfl
 f125:=Tryz.func101.trans (congrArg some (by kernel_rfl))
 f128:=Tryz.func124.trans (congrArg some (by kernel_rfl))
 f129:=Tryz.func125.trans (congrArg some (by kernel_rfl))
 f189:=Tryz.func79.trans (congrArg some (by kernel_rfl))
 f215:=Tryz.func128.trans (congrArg some (by kernel_rfl))
 f216:=Tryz.func121.trans (congrArg some (by kernel_rfl))
 f257:=Tryz.func100.trans (congrArg some (by kernel_rfl))
 f294:=Tryz.func115.trans (congrArg some (by kernel_rfl))
 f295:=Tryz.func116.trans (congrArg some (by kernel_rfl))
 f296:=Tryz.func117.trans (congrArg some (by kernel_rfl))
 f297:=Tryz.func118.trans (congrArg some (by kernel_rfl))
 f298:=Tryz.func119.trans (congrArg some (by kernel_rfl))
 f299:=Tryz.func120.trans (congrArg some (by kernel_rfl))
 f300:=Tryz.func122.trans (congrArg some (by kernel_rfl))
 f301:=Tryz.func123.trans (congrArg some (by kernel_rfl))
 f328:=Tryz.func129.trans (congrArg some (by kernel_rfl))
 f329:=Tryz.func130.trans (congrArg some (by kernel_rfl))
 f330:=Tryz.func131.trans (congrArg some (by kernel_rfl))
 f331:=Tryz.func132.trans (congrArg some (by kernel_rfl))
 f332:=Tryz.func133.trans (congrArg some (by kernel_rfl))
 f343:=Tryz.func134.trans (congrArg some (by kernel_rfl))
 t0:=Tryz.underlying0
 a0:=Tryz.isAgg0
 z0:=Tryz.sizeOf0
 v0:=Tryz.zeroValue0
 t3:=Tryz.underlying3
 a3:=Tryz.isAgg3
 z3:=Tryz.sizeOf3
 v3:=Tryz.zeroValue3
 t4:=Tryz.underlying4
 a4:=Tryz.isAgg4
 z4:=Tryz.sizeOf4
 v4:=Tryz.zeroValue4
 t5:=Tryz.underlying5
 a5:=Tryz.isAgg5
 z5:=Tryz.sizeOf5
 v5:=Tryz.zeroValue5
 t9:=Tryz.underlying9
 a9:=Tryz.isAgg9
 z9:=Tryz.sizeOf9
 v9:=Tryz.zeroValue9
 t28:=Tryz.underlying26
 a28:=Tryz.isAgg26
 z28:=Tryz.sizeOf26
 v28:=Tryz.zeroValue26
 t46:=Tryz.underlying127
 a46:=Tryz.isAgg127
 z46:=Tryz.sizeOf127
 v46:=Tryz.zeroValue127
 t51:=Tryz.underlying146
 a51:=Tryz.isAgg146
 z51:=Tryz.sizeOf146
 v51:=Tryz.zeroValue146
 t53:=Tryz.underlying148
 a53:=Tryz.isAgg148
 z53:=Tryz.sizeOf148
 v53:=Tryz.zeroValue148
 t131:=Tryz.underlying143
 a131:=Tryz.isAgg143
 z131:=Tryz.sizeOf143
 v131:=Tryz.zeroValue143
 t182:=Tryz.underlying138
 a182:=Tryz.isAgg138
 z182:=Tryz.sizeOf138
 v182:=Tryz.zeroValue138
 t183:=Tryz.underlying139
 a183:=Tryz.isAgg139
 z183:=Tryz.sizeOf139
 v183:=Tryz.zeroValue139
 t218:=Tryz.underlying152
 a218:=Tryz.isAgg152
 z218:=Tryz.sizeOf152
 v218:=Tryz.zeroValue152
 t222:=Tryz.underlying156
 a222:=Tryz.isAgg156
 z222:=Tryz.sizeOf156
 v222:=Tryz.zeroValue156
 t228:=Tryz.underlying158
 a228:=Tryz.isAgg158
 z228:=Tryz.sizeOf158
 v228:=Tryz.zeroValue158
 t229:=Tryz.underlying159
 a229:=Tryz.isAgg159
 z229:=Tryz.sizeOf159
 v229:=Tryz.zeroValue159}
theorem jz {w:World}{S:Nat->Prop}:∀{l:List Int} {xs:List Value},QD VM w S xs l↔(xs=l.map (Value.int .i64)/\∀x∈l, -9223372036854775808<=x/\x<=9223372036854775807)
 |[],xs=>by simp[QD]
 | y :: l,xs=>by
  constructor
  ·rintro⟨cs,rest,rfl,⟨rfl,hy⟩,h⟩;obtain⟨h1,h2⟩:=jz.1 h;refine⟨by rw[h1];rfl,fun x hx=>?_⟩;rcases List.mem_cons.1 hx with rfl|hx
   ·exact hy
   ·exact h2 x hx
  ·rintro⟨rfl,h⟩;exact⟨_,_,rfl,⟨rfl,h y (by simp)⟩,jz.2 ⟨rfl,fun x hx=>h x (by simp[hx])⟩⟩
def KF (l:List Int):List Int:=l.mergeSort fun x y=>decide (x<=y)
theorem vJ (l:List Int):(KF l).length=l.length:=List.length_mergeSort _
theorem fQ {l:List Int}{a:Int}:a∈KF l↔a∈l:=List.mem_mergeSort
theorem lG {l:List Int}(h:l.Nodup):(KF l).Pairwise (· <·):=by
 have h1:(KF l).Pairwise (fun a b=>decide (a<=b)=true):=List.pairwise_mergeSort (fun a b c h1 h2=>by simp at h1 h2 ⊢;omega) (fun a b=>by simp;omega) l;have h2:(KF l).Nodup:=(List.mergeSort_perm l _).nodup_iff.2 h;exact(h1.and h2).imp fun {a b} ⟨h1,h2⟩=>by simp at h1;omega
theorem eg {w:World}{base:Nat}{T:Nat->Prop}{A:Option Addr}{c:Nat}{l:List Int}(h:Qf VM w base 3 T (.slice A l.length c) l)(hlen:l.length<4611686018427387904):
  Calls Tryz.prog 79 #[.slice A l.length c] w fun e w'=>e= .returned (.tuple #[])/\Qf VM w' base 3 T (.slice A l.length c) (KF l)/\w.grownBy w' (Value.slice A l.length c).ownBlock:=by
 by_cases h0:l=[]
 ·subst h0;refine(Any.slices_Sort_int_none Tryz.sort189 A c w).mono ?_;rintro e w' ⟨rfl,rfl⟩;have e0:KF []=[]:=by simp[KF]
  rw[e0];exact⟨rfl,h,(Ext.refl _).grownBy _⟩
 ·obtain⟨xs,ho,hc⟩:=h;obtain⟨rfl,hlt⟩:=jz.1 hc;rcases ho.2 with⟨hv,hn⟩|⟨g,cap,cur,hv,hg,hb,h1,h2,h3,h4⟩
  ·exact absurd (List.eq_nil_of_length_eq_zero hn) h0
  cases hv
  have h4':cur.toList.take l.length=l.map (Value.int .i64):=by
   have:l.length * VM.size=l.length:=by simp[VM]
   rw[this]at h4;exact h4
  have hs:=Any.slices_Sort_int Tryz.sort189 g 0 c l w (holds_of_blockI hb h4') (Array.getElem?_eq_some_iff.1 hb).1 hlen;refine hs.mono ?_;rintro e w' ⟨rfl,n,os,rfl⟩;refine⟨rfl,⟨_, ?_,jz.2 ⟨rfl,fun x hx=>hlt x (fQ.1 hx)⟩⟩,grownBy_sortedI _⟩;have:=ownsRow_sortedI (w:=w) (base:=base) (g:=g) (cap:=c) (n:=n) (e:=3) (os:=os) (cur:=cur) (ss:=l) (ts:=KF l) (by simp[vJ]) hg hb (by simpa using h1) h2 h3;rw[vJ];exact this
end Go.Proofs.YtlmipgdnlfjpaaaGreat
