/- Short names. -/
import Derived.Below
namespace Go.RowKit
theorem Hid.o {p:Prop}(h:Hid p):p:=h
end Go.RowKit
namespace Go.Deco
theorem Qz {α:Type}{l:List α}{i:Nat}{a:α}(h:l[i]? =some a):∃h:i<l.length,l[i]=a:=List.getElem?_eq_some_iff.1 h
theorem Qq {α:Type}{l:List α}{i:Nat}(h:i<l.length):l[i]? =some l[i]:=List.getElem?_eq_getElem h
theorem Qx {α:Type}{l:List α}{i:Nat}{a:α}(h:l[i]? =some a):a∈l:=List.mem_of_getElem? h
theorem Qk {a:Int}(h:0≤a):(a.toNat:Int)=a:=Int.toNat_of_nonneg h
theorem Qj {α:Type}{n:Nat}{l:List α}(h:l.length≤n):l.take n=l:=List.take_of_length_le h
theorem Qv {p:Prop}[Decidable p](h:p):decide p=true:=decide_eq_true h
theorem Qw {p:Prop}[Decidable p](h:¬p):decide p=false:=decide_eq_false h
theorem Qg {α:Type}(a:α):∃x,a=x:=⟨a,rfl⟩
end Go.Deco
