/- Lemmas of mine, merged. -/
import Derived.Test.YtlmipgdnlfjpaaaGreatZm
import Derived.Deep.RegionHeld3
import Derived.Deep.DrawnRows
import Derived.WalkKit
import Derived.IntWalk
open Go.Deco
namespace Go
section
variable {P:Program}{md:Region.Mode}{l:List Oper}{Q:Exit->Act->World->Prop}{S:World->Prop}
theorem Xx {i:Nat}{oi:Oper}{v:Value}{fuel:Nat}{listed:Array Bool}{a:Act}{w:World}(hi:l[i]? =some oi)
  (hs:Region.noSelect l.toArray=true) (hf:Region.free md l.toArray listed i=true) (hr:(Region.ready md l.toArray listed).contains i=true)
  (hQ:∀c a w,Q (.panic c) (a.put oi.dst v) w->Q (.panic c) a w) (hy:YieldsIf P l.toArray S oi v a) (hS:S w)
  (h:wpAnyH P md l.toArray Q S fuel (listed.setIfInBounds i true) (a.put oi.dst v) w):wpAnyH P md l.toArray Q S (fuel+1) listed a w:=
 wpAnyH_take (by simpa using hi) hs hf hr hQ hy hS h
theorem AllReadyH.consL {fuel:Nat}{listed:Array Bool}{a:Act}{w:World}{i:Nat}{o:Oper}{rs:List Nat}(ho:l[i]? =some o)
  (h:∀K':Act->World->Prop,Shut (∀a w,S w->(S w->wpAnyH P md l.toArray Q S fuel (listed.setIfInBounds i true) a w)->K' a w)->if Region.wanted o (yielded l.toArray a.tmps)=true then Oper.wp P o a w K' Q else K' (a.put o.dst undef) w)
  (hs:AllReadyH P md l.toArray Q S fuel listed a w rs):AllReadyH P md l.toArray Q S fuel listed a w (i :: rs):=
 AllReadyH.cons (by simpa using ho) h hs
end
section
open Go.RowKit
variable {P:Program}{md:Region.Mode}{l:List Oper}{Q:Exit->Act->World->Prop}{S:World->Prop}
theorem rgT (i:Nat){oi:Oper}{v:Value}{fuel:Nat}{listed:Array Bool}{a a':Act}{w:World}
  (h:wpAnyH P md l.toArray Q S fuel (listed.setIfInBounds i true) a' w)
  (hi:l[i]? =some oi:=by rfl)
  (hs:Region.noSelect l.toArray=true:=by kernel_rfl) (hf:Region.free md l.toArray listed i=true:=by kernel_rfl) (hr:(Region.ready md l.toArray listed).contains i=true:=by kernel_rfl)
  (hy:YieldsIf P l.toArray S oi v a:=by(refine Or.inl ⟨by rfl, ?_⟩);first|(intro w hSw;(try dsimp only at hSw);go_simp;done)|(intro w hSw;(try dsimp only at hSw);go_simp;with_reducible rfl))
  (ha:a.put oi.dst v=a':=by(try simp only[Act.put,List.setIfInBounds_toArray,List.set_cons_zero,List.set_cons_succ]);first|done|rfl)
  (hQ:∀c a w,Q (.panic c) (a.put oi.dst v) w->Q (.panic c) a w:=by exact fun _ _ _ h=>h) (hS:S w:=by assumption):wpAnyH P md l.toArray Q S (fuel+1) listed a w:=
 Xx hi hs hf hr hQ hy hS (ha ▸ h)
theorem rgU (i:Nat){oi:Oper}{fuel:Nat}{listed:Array Bool}{a a':Act}{w:World}
  (h:wpAnyH P md l.toArray Q S fuel (listed.setIfInBounds i true) a' w)
  (hi:l[i]? =some oi:=by rfl)
  (hs:Region.noSelect l.toArray=true:=by kernel_rfl) (hf:Region.free md l.toArray listed i=true:=by kernel_rfl) (hr:(Region.ready md l.toArray listed).contains i=true:=by kernel_rfl)
  (hy:YieldsIf P l.toArray S oi undef a:=by exact Or.inr ⟨by rfl,rfl⟩)
  (ha:a.put oi.dst undef=a':=by(try simp only[Act.put,List.setIfInBounds_toArray,List.set_cons_zero,List.set_cons_succ]);first|done|rfl)
  (hQ:∀c a w,Q (.panic c) (a.put oi.dst undef) w->Q (.panic c) a w:=by exact fun _ _ _ h=>h) (hS:S w:=by assumption):wpAnyH P md l.toArray Q S (fuel+1) listed a w:=
 Xx hi hs hf hr hQ hy hS (ha ▸ h)
theorem rgH {E S:World->Prop}{id:Nat}{ops:Array Oper}{a:Act}{w:World}(hel:∀w',E w'->S w')(hx:E w.drew)
  (h:S w.drew->wpAnyH P .any ops Q S ops.size (Array.replicate ops.size false) a w.drew) (hm:P.follows .mixedOrders=true:=by kernel_rfl):(Code.region id ops true).wp P Q a w:=
 wp_region_held_drew hm (hel _ hx) h
theorem rgC (i:Nat){o:Oper}{fuel:Nat}{listed:Array Bool}{a:Act}{w:World}
  (h:∀K':Act->World->Prop,Shut (∀a w,S w->(S w->wpAnyH P md l.toArray Q S fuel (listed.setIfInBounds i true) a w)->K' a w)->if Region.wanted o (yielded l.toArray a.tmps)=true then Oper.wp P o a w K' Q else K' (a.put o.dst undef) w)
  (hr:Region.ready md l.toArray listed=[i]:=by kernel_rfl) (ho:l[i]? =some o:=by rfl):wpAnyH P md l.toArray Q S (fuel+1) listed a w:=
 wpAnyH_ready (rs:=[i]) hr (by simp) (AllReadyH.consL ho h AllReadyH.nil)
theorem QJ (i0 i1:Nat){o0:Oper}{o1:Oper}{v0:Value}{v1:Value}{fuel:Nat}{listed:Array Bool}{a0:Act}{a1:Act}{a2:Act}{w:World}
  (h:wpAnyH P md l.toArray Q S fuel ((listed.setIfInBounds i0 true).setIfInBounds i1 true) a2 w)
  (hs:Region.noSelect l.toArray=true:=by kernel_rfl)
  (h0:l[i0]? =some o0:=by rfl) (f0:Region.free md l.toArray listed i0=true:=by kernel_rfl) (r0:(Region.ready md l.toArray listed).contains i0=true:=by kernel_rfl)
  (y0:YieldsIf P l.toArray S o0 v0 a0:=by(refine Or.inl ⟨by rfl, ?_⟩);first|(intro w hSw;(try dsimp only at hSw);go_simp;done)|(intro w hSw;(try dsimp only at hSw);go_simp;with_reducible rfl))
  (e0:a0.put o0.dst v0=a1:=by(try simp only[Act.put,List.setIfInBounds_toArray,List.set_cons_zero,List.set_cons_succ]);first|done|rfl)
  (q0:∀c a w,Q (.panic c) (a.put o0.dst v0) w->Q (.panic c) a w:=by exact fun _ _ _ h=>h)
  (h1:l[i1]? =some o1:=by rfl) (f1:Region.free md l.toArray (listed.setIfInBounds i0 true) i1=true:=by kernel_rfl) (r1:(Region.ready md l.toArray (listed.setIfInBounds i0 true)).contains i1=true:=by kernel_rfl)
  (y1:YieldsIf P l.toArray S o1 v1 a1:=by(refine Or.inl ⟨by rfl, ?_⟩);first|(intro w hSw;(try dsimp only at hSw);go_simp;done)|(intro w hSw;(try dsimp only at hSw);go_simp;with_reducible rfl))
  (e1:a1.put o1.dst v1=a2:=by(try simp only[Act.put,List.setIfInBounds_toArray,List.set_cons_zero,List.set_cons_succ]);first|done|rfl)
  (q1:∀c a w,Q (.panic c) (a.put o1.dst v1) w->Q (.panic c) a w:=by exact fun _ _ _ h=>h)
  (hS:S w:=by assumption):wpAnyH P md l.toArray Q S (fuel+2) listed a0 w:=
 Xx h0 hs f0 r0 q0 y0 hS (e0 ▸ (Xx h1 hs f1 r1 q1 y1 hS (e1 ▸ h)))
theorem Zd (i0 i1 i2:Nat){o0:Oper}{o1:Oper}{o2:Oper}{v0:Value}{v1:Value}{v2:Value}{fuel:Nat}{listed:Array Bool}{a0:Act}{a1:Act}{a2:Act}{a3:Act}{w:World}
  (h:wpAnyH P md l.toArray Q S fuel (((listed.setIfInBounds i0 true).setIfInBounds i1 true).setIfInBounds i2 true) a3 w)
  (hs:Region.noSelect l.toArray=true:=by kernel_rfl)
  (h0:l[i0]? =some o0:=by rfl) (f0:Region.free md l.toArray listed i0=true:=by kernel_rfl) (r0:(Region.ready md l.toArray listed).contains i0=true:=by kernel_rfl)
  (y0:YieldsIf P l.toArray S o0 v0 a0:=by(refine Or.inl ⟨by rfl, ?_⟩);first|(intro w hSw;(try dsimp only at hSw);go_simp;done)|(intro w hSw;(try dsimp only at hSw);go_simp;with_reducible rfl))
  (e0:a0.put o0.dst v0=a1:=by(try simp only[Act.put,List.setIfInBounds_toArray,List.set_cons_zero,List.set_cons_succ]);first|done|rfl)
  (q0:∀c a w,Q (.panic c) (a.put o0.dst v0) w->Q (.panic c) a w:=by exact fun _ _ _ h=>h)
  (h1:l[i1]? =some o1:=by rfl) (f1:Region.free md l.toArray (listed.setIfInBounds i0 true) i1=true:=by kernel_rfl) (r1:(Region.ready md l.toArray (listed.setIfInBounds i0 true)).contains i1=true:=by kernel_rfl)
  (y1:YieldsIf P l.toArray S o1 v1 a1:=by(refine Or.inl ⟨by rfl, ?_⟩);first|(intro w hSw;(try dsimp only at hSw);go_simp;done)|(intro w hSw;(try dsimp only at hSw);go_simp;with_reducible rfl))
  (e1:a1.put o1.dst v1=a2:=by(try simp only[Act.put,List.setIfInBounds_toArray,List.set_cons_zero,List.set_cons_succ]);first|done|rfl)
  (q1:∀c a w,Q (.panic c) (a.put o1.dst v1) w->Q (.panic c) a w:=by exact fun _ _ _ h=>h)
  (h2:l[i2]? =some o2:=by rfl) (f2:Region.free md l.toArray ((listed.setIfInBounds i0 true).setIfInBounds i1 true) i2=true:=by kernel_rfl) (r2:(Region.ready md l.toArray ((listed.setIfInBounds i0 true).setIfInBounds i1 true)).contains i2=true:=by kernel_rfl)
  (y2:YieldsIf P l.toArray S o2 v2 a2:=by(refine Or.inl ⟨by rfl, ?_⟩);first|(intro w hSw;(try dsimp only at hSw);go_simp;done)|(intro w hSw;(try dsimp only at hSw);go_simp;with_reducible rfl))
  (e2:a2.put o2.dst v2=a3:=by(try simp only[Act.put,List.setIfInBounds_toArray,List.set_cons_zero,List.set_cons_succ]);first|done|rfl)
  (q2:∀c a w,Q (.panic c) (a.put o2.dst v2) w->Q (.panic c) a w:=by exact fun _ _ _ h=>h)
  (hS:S w:=by assumption):wpAnyH P md l.toArray Q S (fuel+3) listed a0 w:=
 Xx h0 hs f0 r0 q0 y0 hS (e0 ▸ (Xx h1 hs f1 r1 q1 y1 hS (e1 ▸ (Xx h2 hs f2 r2 q2 y2 hS (e2 ▸ h)))))
theorem QB (i0 i1 i2 i3:Nat){o0:Oper}{o1:Oper}{o2:Oper}{o3:Oper}{v0:Value}{v1:Value}{v2:Value}{v3:Value}{fuel:Nat}{listed:Array Bool}{a0:Act}{a1:Act}{a2:Act}{a3:Act}{a4:Act}{w:World}
  (h:wpAnyH P md l.toArray Q S fuel ((((listed.setIfInBounds i0 true).setIfInBounds i1 true).setIfInBounds i2 true).setIfInBounds i3 true) a4 w)
  (hs:Region.noSelect l.toArray=true:=by kernel_rfl)
  (h0:l[i0]? =some o0:=by rfl) (f0:Region.free md l.toArray listed i0=true:=by kernel_rfl) (r0:(Region.ready md l.toArray listed).contains i0=true:=by kernel_rfl)
  (y0:YieldsIf P l.toArray S o0 v0 a0:=by(refine Or.inl ⟨by rfl, ?_⟩);first|(intro w hSw;(try dsimp only at hSw);go_simp;done)|(intro w hSw;(try dsimp only at hSw);go_simp;with_reducible rfl))
  (e0:a0.put o0.dst v0=a1:=by(try simp only[Act.put,List.setIfInBounds_toArray,List.set_cons_zero,List.set_cons_succ]);first|done|rfl)
  (q0:∀c a w,Q (.panic c) (a.put o0.dst v0) w->Q (.panic c) a w:=by exact fun _ _ _ h=>h)
  (h1:l[i1]? =some o1:=by rfl) (f1:Region.free md l.toArray (listed.setIfInBounds i0 true) i1=true:=by kernel_rfl) (r1:(Region.ready md l.toArray (listed.setIfInBounds i0 true)).contains i1=true:=by kernel_rfl)
  (y1:YieldsIf P l.toArray S o1 v1 a1:=by(refine Or.inl ⟨by rfl, ?_⟩);first|(intro w hSw;(try dsimp only at hSw);go_simp;done)|(intro w hSw;(try dsimp only at hSw);go_simp;with_reducible rfl))
  (e1:a1.put o1.dst v1=a2:=by(try simp only[Act.put,List.setIfInBounds_toArray,List.set_cons_zero,List.set_cons_succ]);first|done|rfl)
  (q1:∀c a w,Q (.panic c) (a.put o1.dst v1) w->Q (.panic c) a w:=by exact fun _ _ _ h=>h)
  (h2:l[i2]? =some o2:=by rfl) (f2:Region.free md l.toArray ((listed.setIfInBounds i0 true).setIfInBounds i1 true) i2=true:=by kernel_rfl) (r2:(Region.ready md l.toArray ((listed.setIfInBounds i0 true).setIfInBounds i1 true)).contains i2=true:=by kernel_rfl)
  (y2:YieldsIf P l.toArray S o2 v2 a2:=by(refine Or.inl ⟨by rfl, ?_⟩);first|(intro w hSw;(try dsimp only at hSw);go_simp;done)|(intro w hSw;(try dsimp only at hSw);go_simp;with_reducible rfl))
  (e2:a2.put o2.dst v2=a3:=by(try simp only[Act.put,List.setIfInBounds_toArray,List.set_cons_zero,List.set_cons_succ]);first|done|rfl)
  (q2:∀c a w,Q (.panic c) (a.put o2.dst v2) w->Q (.panic c) a w:=by exact fun _ _ _ h=>h)
  (h3:l[i3]? =some o3:=by rfl) (f3:Region.free md l.toArray (((listed.setIfInBounds i0 true).setIfInBounds i1 true).setIfInBounds i2 true) i3=true:=by kernel_rfl) (r3:(Region.ready md l.toArray (((listed.setIfInBounds i0 true).setIfInBounds i1 true).setIfInBounds i2 true)).contains i3=true:=by kernel_rfl)
  (y3:YieldsIf P l.toArray S o3 v3 a3:=by(refine Or.inl ⟨by rfl, ?_⟩);first|(intro w hSw;(try dsimp only at hSw);go_simp;done)|(intro w hSw;(try dsimp only at hSw);go_simp;with_reducible rfl))
  (e3:a3.put o3.dst v3=a4:=by(try simp only[Act.put,List.setIfInBounds_toArray,List.set_cons_zero,List.set_cons_succ]);first|done|rfl)
  (q3:∀c a w,Q (.panic c) (a.put o3.dst v3) w->Q (.panic c) a w:=by exact fun _ _ _ h=>h)
  (hS:S w:=by assumption):wpAnyH P md l.toArray Q S (fuel+4) listed a0 w:=
 Xx h0 hs f0 r0 q0 y0 hS (e0 ▸ (Xx h1 hs f1 r1 q1 y1 hS (e1 ▸ (Xx h2 hs f2 r2 q2 y2 hS (e2 ▸ (Xx h3 hs f3 r3 q3 y3 hS (e3 ▸ h)))))))
theorem Qp (i0 i1 i2 i3 i4 i5:Nat){o0:Oper}{o1:Oper}{o2:Oper}{o3:Oper}{o4:Oper}{o5:Oper}{v0:Value}{v1:Value}{v2:Value}{v3:Value}{v4:Value}{v5:Value}{fuel:Nat}{listed:Array Bool}{a0:Act}{a1:Act}{a2:Act}{a3:Act}{a4:Act}{a5:Act}{a6:Act}{w:World}
  (h:wpAnyH P md l.toArray Q S fuel ((((((listed.setIfInBounds i0 true).setIfInBounds i1 true).setIfInBounds i2 true).setIfInBounds i3 true).setIfInBounds i4 true).setIfInBounds i5 true) a6 w)
  (hs:Region.noSelect l.toArray=true:=by kernel_rfl)
  (h0:l[i0]? =some o0:=by rfl) (f0:Region.free md l.toArray listed i0=true:=by kernel_rfl) (r0:(Region.ready md l.toArray listed).contains i0=true:=by kernel_rfl)
  (y0:YieldsIf P l.toArray S o0 v0 a0:=by(refine Or.inl ⟨by rfl, ?_⟩);first|(intro w hSw;(try dsimp only at hSw);go_simp;done)|(intro w hSw;(try dsimp only at hSw);go_simp;with_reducible rfl))
  (e0:a0.put o0.dst v0=a1:=by(try simp only[Act.put,List.setIfInBounds_toArray,List.set_cons_zero,List.set_cons_succ]);first|done|rfl)
  (q0:∀c a w,Q (.panic c) (a.put o0.dst v0) w->Q (.panic c) a w:=by exact fun _ _ _ h=>h)
  (h1:l[i1]? =some o1:=by rfl) (f1:Region.free md l.toArray (listed.setIfInBounds i0 true) i1=true:=by kernel_rfl) (r1:(Region.ready md l.toArray (listed.setIfInBounds i0 true)).contains i1=true:=by kernel_rfl)
  (y1:YieldsIf P l.toArray S o1 v1 a1:=by(refine Or.inl ⟨by rfl, ?_⟩);first|(intro w hSw;(try dsimp only at hSw);go_simp;done)|(intro w hSw;(try dsimp only at hSw);go_simp;with_reducible rfl))
  (e1:a1.put o1.dst v1=a2:=by(try simp only[Act.put,List.setIfInBounds_toArray,List.set_cons_zero,List.set_cons_succ]);first|done|rfl)
  (q1:∀c a w,Q (.panic c) (a.put o1.dst v1) w->Q (.panic c) a w:=by exact fun _ _ _ h=>h)
  (h2:l[i2]? =some o2:=by rfl) (f2:Region.free md l.toArray ((listed.setIfInBounds i0 true).setIfInBounds i1 true) i2=true:=by kernel_rfl) (r2:(Region.ready md l.toArray ((listed.setIfInBounds i0 true).setIfInBounds i1 true)).contains i2=true:=by kernel_rfl)
  (y2:YieldsIf P l.toArray S o2 v2 a2:=by(refine Or.inl ⟨by rfl, ?_⟩);first|(intro w hSw;(try dsimp only at hSw);go_simp;done)|(intro w hSw;(try dsimp only at hSw);go_simp;with_reducible rfl))
  (e2:a2.put o2.dst v2=a3:=by(try simp only[Act.put,List.setIfInBounds_toArray,List.set_cons_zero,List.set_cons_succ]);first|done|rfl)
  (q2:∀c a w,Q (.panic c) (a.put o2.dst v2) w->Q (.panic c) a w:=by exact fun _ _ _ h=>h)
  (h3:l[i3]? =some o3:=by rfl) (f3:Region.free md l.toArray (((listed.setIfInBounds i0 true).setIfInBounds i1 true).setIfInBounds i2 true) i3=true:=by kernel_rfl) (r3:(Region.ready md l.toArray (((listed.setIfInBounds i0 true).setIfInBounds i1 true).setIfInBounds i2 true)).contains i3=true:=by kernel_rfl)
  (y3:YieldsIf P l.toArray S o3 v3 a3:=by(refine Or.inl ⟨by rfl, ?_⟩);first|(intro w hSw;(try dsimp only at hSw);go_simp;done)|(intro w hSw;(try dsimp only at hSw);go_simp;with_reducible rfl))
  (e3:a3.put o3.dst v3=a4:=by(try simp only[Act.put,List.setIfInBounds_toArray,List.set_cons_zero,List.set_cons_succ]);first|done|rfl)
  (q3:∀c a w,Q (.panic c) (a.put o3.dst v3) w->Q (.panic c) a w:=by exact fun _ _ _ h=>h)
  (h4:l[i4]? =some o4:=by rfl) (f4:Region.free md l.toArray ((((listed.setIfInBounds i0 true).setIfInBounds i1 true).setIfInBounds i2 true).setIfInBounds i3 true) i4=true:=by kernel_rfl) (r4:(Region.ready md l.toArray ((((listed.setIfInBounds i0 true).setIfInBounds i1 true).setIfInBounds i2 true).setIfInBounds i3 true)).contains i4=true:=by kernel_rfl)
  (y4:YieldsIf P l.toArray S o4 v4 a4:=by(refine Or.inl ⟨by rfl, ?_⟩);first|(intro w hSw;(try dsimp only at hSw);go_simp;done)|(intro w hSw;(try dsimp only at hSw);go_simp;with_reducible rfl))
  (e4:a4.put o4.dst v4=a5:=by(try simp only[Act.put,List.setIfInBounds_toArray,List.set_cons_zero,List.set_cons_succ]);first|done|rfl)
  (q4:∀c a w,Q (.panic c) (a.put o4.dst v4) w->Q (.panic c) a w:=by exact fun _ _ _ h=>h)
  (h5:l[i5]? =some o5:=by rfl) (f5:Region.free md l.toArray (((((listed.setIfInBounds i0 true).setIfInBounds i1 true).setIfInBounds i2 true).setIfInBounds i3 true).setIfInBounds i4 true) i5=true:=by kernel_rfl) (r5:(Region.ready md l.toArray (((((listed.setIfInBounds i0 true).setIfInBounds i1 true).setIfInBounds i2 true).setIfInBounds i3 true).setIfInBounds i4 true)).contains i5=true:=by kernel_rfl)
  (y5:YieldsIf P l.toArray S o5 v5 a5:=by(refine Or.inl ⟨by rfl, ?_⟩);first|(intro w hSw;(try dsimp only at hSw);go_simp;done)|(intro w hSw;(try dsimp only at hSw);go_simp;with_reducible rfl))
  (e5:a5.put o5.dst v5=a6:=by(try simp only[Act.put,List.setIfInBounds_toArray,List.set_cons_zero,List.set_cons_succ]);first|done|rfl)
  (q5:∀c a w,Q (.panic c) (a.put o5.dst v5) w->Q (.panic c) a w:=by exact fun _ _ _ h=>h)
  (hS:S w:=by assumption):wpAnyH P md l.toArray Q S (fuel+6) listed a0 w:=
 Xx h0 hs f0 r0 q0 y0 hS (e0 ▸ (Xx h1 hs f1 r1 q1 y1 hS (e1 ▸ (Xx h2 hs f2 r2 q2 y2 hS (e2 ▸ (Xx h3 hs f3 r3 q3 y3 hS (e3 ▸ (Xx h4 hs f4 r4 q4 y4 hS (e4 ▸ (Xx h5 hs f5 r5 q5 y5 hS (e5 ▸ h)))))))))))
theorem ZM (i0 i1:Nat){o0:Oper}{o1:Oper}{fuel:Nat}{listed:Array Bool}{a0:Act}{a1:Act}{a2:Act}{w:World}
  (h:wpAnyH P md l.toArray Q S fuel ((listed.setIfInBounds i0 true).setIfInBounds i1 true) a2 w)
  (hs:Region.noSelect l.toArray=true:=by kernel_rfl)
  (h0:l[i0]? =some o0:=by rfl) (f0:Region.free md l.toArray listed i0=true:=by kernel_rfl) (r0:(Region.ready md l.toArray listed).contains i0=true:=by kernel_rfl)
  (y0:YieldsIf P l.toArray S o0 undef a0:=by exact Or.inr ⟨by rfl,rfl⟩)
  (e0:a0.put o0.dst undef=a1:=by(try simp only[Act.put,List.setIfInBounds_toArray,List.set_cons_zero,List.set_cons_succ]);first|done|rfl)
  (q0:∀c a w,Q (.panic c) (a.put o0.dst undef) w->Q (.panic c) a w:=by exact fun _ _ _ h=>h)
  (h1:l[i1]? =some o1:=by rfl) (f1:Region.free md l.toArray (listed.setIfInBounds i0 true) i1=true:=by kernel_rfl) (r1:(Region.ready md l.toArray (listed.setIfInBounds i0 true)).contains i1=true:=by kernel_rfl)
  (y1:YieldsIf P l.toArray S o1 undef a1:=by exact Or.inr ⟨by rfl,rfl⟩)
  (e1:a1.put o1.dst undef=a2:=by(try simp only[Act.put,List.setIfInBounds_toArray,List.set_cons_zero,List.set_cons_succ]);first|done|rfl)
  (q1:∀c a w,Q (.panic c) (a.put o1.dst undef) w->Q (.panic c) a w:=by exact fun _ _ _ h=>h)
  (hS:S w:=by assumption):wpAnyH P md l.toArray Q S (fuel+2) listed a0 w:=
 Xx h0 hs f0 r0 q0 y0 hS (e0 ▸ (Xx h1 hs f1 r1 q1 y1 hS (e1 ▸ h)))
theorem Qc (i0 i1 i2 i3:Nat){o0:Oper}{o1:Oper}{o2:Oper}{o3:Oper}{fuel:Nat}{listed:Array Bool}{a0:Act}{a1:Act}{a2:Act}{a3:Act}{a4:Act}{w:World}
  (h:wpAnyH P md l.toArray Q S fuel ((((listed.setIfInBounds i0 true).setIfInBounds i1 true).setIfInBounds i2 true).setIfInBounds i3 true) a4 w)
  (hs:Region.noSelect l.toArray=true:=by kernel_rfl)
  (h0:l[i0]? =some o0:=by rfl) (f0:Region.free md l.toArray listed i0=true:=by kernel_rfl) (r0:(Region.ready md l.toArray listed).contains i0=true:=by kernel_rfl)
  (y0:YieldsIf P l.toArray S o0 undef a0:=by exact Or.inr ⟨by rfl,rfl⟩)
  (e0:a0.put o0.dst undef=a1:=by(try simp only[Act.put,List.setIfInBounds_toArray,List.set_cons_zero,List.set_cons_succ]);first|done|rfl)
  (q0:∀c a w,Q (.panic c) (a.put o0.dst undef) w->Q (.panic c) a w:=by exact fun _ _ _ h=>h)
  (h1:l[i1]? =some o1:=by rfl) (f1:Region.free md l.toArray (listed.setIfInBounds i0 true) i1=true:=by kernel_rfl) (r1:(Region.ready md l.toArray (listed.setIfInBounds i0 true)).contains i1=true:=by kernel_rfl)
  (y1:YieldsIf P l.toArray S o1 undef a1:=by exact Or.inr ⟨by rfl,rfl⟩)
  (e1:a1.put o1.dst undef=a2:=by(try simp only[Act.put,List.setIfInBounds_toArray,List.set_cons_zero,List.set_cons_succ]);first|done|rfl)
  (q1:∀c a w,Q (.panic c) (a.put o1.dst undef) w->Q (.panic c) a w:=by exact fun _ _ _ h=>h)
  (h2:l[i2]? =some o2:=by rfl) (f2:Region.free md l.toArray ((listed.setIfInBounds i0 true).setIfInBounds i1 true) i2=true:=by kernel_rfl) (r2:(Region.ready md l.toArray ((listed.setIfInBounds i0 true).setIfInBounds i1 true)).contains i2=true:=by kernel_rfl)
  (y2:YieldsIf P l.toArray S o2 undef a2:=by exact Or.inr ⟨by rfl,rfl⟩)
  (e2:a2.put o2.dst undef=a3:=by(try simp only[Act.put,List.setIfInBounds_toArray,List.set_cons_zero,List.set_cons_succ]);first|done|rfl)
  (q2:∀c a w,Q (.panic c) (a.put o2.dst undef) w->Q (.panic c) a w:=by exact fun _ _ _ h=>h)
  (h3:l[i3]? =some o3:=by rfl) (f3:Region.free md l.toArray (((listed.setIfInBounds i0 true).setIfInBounds i1 true).setIfInBounds i2 true) i3=true:=by kernel_rfl) (r3:(Region.ready md l.toArray (((listed.setIfInBounds i0 true).setIfInBounds i1 true).setIfInBounds i2 true)).contains i3=true:=by kernel_rfl)
  (y3:YieldsIf P l.toArray S o3 undef a3:=by exact Or.inr ⟨by rfl,rfl⟩)
  (e3:a3.put o3.dst undef=a4:=by(try simp only[Act.put,List.setIfInBounds_toArray,List.set_cons_zero,List.set_cons_succ]);first|done|rfl)
  (q3:∀c a w,Q (.panic c) (a.put o3.dst undef) w->Q (.panic c) a w:=by exact fun _ _ _ h=>h)
  (hS:S w:=by assumption):wpAnyH P md l.toArray Q S (fuel+4) listed a0 w:=
 Xx h0 hs f0 r0 q0 y0 hS (e0 ▸ (Xx h1 hs f1 r1 q1 y1 hS (e1 ▸ (Xx h2 hs f2 r2 q2 y2 hS (e2 ▸ (Xx h3 hs f3 r3 q3 y3 hS (e3 ▸ h)))))))
theorem rgK {fuel:Nat}{listed:Array Bool}{K:Act->World->Prop}{a a':Act}{w:World}(hK:Shut (∀a w,S w->(S w->wpAnyH P md l.toArray Q S fuel listed a w)->K a w))(hS:S w)
  (h:S w->wpAnyH P md l.toArray Q S fuel listed a' w) (ha:a=a':=by(try simp only[Act.put,List.setIfInBounds_toArray,List.set_cons_zero,List.set_cons_succ]);first|done|rfl):K a w:=hK.out a w hS fun hs=>ha ▸ h hs
end
end Go
