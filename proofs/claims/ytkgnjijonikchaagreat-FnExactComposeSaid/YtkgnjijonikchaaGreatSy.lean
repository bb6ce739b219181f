import Derived.Test.YtkgnjijonikchaaGreatHnd
import Derived.Test.YtkgnjijonikchaaGreatSysPure
import Derived.Test.YtkgnjijonikchaaGreatSys
namespace Go.Proofs.YtkgnjijonikchaaGreat
open Go.RowKit
set_option linter.unusedVariables false
set_option linter.unusedSimpArgs false
variable {P :Program}
theorem tupOk {f:FuncId} {fn:Func} (hf:P.funcs[f]?=some fn) (hname:(fn.name== "runtime.NumGoroutine")=false) (hb:fn.body.isSome=true) (n:Nat) (spec:List PV→Option PV)
 (H:∀(w:World) (F:Nat→Prop) (xs:List PV) (vs:List Value) (r:PV),(∀b,F b→b<w.heap.size)→VRl w F xs vs→spec xs=some r→∃x y:PV,r=.tup [x,y]∧
  Calls P f vs.toArray w fun e w'=>∃vx vy,e=.returned (.tuple #[vx,vy])∧Below w.heap.size w w'∧∀F':Nat→Prop,(∀b,F b→F' b)→(∀b,w.heap.size≤b→b<w'.heap.size→F' b)→VR w' F' x vx∧VR w' F' y vy):
 FnOk P ⟨f,List.replicate n (.ck .val),.grp true [.val,.val],false,spec⟩:=by
 refine ⟨fun args w=> ?_,rfl,fun w F xs vs r hF hargs hr=> ?_,fun _ _ _ _ hc=>(by cases hc),fun _ _ _ hc=>(by cases n<;>cases hc),fun _ _ _ hc=>(by cases n<;>cases hc),fun hc=>(by cases hc)⟩
 ·have h1:fn.name≠ "runtime.NumGoroutine":=by simpa using hname
  have h2:fn.body≠none:=fun e=>by rw[e] at hb;cases hb
  simp[callFunc,hf,h1,h2]
 ·obtain ⟨x,y,rfl,hc⟩:=H w F xs vs r hF (Zlk hargs) hr
  refine hc.mono fun en w' hp=> ?_
  obtain ⟨vx,vy,rfl,hbl,hv⟩:=hp
  obtain ⟨h1,h2⟩:=hv (fun b=>F b∨(w.heap.size≤b∧b<w'.heap.size)) (fun b h=>.inl h) (fun b h h'=>.inr ⟨h,h'⟩)
  refine ⟨_,fun b=>F b∨(w.heap.size≤b∧b<w'.heap.size),[],rfl,⟨hbl.os,hbl.tape,hbl.output,hbl.size,hbl.block,fun _ h=>.inl h,fun _ h=>h.imp id (·.1),fun b h=> ?_⟩,List.nodup_nil, ?_,by simp,fun h=>by cases h⟩
  ·rcases h with h|h
   ·exact Nat.lt_of_lt_of_le (hF b h) hbl.size
   ·exact h.2
  ·exact ⟨#[vx,vy],[x,y],[[],[]],rfl,rfl,.cons ⟨h1,rfl⟩ (fun h=>by cases h) (.cons ⟨h2,rfl⟩ (fun h=>by cases h) .nil),rfl⟩
theorem VR.lst_form {w:World} {F:Nat→Prop} {l:List PV} {v:Value} (h:VR w F (.lst l) v):∃A c,v=.slice A l.length c:=by
 cases h;exact ⟨_,_,rfl⟩
theorem VR.agg3 {w:World} {F:Nat→Prop} {a b c:PV} {v:Value} (h:VR w F (.agg [a,b,c]) v):∃x y z,v=.agg #[x,y,z]∧VR w F a x∧VR w F b y∧VR w F c z:=by
 cases h with
 | agg l cs k1 k2 k3=>
  have hs:cs.size=3:=k1.symm
  refine ⟨cs.getD 0 Go.undef,cs.getD 1 Go.undef,cs.getD 2 Go.undef, ?_,k3 0 _ rfl,k3 1 _ rfl,k3 2 _ rfl⟩
  congr 1
  apply Array.ext
  ·simp[hs]
  ·intro i h1 h2
   match i with
   |0=>simp[hs]
   |1=>simp[hs]
   |2=>simp[hs]
   |i+3=>simp at h2;omega
theorem VR.agg2 {w:World} {F:Nat→Prop} {a b:PV} {v:Value} (h:VR w F (.agg [a,b]) v):∃x y,v=.agg #[x,y]∧VR w F a x∧VR w F b y:=by
 cases h with
 | agg l cs k1 k2 k3=>
  have hs:cs.size=2:=k1.symm
  refine ⟨cs.getD 0 Go.undef,cs.getD 1 Go.undef, ?_,k3 0 _ rfl,k3 1 _ rfl⟩
  congr 1
  apply Array.ext
  ·simp[hs]
  ·intro i h1 h2
   match i with
   |0=>simp[hs]
   |1=>simp[hs]
   |i+2=>simp at h2;omega
theorem Zt3 {w:World} {F:Nat→Prop} {a b c d e f:PV} {x1 x2 x3 x4 x5 x6:Value} (ho:a.one=true∧b.one=true∧c.one=true∧d.one=true∧e.one=true∧f.one=true)
 (h1:VR w F a x1) (h2:VR w F b x2) (h3:VR w F c x3) (h4:VR w F d x4) (h5:VR w F e x5) (h6:VR w F f x6):VR w F (.agg [a,b,c,d,e,f]) (.agg #[x1,x2,x3,x4,x5,x6]):=by
 refine VR.of_cells rfl fun i y hy=> ?_
 match i with
 |0=>simp at hy;subst hy;exact ⟨ho.1,h1⟩
 |1=>simp at hy;subst hy;exact ⟨ho.2.1,h2⟩
 |2=>simp at hy;subst hy;exact ⟨ho.2.2.1,h3⟩
 |3=>simp at hy;subst hy;exact ⟨ho.2.2.2.1,h4⟩
 |4=>simp at hy;subst hy;exact ⟨ho.2.2.2.2.1,h5⟩
 |5=>simp at hy;subst hy;exact ⟨ho.2.2.2.2.2,h6⟩
 |i+6=>simp at hy
theorem ZkF {w:World} {F:Nat→Prop}:VR w F (.lst []) (.slice none 0 0):=
 .lst [] none 0 0 (fun _=>Go.undef) (by simp) (by simp[maxLen]) (fun h=>absurd rfl h) (fun i x h=>by simp at h) (fun i x h=>by simp at h)
def pArc (a:Zel):PV:=.agg [pI a.1,pI a.2.1,pB a.2.2.1,pI a.2.2.2]
def Zww :PV→Option Zel
 |.agg [.int .i64 f,.int .i64 s,.bool u,.int .i64 t]=>some (f,s,u,t)
 |_=>none
def ZgO :List PV→Option (List Zel)
 |[]=>some []
 | x::l=>match Zww x,ZgO l with
  |some e,some r=>some (e::r)
  |_,_=>none
theorem Zwx {v:PV} {e:Zel} (h:Zww v=some e):v=pArc e:=by
 unfold Zww at h
 split at h
 ·cases h;rfl
 ·cases h
theorem Zoo :∀{l:List PV} {es:List Zel},ZgO l=some es→l=es.map pArc
 |[],es,h=>by cases h;rfl
 | x::l,es,h=>by
  unfold ZgO at h
  split at h
  ·rename_i e r h1 h2
   cases h
   rw[List.map_cons,←Zwx h1,←Zoo h2]
  ·cases h
theorem Zm5 :∀es:List Zel,ZgO (es.map pArc)=some es
 |[]=>rfl
 |e::es=>by rw[List.map_cons];unfold ZgO;rw[Zm5 es];rfl
def Zj1 (n m:Nat) (a:Zel):Bool:=decide (0≤a.1∧a.1<n∧0≤a.2.1∧a.2.1<m∧ -9223372036854775808≤a.2.2.2∧a.2.2.2≤9223372036854775807)
theorem Zwy {a:Zel} (h1:InI a.1) (h2:InI a.2.1) (h3:InI a.2.2.2):ZdJ Zm8 pArc a:=fun w D u hu=>by
 cases hu with
 | agg l cs k1 k2 k3=>
  have hs:cs.size=4:=k1.symm
  have a0:=k3 0 _ rfl
  have a1:=k3 1 _ rfl
  have a2:=k3 2 _ rfl
  have a3:=k3 3 _ rfl
  have e2:cs.toList=[cs.getD 0 Go.undef,cs.getD 1 Go.undef,cs.getD 2 Go.undef,cs.getD 3 Go.undef]:=by
   apply List.ext_getElem?
   intro i
   match i with
   |0=>simp[hs]
   |1=>simp[hs]
   |2=>simp[hs]
   |3=>simp[hs]
   |i+4=>simp[hs]
  refine ⟨[cs.getD 0 Go.undef],[cs.getD 1 Go.undef,cs.getD 2 Go.undef,cs.getD 3 Go.undef],e2, ?_,[cs.getD 1 Go.undef],[cs.getD 2 Go.undef,cs.getD 3 Go.undef],rfl, ?_,[cs.getD 2 Go.undef],[cs.getD 3 Go.undef],rfl, ?_, ?_⟩
  ·exact ⟨by rw[VR.int_eq a0],h1⟩
  ·exact ⟨by rw[VR.int_eq a1],h2⟩
  ·show _=_
   rw[VR.bool_eq a2]
  ·exact ⟨by rw[VR.int_eq a3],h3⟩
theorem Zwz {w:World} {F:Nat→Prop} {base:Nat} {A:Option Addr} {c:Nat} {T e:TypeId} {m:Nat} {q:List RQ} {R:List (List Int)} (h:RR w base A c T e m q) (hR:q.map (·.2.2)=R) (hF:∀b,base≤b→b<w.heap.size→F b):VR w F (.lst (R.map Zrw)) (.slice A q.length c):=by
 subst hR
 exact h.vr hF
end Go.Proofs.YtkgnjijonikchaaGreat
