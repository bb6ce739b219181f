import Derived.Test.YtenddofcogldfaaGreatDoorOwn
import Derived.Test.YtenddofcogldfaaGreatDoorJoin
import Derived.Test.YtenddofcogldfaaGreatDoorBase3
namespace Go.Proofs.YtenddofcogldfaaGreatDoor
open Go.RowKit
set_option linter.unusedVariables false
set_option linter.unusedSimpArgs false
def pSt (e:Nat×Nat):PV:=.agg [pI e.1,pI e.2]
theorem Zj2 {α:Type} {S:Sh α} {f:α→PV} {l:List α} (H:∀x∈l,Zej S f x) {w:World} {F:Nat→Prop} (hF:∀b,F b→b<w.heap.size) {v:Value} (h:VR w F (.lst (l.map f)) v):
 ∃A c,v=.slice A l.length c∧RA S w A l∧l.length≤c∧c≤maxLen:=by
 obtain ⟨A,c,e,h1,h2,h3⟩:=Zd3 H rfl h
 exact ⟨A,c,e,h1.keep (fun _ _=>rfl) hF,h2,h3⟩
variable {P :Program}
theorem valOkG {f:FuncId} {fn:Func} (hf:P.funcs[f]?=some fn) (hname:(fn.name== "runtime.NumGoroutine")=false) (hb:fn.body.isSome=true) (n:Nat) (spec:List PV→Option PV)
 (H:∀(w:World) (F:Nat→Prop) (xs:List PV) (vs:List Value) (r:PV),FOk w F→VRl w F xs vs→spec xs=some r→r.sc=true∧∃v,(∀w' F',VR w' F' r v)∧Calls P f vs.toArray w fun e w'=>e=.returned v∧Below w.heap.size w w'):
 FnOk P ⟨f,List.replicate n (.ck .val),.ck .val,true,spec⟩:=by
 refine ⟨fun args w=> ?_,rfl,fun w F xs vs r hF hargs hr=> ?_,fun _ _ _ _ hc=>(by cases hc),fun _ _ _ hc=>(by cases n<;>cases hc),fun _ _ hK hc=>(by cases n<;>cases hc<;>cases hK),fun hc=>(by cases hc)⟩
 ·have h1:fn.name≠ "runtime.NumGoroutine":=by simpa using hname
  have h2:fn.body≠none:=fun e=>by rw[e] at hb;cases hb
  simp[callFunc,hf,h1,h2]
 ·obtain ⟨hsc,v,hv,hc⟩:=H w F xs vs r hF (Zps hargs) hr
  refine hc.mono fun en w' hp=> ?_
  obtain ⟨rfl,hb⟩:=hp
  exact ⟨v,F,[],rfl,⟨hb.os,hb.tape,hb.output,hb.size,hb.block,fun _ h=>h,fun _ h=>.inl h,fun b h=>Nat.lt_of_lt_of_le (hF b h) hb.size⟩,List.nodup_nil,⟨hv _ _,rfl⟩,by simp,fun _ _=>⟨hv _ _,rfl⟩⟩
end Go.Proofs.YtenddofcogldfaaGreatDoor
