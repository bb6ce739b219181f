import Derived.Test.YtjjobbamoeaogaaDoorOwn
import Derived.Test.YtjjobbamoeaogaaDoorJoin
import Derived.Test.YtjjobbamoeaogaaDoorBase3
namespace Go.Proofs.YtjjobbamoeaogaaDoor
open Go.RowKit
set_option linter.unusedVariables false
set_option linter.unusedSimpArgs false
def pSt (e:Nat×Nat):PV:=.agg [pI e.1,pI e.2]
variable {P :Program}
theorem Zpm {w:World} {F:Nat→Prop} {zs:List (List UInt8)} {v:Value} (h:VR w F (.lst (zs.map PV.str)) v):
 ∃A c,v=.slice A zs.length c∧(zs≠[]→∃b off,A=some ⟨b,off,none⟩∧F b∧∀j s,zs[j]?=some s→w.cell? ⟨b,off+j,none⟩=some (.string ⟨s.toArray⟩))∧zs.length≤c:=by
 generalize hx:PV.lst (zs.map PV.str)=x at h
 cases h with
 | lst l A c sz vs h1 h2 h3 h4 h5=>
  cases hx
  refine ⟨A,c,by rw[List.length_map],fun h0=> ?_,by simpa using h1⟩
  obtain ⟨b,off,e,hb,hc⟩:=h3 (by simpa using h0)
  refine ⟨b,off,e,hb,fun j s hs=> ?_⟩
  have hj:(zs.map PV.str)[j]?=some (.str s):=by rw[List.getElem?_map,hs];rfl
  have hv:=h5 j _ hj
  have hw:=(h4 j _ hj).1
  have hsz:sz=1:=hw.symm
  subst hsz
  have hjl:=(List.getElem?_eq_some_iff.1 hj).1
  have hve:=VR.str_eq hv
  have:=hc j hjl 0 (.string ⟨s.toArray⟩) (by rw[hve];rfl)
  simpa using this
 |_=>cases hx
theorem valOk {f:FuncId} {fn:Func} (hf:P.funcs[f]?=some fn) (hname:(fn.name== "runtime.NumGoroutine")=false) (hb:fn.body.isSome=true) (n:Nat) (spec:List PV→Option PV)
 (H:∀(w:World) (F:Nat→Prop) (xs:List PV) (vs:List Value) (r:PV),(∀b,F b→b<w.heap.size)→VRl w F xs vs→spec xs=some r→r.sc=true∧∃v,(∀w' F',VR w' F' r v)∧Calls P f vs.toArray w fun e w'=>e=.returned v∧Below w.heap.size w w'):
 FnOk P ⟨f,List.replicate n (.ck .val),.ck .val,true,spec⟩:=by
 refine ⟨fun args w=> ?_,rfl,fun w F xs vs r hF hargs hr=> ?_,fun _ _ _ _ hc=>(by cases hc),fun _ _ _ hc=>(by cases n<;>cases hc),fun _ _ hK hc=>(by cases n<;>cases hc<;>cases hK),fun hc=>(by cases hc)⟩
 ·have h1:fn.name≠ "runtime.NumGoroutine":=by simpa using hname
  have h2:fn.body≠none:=fun e=>by rw[e] at hb;cases hb
  simp[callFunc,hf,h1,h2]
 ·obtain ⟨hsc,v,hv,hc⟩:=H w F xs vs r hF (ZlL hargs) hr
  refine hc.mono fun en w' hp=> ?_
  obtain ⟨rfl,hb⟩:=hp
  exact ⟨v,F,[],rfl,⟨hb.os,hb.tape,hb.output,hb.size,hb.block,fun _ h=>h,fun _ h=>.inl h,fun b h=>Nat.lt_of_lt_of_le (hF b h) hb.size⟩,List.nodup_nil,⟨hv _ _,rfl⟩,by simp,fun _ _=>⟨hv _ _,rfl⟩⟩
theorem Zs0 {w:World} {F:Nat→Prop} (t:TypeId) (zs:List (List UInt8)) (hm:zs.length≤maxLen):VR (w.alloc (.cells (zs.map fun s=>Value.string ⟨s.toArray⟩).toArray t)) (fun b=>F b∨b=w.heap.size) (.lst (zs.map PV.str)) (.slice (some ⟨w.heap.size,0,none⟩) zs.length zs.length):=by
 have h:=VR.lst (w:=w.alloc (.cells (zs.map fun s=>Value.string ⟨s.toArray⟩).toArray t)) (F:=fun b=>F b∨b=w.heap.size) (zs.map PV.str) (some ⟨w.heap.size,0,none⟩) zs.length 1 (fun i=>.string ⟨((zs[i]?).getD []).toArray⟩) (by simp) hm
  (fun _=>⟨w.heap.size,0,rfl,.inr rfl,fun i hi j u hu=> ?_⟩) (fun i x hx=> ?_) (fun i x hx=> ?_)
 ·simpa using h
 ·rw[List.length_map] at hi
  cases j with
  |succ j=>simp[Value.cells] at hu
  | zero=>
   simp[Value.cells] at hu
   subst hu
   rw[cell_of_row _ _ _ _ t (0,0) (heap_alloc_new w _)]
   simp[hi]
 ·rw[List.getElem?_map,Option.map_eq_some_iff] at hx
  obtain ⟨z,hz,rfl⟩:=hx
  exact ⟨rfl,by simp[Value.cells]⟩
 ·rw[List.getElem?_map,Option.map_eq_some_iff] at hx
  obtain ⟨z,hz,rfl⟩:=hx
  rw[hz]
  exact .str z
theorem ttOk {f:FuncId} {fn:Func} (hf:P.funcs[f]?=some fn) (hname:(fn.name== "runtime.NumGoroutine")=false) (hb:fn.body.isSome=true) (n:Nat) (t:TypeId) (spec:List PV→Option PV)
 (H:∀(w:World) (F:Nat→Prop) (xs:List PV) (vs:List Value) (r:PV),VRl w F xs vs→spec xs=some r→∃zs:List (List UInt8),r=.lst (zs.map PV.str)∧zs.length≤maxLen∧
  Calls P f vs.toArray w fun e w'=>e=.returned (.slice (some ⟨w.heap.size,0,none⟩) zs.length zs.length)∧w'=w.alloc (.cells (zs.map fun s=>Value.string ⟨s.toArray⟩).toArray t)):
 FnOk P ⟨f,List.replicate n (.ck .val),.tt,false,spec⟩:=by
 refine ⟨fun args w=> ?_,rfl,fun w F xs vs r hF hargs hr=> ?_,fun _ _ _ _ hc=>(by cases hc),fun _ _ _ hc=>(by cases n<;>cases hc),fun _ _ hK hc=>(by cases n<;>cases hc<;>cases hK),fun hc=>(by cases hc)⟩
 ·have h1:fn.name≠ "runtime.NumGoroutine":=by simpa using hname
  have h2:fn.body≠none:=fun e=>by rw[e] at hb;cases hb
  simp[callFunc,hf,h1,h2]
 ·obtain ⟨zs,rfl,hm,hc⟩:=H w F xs vs r (ZlL hargs) hr
  refine hc.mono fun en w' hp=> ?_
  obtain ⟨rfl,rfl⟩:=hp
  have hA:=(Adds.refl w hF.lt).allocF (.cells (zs.map fun s=>Value.string ⟨s.toArray⟩).toArray t)
  exact ⟨_,_,[],rfl,hA,List.nodup_nil,⟨⟨Zs0 t zs hm,_,_,rfl⟩,rfl⟩,by simp,fun h=>by cases h⟩
end Go.Proofs.YtjjobbamoeaogaaDoor
