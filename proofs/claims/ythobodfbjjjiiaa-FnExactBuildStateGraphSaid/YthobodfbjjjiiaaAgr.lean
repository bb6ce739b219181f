import Derived.Test.YthobodfbjjjiiaaRows
import Derived.Test.YthobodfbjjjiiaaBase
import Derived.Test.YthobodfbjjjiiaaHnd
import Derived.Deep.QuietTactic
import Derived.BigQuiet
namespace Go.Proofs.Ythobodfbjjjiiaa
open Go.RowKit
set_option linter.unusedVariables false
set_option linter.unusedSimpArgs false
def ZfT (a b:Int):Bool×Bool:=if a=b then (true,false) else if a=0 then (true,true) else if b=0 then (true,true) else (false,false)
def ZfU (a b:Int):Int×Int:=if a=b then (a,b) else if a=0 then (b,b) else if b=0 then (a,a) else (a,b)
theorem Zcg {w:World} {p:Addr} {v:Value} (h:w.cell? p=some v):(w.setCell p v).heap=w.heap:=by
 unfold World.cell? at h
 split at h
 case h_2=>cases h
 rename_i c e fr hh
 split at h
 case isTrue=>cases h
 rename_i hs
 have hlt:=(Array.getElem?_eq_some_iff.1 hh).1
 have hcl:=(Array.getElem?_eq_some_iff.1 h).1
 apply Array.ext_getElem?
 intro i
 show (w.heap.modify p.block _)[i]?=_
 rw[Array.getElem?_modify]
 by_cases hi:p.block=i
 ·subst hi
  rw[if_pos rfl,hh]
  simp only[Option.map_some,hs,Bool.false_eq_true,if_false]
  congr 2
  apply Array.ext_getElem?
  intro j
  rw[Array.getElem?_setIfInBounds]
  by_cases hj:p.off=j
  ·subst hj
   rw[if_pos rfl,if_pos hcl,h]
  ·rw[if_neg hj]
 ·rw[if_neg hi]
theorem Zdj {w w':World} (h:w'.heap=w.heap) (p:Addr) (v:Value):(w'.setCell p v).heap=(w.setCell p v).heap:=by unfold World.setCell;rw[h]
theorem Ztn (p1 p2:Addr) (n1 n2:Int) (w:World) (c1:w.cell? p1=some (.int .u8 n1)) (f1:w.frozen? p1=false) (c2:w.cell? p2=some (.int .u8 n2)) (f2:w.frozen? p2=false):
 Calls Try.prog 56 #[.pointer (some p1),.pointer (some p2)] w fun e w'=>e=.returned (.tuple #[.bool (ZfT n1 n2).1,.bool (ZfT n1 n2).2])∧w'.os=w.os∧w'.tape=w.tape∧w'.output=w.output∧w'.heap=((w.setCell p1 (.int .u8 (ZfU n1 n2).1)).setCell p2 (.int .u8 (ZfU n1 n2).2)).heap:=by
 have s1:=Zcg c1
 have s2:((w.setCell p1 (.int .u8 n1)).setCell p2 (.int .u8 n2)).heap=w.heap:=(Zdj s1 p2 _).trans (Zcg c2)
 have s3:∀v,((w.setCell p1 (.int .u8 n1)).setCell p2 v).heap=(w.setCell p2 v).heap:=fun v=>Zdj s1 p2 v
 by_cases h1:n1=n2
 ·subst h1
  simp only[ZfT,ZfU,if_true]
  go_enter Try.func56,Try.ntmps56
  go_wp2_with fail
  go_quiet (fail)
  go_wp2_with fail
  go_ret2
  exact ⟨rfl,rfl,rfl,rfl,s2.symm⟩
 ·have q1:decide (n1=n2)=false:=by simp[h1]
  by_cases h2:n1=0
  ·subst h2
   simp only[ZfT,ZfU,h1,if_false,if_true]
   have s4:((w.setCell p1 (.int .u8 n2)).setCell p2 (.int .u8 n2)).heap=(w.setCell p1 (.int .u8 n2)).heap:=by
    refine Zcg ?_
    by_cases hp:p1=p2
    ·subst hp;exact World.cell?_setCell_same w p1 _ c1
    ·rw[World.cell?_setCell_other w p1 p2 _ hp];exact c2
   go_enter Try.func56,Try.ntmps56
   go_wp2_with fail
   go_quiet (fail)
   go_wp2_with fail
   go_ret2
   exact ⟨rfl,rfl,rfl,rfl,(Zdj (w:=w) rfl p1 _).trans s4.symm⟩
  ·have q2:decide (n1=0)=false:=by simp[h2]
   by_cases h3:n2=0
   ·subst h3
    simp only[ZfT,ZfU,h1,h2,if_false,if_true]
    go_enter Try.func56,Try.ntmps56
    go_wp2_with fail
    go_quiet (fail)
    go_wp2_with fail
    go_ret2
    exact ⟨rfl,rfl,rfl,rfl,(Zdj (w:=w) rfl p2 _).trans (s3 _).symm⟩
   ·have q3:decide (n2=0)=false:=by simp[h3]
    simp only[ZfT,ZfU,h1,h2,h3,if_false]
    go_enter Try.func56,Try.ntmps56
    go_wp2_with fail
    go_quiet (fail)
    go_wp2_with fail
    go_ret2
    exact ⟨rfl,rfl,rfl,rfl,s2.symm⟩
theorem ptrOk {P:Program} {f:FuncId} {fn:Func} (hf:P.funcs[f]?=some fn) (hname:(fn.name== "runtime.NumGoroutine")=false) (hb:fn.body.isSome=true) (spec:List PV→Option PV) (h2:∀x y,spec [x,y]=none)
 (H:∀(w:World) (p1 p2:Addr) (n1 n2 y1 y2:Int) (b1 b2:Bool),w.cell? p1=some (.int .u8 n1)→w.frozen? p1=false→w.cell? p2=some (.int .u8 n2)→w.frozen? p2=false→spec [.bool true,.int .u8 n1,.int .u8 n2]=some (.tup [.bool b1,.bool b2,.int .u8 y1,.int .u8 y2])→
  Calls P f #[.pointer (some p1),.pointer (some p2)] w fun en w'=>en=.returned (.tuple #[.bool b1,.bool b2])∧w'.os=w.os∧w'.tape=w.tape∧w'.output=w.output∧w'.heap=((w.setCell p1 (.int .u8 y1)).setCell p2 (.int .u8 y2)).heap):
 FnOk P ⟨f,[.bxf 0 0,.bxf 0 0],.ck .none,false,spec⟩:=by
 refine ⟨fun args w=> ?_,rfl,fun w F xs vs r hF hargs hr=> ?_,fun _ _ _ hc=>(by cases hc),fun _ _ _ hc=>(by cases hc),fun _ _ _ hc=>(by cases hc),fun _ _=>H⟩
 ·have h1:fn.name≠ "runtime.NumGoroutine":=by simpa using hname
  have h2:fn.body≠none:=fun e=>by rw[e] at hb;cases hb
  simp[callFunc,hf,h1,h2]
 ·exfalso
  cases hargs with
  | cons _ _ t=>
   cases t with
   | cons _ _ t=>
    cases t
    rw[show (Ent.spec ⟨f,[.bxf 0 0,.bxf 0 0],.ck .none,false,spec⟩)=spec from rfl,h2] at hr
    cases hr
end Go.Proofs.Ythobodfbjjjiiaa
