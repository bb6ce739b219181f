import Derived.Test.YtkgnjijonikchaaGreatOwn
import Derived.Test.YtkgnjijonikchaaGreatJoin
import Derived.Test.YtkgnjijonikchaaGreatBase3
namespace Go.Proofs.YtkgnjijonikchaaGreat
open Go.RowKit
set_option linter.unusedVariables false
set_option linter.unusedSimpArgs false
theorem ZsV {l:List Int} {w:World} {F:Nat→Prop} {base:Nat} {e:TypeId} {A:Option Addr} {c:Nat} (h:Own Zx w base e A c l):
 ∃fp,ZbV w F true e 1 (l.map pI) (.slice A l.length c) fp∧fp.Nodup∧∀b∈fp,base≤b∧b<w.heap.size:=by
 obtain ⟨css,⟨hlen,hrow⟩,hcl,hcx⟩:=h
 rcases hrow with ⟨hv,hl⟩|⟨g,cap,cur,hv,hbg,hg,hle,hmax,hsz,htk⟩
 ·obtain rfl:l=[]:=List.eq_nil_of_length_eq_zero hl
  exact ⟨[],.inl ⟨by rw[hv],rfl,rfl⟩,List.nodup_nil,by simp⟩
 ·refine ⟨[g],.inr ⟨g,cap,cur,(0,0),by rw[hv];simp,rfl,hg,fun _=>rfl,.inl (Nat.le_refl _),by simpa using hle,hmax,hsz,fun i x hx=> ?_⟩,by simp,fun b hb=> ?_⟩
  ·rw[List.getElem?_map,Option.map_eq_some_iff] at hx
   obtain ⟨z,hz,rfl⟩:=hx
   have hzl:i<l.length:=(List.getElem?_eq_some_iff.1 hz).1
   obtain ⟨cs,hcs⟩:∃cs,css[i]?=some cs:=⟨css[i]'(by omega),List.getElem?_eq_getElem (by omega)⟩
   have hr:=hcx i z cs hz hcs
   obtain ⟨rfl,hI⟩:cs=[.int .i64 z]∧InI z:=hr
   refine ⟨rfl,by simp,.int .i64 z,.int _ _,fun j c hj=> ?_⟩
   have hj0:j=0:=by
    have:=Array.getElem?_eq_some_iff.1 hj
    obtain ⟨h1,_⟩:=this
    have:(Value.int IntKind.i64 z).cells.size=1:=rfl
    omega
   subst hj0
   have hc:c=.int .i64 z:=by
    have:(Value.int IntKind.i64 z).cells[0]?=some (.int .i64 z):=rfl
    rw[this] at hj;exact (Option.some.inj hj).symm
   subst hc
   have hf:css.flatten[i * 1+0]?=some (.int .i64 z):=Zhp css (fun cs hcs=>by
    obtain ⟨k,hk⟩:=List.getElem?_of_mem hcs
    have hkl:=(List.getElem?_eq_some_iff.1 hk).1
    obtain ⟨y,hy⟩:∃y,l[k]?=some y:=⟨l[k]'(by omega),List.getElem?_eq_getElem (by omega)⟩
    obtain ⟨h1,_⟩:cs=[.int .i64 y]∧InI y:=hcx k y cs hy hk
    rw[h1];rfl) i 0 _ _ hcs rfl
   rw[←htk] at hf
   have hf2:cur.toList[i * 1+0]?=some (.int .i64 z):=by
    rw[List.getElem?_take] at hf
    split at hf
    ·exact hf
    ·cases hf
   simpa using hf2
  ·rw[List.mem_singleton] at hb;subst hb
   exact ⟨hbg,(Array.getElem?_eq_some_iff.1 hg).1⟩
def pSt (e:Nat×Nat):PV:=.agg [pI e.1,pI e.2]
def stOf :PV→Option (Nat×Nat)
 |.agg [.int .i64 a,.int .i64 b]=>if 0≤a∧0≤b then some (a.toNat,b.toNat) else none
 |_=>none
theorem Zxi {v:PV} {e:Nat×Nat} (h:stOf v=some e):v=pSt e:=by
 unfold stOf at h
 split at h
 case h_2=>cases h
 rename_i a b
 split at h
 case isFalse=>cases h
 rename_i hab
 cases h
 show _=PV.agg [.int .i64 ((a.toNat:Nat):Int),.int .i64 ((b.toNat:Nat):Int)]
 rw[Int.toNat_of_nonneg hab.1,Int.toNat_of_nonneg hab.2]
theorem Zwv (e:Nat×Nat):stOf (pSt e)=some e:=by
 show (if (0:Int)≤e.1∧(0:Int)≤e.2 then some ((e.1:Int).toNat,(e.2:Int).toNat) else none)=_
 rw[if_pos ⟨by omega,by omega⟩]
 simp
def Zm3 :List PV→Option (List (Nat×Nat))
 |[]=>some []
 | x::l=>match stOf x,Zm3 l with
  |some e,some r=>some (e::r)
  |_,_=>none
theorem Zrs :∀{l:List PV} {es:List (Nat×Nat)},Zm3 l=some es→l=es.map pSt
 |[],es,h=>by cases h;rfl
 | x::l,es,h=>by
  unfold Zm3 at h
  split at h
  ·rename_i e r h1 h2
   cases h
   rw[List.map_cons,←Zxi h1,←Zrs h2]
  ·cases h
theorem Zon :∀es:List (Nat×Nat),Zm3 (es.map pSt)=some es
 |[]=>rfl
 |e::es=>by rw[List.map_cons];unfold Zm3;rw[Zwv,Zon es]
theorem ZuX {S:Sh (Nat×Nat)} (hS:S=Sh.via (ZaI Zx Zx) (fun e=>((e.1:Int),(e.2:Int)))) {e:Nat×Nat} (h1:e.1≤1000000) (h2:e.2≤1000000):ZdJ S pSt e:=fun w D u hu=>by
 subst hS
 cases hu with
 | agg l cs k1 k2 k3=>
  have hs:cs.size=2:=k1.symm
  have a0:=k3 0 _ rfl
  have a1:=k3 1 _ rfl
  have e2:cs.toList=[cs.getD 0 Go.undef,cs.getD 1 Go.undef]:=by
   apply List.ext_getElem?
   intro i
   match i with
   |0=>simp[hs]
   |1=>simp[hs]
   |i+2=>simp[hs]
  refine ⟨[cs.getD 0 Go.undef],[cs.getD 1 Go.undef],e2, ?_, ?_⟩
  ·cases h:cs.getD 0 Go.undef<;>rw[h] at a0<;>cases a0<;>exact ⟨rfl,by show InI (e.1:Int);constructor<;>omega⟩
  ·cases h:cs.getD 1 Go.undef<;>rw[h] at a1<;>cases a1<;>exact ⟨rfl,by show InI (e.2:Int);constructor<;>omega⟩
theorem Zm4 {α:Type} {S:Sh α} {f:α→PV} {l:List α} (H:∀x∈l,ZdJ S f x) {w:World} {F:Nat→Prop} (hF:∀b,F b→b<w.heap.size) {v:Value} (h:VR w F (.lst (l.map f)) v):
 ∃A c,v=.slice A l.length c∧RA S w A l∧l.length≤c∧c≤maxLen:=by
 obtain ⟨A,c,e,h1,h2,h3⟩:=ZhS H rfl h
 exact ⟨A,c,e,h1.keep (fun _ _=>rfl) hF,h2,h3⟩
variable {P :Program}
theorem rowOk {f:FuncId} {fn:Func} (hf:P.funcs[f]?=some fn) (hname:(fn.name== "runtime.NumGoroutine")=false) (hb:fn.body.isSome=true) (n:Nat) (t:TypeId) (spec:List PV→Option PV)
 (H:∀(w:World) (F:Nat→Prop) (xs:List PV) (vs:List Value) (r:PV),(∀b,F b→b<w.heap.size)→VRl w F xs vs→spec xs=some r→∃l:List Int,r=.lst (l.map pI)∧
  Calls P f vs.toArray w fun e w'=>∃A c,e=.returned (.slice A l.length c)∧Own Zx w' w.heap.size t A c l∧Below w.heap.size w w'):
 FnOk P ⟨f,List.replicate n (.ck .val),.ck (.own true t 1),false,spec⟩:=by
 refine ⟨fun args w=> ?_,rfl,fun w F xs vs r hF hargs hr=> ?_,fun _ _ _ _ hc=>(by cases hc),fun _ _ _ hc=>(by cases n<;>cases hc),fun _ _ _ hc=>(by cases n<;>cases hc),fun hc=>(by cases hc)⟩
 ·have h1:fn.name≠ "runtime.NumGoroutine":=by simpa using hname
  have h2:fn.body≠none:=fun e=>by rw[e] at hb;cases hb
  simp[callFunc,hf,h1,h2]
 ·obtain ⟨l,rfl,hc⟩:=H w F xs vs r hF (Zlk hargs) hr
  refine hc.mono fun en w' hp=> ?_
  obtain ⟨A,c,rfl,ho,hbl⟩:=hp
  obtain ⟨fp,h1,h2,h3⟩:=ZsV (F:=F) ho
  exact ⟨_,F,fp,rfl,⟨hbl.os,hbl.tape,hbl.output,hbl.size,hbl.block,fun _ h=>h,fun _ h=>.inl h,fun b h=>Nat.lt_of_lt_of_le (hF b h) hbl.size⟩,h2,⟨_,rfl,h1⟩,fun b hb=>⟨(h3 b hb).1,(h3 b hb).2,fun hF'=>by have:=hF b hF';have:=(h3 b hb).1;omega⟩,fun h=>by cases h⟩
end Go.Proofs.YtkgnjijonikchaaGreat
