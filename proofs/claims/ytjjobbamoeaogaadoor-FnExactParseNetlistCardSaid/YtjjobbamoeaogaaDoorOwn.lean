import Derived.Test.YtjjobbamoeaogaaDoorJoin
import Derived.Test.YtjjobbamoeaogaaDoorBase3
import Derived.Test.YtjjobbamoeaogaaDoorMark
namespace Go.Proofs.YtjjobbamoeaogaaDoor
open Go.RowKit
set_option linter.unusedVariables false
set_option linter.unusedSimpArgs false
theorem Zoh {β:Type} (s:Nat) (L:List β):∀n,((List.range n).map fun i=>(L.drop (i * s)).take s).flatten=L.take (n * s)
 |0=>by simp
 | n+1=>by
  rw[List.range_succ,List.map_append,List.flatten_append,Zoh s L n,Nat.succ_mul,List.take_add]
  simp
def ZlA {α:Type} (S:Sh α) (f:α→PV) (x:α):Prop:=∀(w w':World) (F:Nat→Prop) (u:Value),VR w F (f x) u→S.rep w' (fun _=>False) u.cells.toList x
theorem Zrf {s:List UInt8} (h:s.length≤9223372036854775807):ZlA ZB PV.str s:=fun w w' F u hu=>by cases hu;exact ⟨rfl,h⟩
theorem Zoi {α:Type} {S:Sh α} {f:α→PV} {w:World} {F:Nat→Prop} {base:Nat} {e:TypeId} {l:List α} {v:Value} {fp:List Nat} (H:∀x∈l,ZlA S f x)
 (hr:Zal w F true e S.size (l.map f) v fp) (hb:∀b∈fp,base≤b) (hS:S.size<dB:=by decide):∃A c,v=.slice A l.length c∧Own S w base e A c l:=by
 rw[Zr (Zaa hS)] at hr
 rcases hr with ⟨rfl,hl,_⟩|⟨g,cap,cur,fr,rfl,rfl,hh,hfr,_,hle,hmax,hsz,hel⟩
 ·obtain rfl:l=[]:=by simpa using hl
  exact ⟨none,0,rfl,Own.nil_⟩
 ·have hle':l.length≤cap:=by simpa using hle
  refine ⟨some ⟨g,0,none⟩,cap,by simp,(List.range l.length).map fun i=>(cur.toList.drop (i * S.size)).take S.size,⟨?_,.inr ⟨g,cap,cur,by simp,hb g (by simp),by rw[hh,hfr rfl],hle',hmax,hsz, ?_⟩⟩,by simp, ?_⟩
  ·rw[Zoh,List.length_take]
   simp only[Array.length_toList,hsz]
   exact Nat.min_eq_left (Nat.mul_le_mul_right _ hle')
  ·rw[Zoh]
  ·intro k x cs hk hcs
   have hkl:k<l.length:=(List.getElem?_eq_some_iff.1 hk).1
   obtain ⟨h1,h2,u,h3,h4⟩:=hel k (f x) (by rw[List.getElem?_map,hk];rfl)
   have hrep:=H x (List.mem_of_getElem? hk) w w F u h3
   have hlen:=S.len hrep
   have:cs=u.cells.toList:=by
    rw[List.getElem?_map,List.getElem?_range hkl] at hcs
    simp only[Option.map_some,Option.some.injEq] at hcs
    subst hcs
    have hroom:(k+1) * S.size≤cur.size:=by rw[hsz];exact Nat.mul_le_mul_right _ (by omega)
    rw[Nat.succ_mul] at hroom
    apply List.ext_getElem?
    intro j
    by_cases hj:j<S.size
    ·rw[List.getElem?_take_of_lt hj,List.getElem?_drop]
     have hju:j<u.cells.toList.length:=by rw[hlen];exact hj
     have hu:u.cells[j]?=some (u.cells.toList[j]):=by simp[←Array.getElem?_toList,List.getElem?_eq_getElem hju]
     have:=h4 j _ hu
     rw[Array.getElem?_toList,this,List.getElem?_eq_getElem hju]
    ·rw[List.getElem?_eq_none (by rw[List.length_take];omega),List.getElem?_eq_none (by omega)]
   rw[this]
   exact S.keep hrep (fun _ h=>h.elim) (fun _ h=>h)
theorem Zfk {α:Type} {S:Sh α} {f:α→PV} {w:World} {F:Nat→Prop} {base:Nat} {e:TypeId} {l:List α} {v:Value} {fp:List Nat} (H:∀x∈l,ZlA S f x)
 (hr:Zal w F true e S.size (l.map f) v fp) (hb:∀b∈fp,base≤b) (hS:S.size<dB:=by decide):∃A c,v=.slice A l.length c∧Own S w base e A c l∧∀q,blk A=some q→q∈fp:=by
 obtain ⟨A,c,rfl,ho⟩:=Zoi H hr hb hS
 refine ⟨A,c,rfl,ho,fun q hq=> ?_⟩
 rw[Zr (Zaa hS)] at hr
 rcases hr with ⟨hv,_,_⟩|⟨g,cap,cur,fr,hv,rfl,_⟩
 ·simp only[Value.slice.injEq] at hv
  obtain ⟨rfl,_,_⟩:=hv
  simp[blk] at hq
 ·simp only[Value.slice.injEq] at hv
  obtain ⟨rfl,_,_⟩:=hv
  simp[blk] at hq
  simp[hq]
def Zpn {α:Type} (S:Sh α) (f:α→PV) (x:α):Prop:=∀(w:World) (D:Nat→Prop) (u:Value),VR w D (f x) u→S.rep w D u.cells.toList x
theorem Ztp {s:List UInt8} (h:s.length≤9223372036854775807):Zpn ZB PV.str s:=fun w D u hu=>by cases hu;exact ⟨rfl,h⟩
theorem ZkX {α:Type} {S:Sh α} {f:α→PV} {l:List α} (H:∀x∈l,Zpn S f x) {w:World} {D:Nat→Prop} {x:PV} {v:Value} (hx:x=.lst (l.map f)) (h:VR w D x v):
 ∃A c,v=.slice A l.length c∧RSl S w D A l∧l.length≤c∧c≤maxLen:=by
 cases h with
 | lst l0 A c sz vs h1 h2 h3 h4 h5=>
  cases hx
  refine ⟨A,c,by simp,fun hne=> ?_,by simpa using h1,h2⟩
  obtain ⟨b,off,hA,hD,hc⟩:=h3 (by simpa using hne)
  refine ⟨b,off,hA,hD,fun k y hk=> ?_⟩
  have hk':(l.map f)[k]?=some (f y):=by rw[List.getElem?_map,hk];rfl
  have hrep:=H y (List.mem_of_getElem? hk) w D _ (h5 k _ hk')
  have hsz:sz=S.size:=by rw[←(h4 k _ hk').2,←S.len hrep];simp
  refine ⟨(vs k).cells.toList,hrep,fun j u hu=> ?_⟩
  have:=hc k (by rw[List.length_map];exact (List.getElem?_eq_some_iff.1 hk).1) j u (by simpa using hu)
  rw[←hsz]
  exact this
 |_=>cases hx
variable {P :Program}
end Go.Proofs.YtjjobbamoeaogaaDoor
