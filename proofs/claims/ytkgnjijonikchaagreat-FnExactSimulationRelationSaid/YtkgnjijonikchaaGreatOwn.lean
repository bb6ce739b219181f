import Derived.Test.YtkgnjijonikchaaGreatJoin
import Derived.Test.YtkgnjijonikchaaGreatBase3
import Derived.Test.YtkgnjijonikchaaGreatMark
namespace Go.Proofs.YtkgnjijonikchaaGreat
open Go.RowKit
set_option linter.unusedVariables false
set_option linter.unusedSimpArgs false
theorem Zs0 {β:Type} (s:Nat) (L:List β):∀n,((List.range n).map fun i=>(L.drop (i * s)).take s).flatten=L.take (n * s)
 |0=>by simp
 | n+1=>by
  rw[List.range_succ,List.map_append,List.flatten_append,Zs0 s L n,Nat.succ_mul,List.take_add]
  simp
def Zme {α:Type} (S:Sh α) (f:α→PV) (x:α):Prop:=∀(w w':World) (F:Nat→Prop) (u:Value),VR w F (f x) u→S.rep w' (fun _=>False) u.cells.toList x
theorem Zs1 {α:Type} {S:Sh α} {f:α→PV} {w:World} {F:Nat→Prop} {base:Nat} {e:TypeId} {l:List α} {v:Value} {fp:List Nat} (H:∀x∈l,Zme S f x)
 (hr:Zci w F true e S.size (l.map f) v fp) (hb:∀b∈fp,base≤b):∃A c,v=.slice A l.length c∧Own S w base e A c l:=by
 rcases hr with ⟨rfl,hl,_⟩|⟨g,cap,cur,fr,rfl,rfl,hh,hfr,_,hle,hmax,hsz,hel⟩
 ·obtain rfl:l=[]:=by simpa using hl
  exact ⟨none,0,rfl,Own.nil_⟩
 ·have hle':l.length≤cap:=by simpa using hle
  refine ⟨some ⟨g,0,none⟩,cap,by simp,(List.range l.length).map fun i=>(cur.toList.drop (i * S.size)).take S.size,⟨?_,.inr ⟨g,cap,cur,by simp,hb g (by simp),by rw[hh,hfr rfl],hle',hmax,hsz, ?_⟩⟩,by simp, ?_⟩
  ·rw[Zs0,List.length_take]
   simp only[Array.length_toList,hsz]
   exact Nat.min_eq_left (Nat.mul_le_mul_right _ hle')
  ·rw[Zs0]
  ·intro k x cs hk hcs
   have hkl:k<l.length:=(List.getElem?_eq_some_iff.1 hk).1
   obtain ⟨h1,h2,u,h3,h4⟩:=hel k (f x) (by rw[List.getElem?_map,hk];rfl)
   have hrep:=H x (List.mem_of_getElem? hk) w w F u h3
   have hlen:=S.len hrep
   have:cs=u.cells.toList:=by
    rw[List.getElem?_map,List.getElem?_range hkl] at hcs
    simp only[Option.map_some,Option.some.injEq] at hcs
    subst hcs
    have hroom:(k+1) * S.size≤cur.size:=by rw[hsz];exact Nat.mul_le_mul_right _ (by omega)
    rw[Nat.succ_mul] at hroom
    apply List.ext_getElem?
    intro j
    by_cases hj:j<S.size
    ·rw[List.getElem?_take_of_lt hj,List.getElem?_drop]
     have hju:j<u.cells.toList.length:=by rw[hlen];exact hj
     have hu:u.cells[j]?=some (u.cells.toList[j]):=by simp[←Array.getElem?_toList,List.getElem?_eq_getElem hju]
     have:=h4 j _ hu
     rw[Array.getElem?_toList,this,List.getElem?_eq_getElem hju]
    ·rw[List.getElem?_eq_none (by rw[List.length_take];omega),List.getElem?_eq_none (by omega)]
   rw[this]
   exact S.keep hrep (fun _ h=>h.elim) (fun _ h=>h)
def Zj7 {α:Type} (S:Sh α) (f:α→PV) (x:α):Prop:=∀(w:World) (D:Nat→Prop) (u:Value),VR w D (f x) u→S.rep w D u.cells.toList x
theorem Zwt {n:Int} (h:InI n):Zj7 ZG pI n:=fun w D u hu=>by cases hu;exact ⟨rfl,h⟩
theorem Zvx {α:Type} {S:Sh α} {f:α→PV} {l:List α} (H:∀x∈l,Zj7 S f x) {w:World} {D:Nat→Prop} {x:PV} {v:Value} (hx:x=.lst (l.map f)) (h:VR w D x v):
 ∃A c,v=.slice A l.length c∧RSl S w D A l∧l.length≤c∧c≤maxLen:=by
 cases h with
 | lst l0 A c sz vs h1 h2 h3 h4 h5=>
  cases hx
  refine ⟨A,c,by simp,fun hne=> ?_,by simpa using h1,h2⟩
  obtain ⟨b,off,hA,hD,hc⟩:=h3 (by simpa using hne)
  refine ⟨b,off,hA,hD,fun k y hk=> ?_⟩
  have hk':(l.map f)[k]?=some (f y):=by rw[List.getElem?_map,hk];rfl
  have hrep:=H y (List.mem_of_getElem? hk) w D _ (h5 k _ hk')
  have hsz:sz=S.size:=by rw[←(h4 k _ hk').2,←S.len hrep];simp
  refine ⟨(vs k).cells.toList,hrep,fun j u hu=> ?_⟩
  have:=hc k (by rw[List.length_map];exact (List.getElem?_eq_some_iff.1 hk).1) j u (by simpa using hu)
  rw[←hsz]
  exact this
 |_=>cases hx
variable {P :Program}
theorem FnOk.ownBool {α:Type} {S:Sh α} {f:α→PV} {e:Ent} (he:FnOk P e) {t:TypeId} {sz:Nat} (hrk:e.rk=.grp true [.own true t sz,.val]) (hsz:sz=S.size) {w:World} {xs:List PV} {vs:List Value} {l:List α} {b:Bool} (hps:e.ps=List.replicate xs.length (.ck .val)) (hx:VRs w (fun b=>b<w.heap.size) xs vs)
 (hs:e.spec xs=some (.tup [.lst (l.map f),pB b])) (H:∀x∈l,Zme S f x) (hg:GOk w (fun b=>b<w.heap.size):=by first|exact gok0|assumption):
 Calls P e.f vs.toArray w fun en w'=>∃A c,en=.returned (.tuple #[.slice A l.length c,.bool b])∧Own S w' w.heap.size t A c l∧Below w.heap.size w w':=by
 subst hsz
 refine (he.call w (fun b=>b<w.heap.size) xs vs _ ⟨fun _ h=>h,hg⟩ (by rw[hps];exact Zmf hx) hs).mono ?_
 rintro en w' ⟨v,F',l',rfl,ha,_,hsr,hfresh,_⟩
 rw[hrk] at hsr
 obtain ⟨cs,ys,fps,hv,hy,hg,hfp⟩:=hsr
 simp only[if_true,PV.tup.injEq] at hv hy
 subst hy
 subst hfp
 obtain ⟨cl⟩:=cs
 subst hv
 dsimp only at hg
 cases hg with
 | cons h1 _ t=>
  cases t with
  | cons h2 _ t=>
   cases t
   obtain ⟨l0,h0,h1⟩:=h1
   cases h0
   obtain ⟨h2,rfl⟩:=h2
   cases h2
   obtain ⟨A,c,rfl,ho⟩:=Zs1 (base:=w.heap.size) H h1 (fun b hb=>(hfresh b (by simp[hb])).1)
   exact ⟨A,c,rfl,ho,ha.below⟩
end Go.Proofs.YtkgnjijonikchaaGreat
