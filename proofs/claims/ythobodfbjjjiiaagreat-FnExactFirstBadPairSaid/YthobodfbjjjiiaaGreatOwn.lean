import Derived.Test.YthobodfbjjjiiaaGreatJoin
import Derived.Test.YthobodfbjjjiiaaGreatBase3
import Derived.Test.YthobodfbjjjiiaaGreatMark
namespace Go.Proofs.YthobodfbjjjiiaaGreat
open Go.RowKit
set_option linter.unusedVariables false
set_option linter.unusedSimpArgs false
def Zmp {α:Type} (S:Sh α) (f:α→PV) (x:α):Prop:=∀(w:World) (D:Nat→Prop) (u:Value),VR w D (f x) u→S.rep w D u.cells.toList x
theorem Zzz {n:Int} (h:InI n):Zmp ZI pI n:=fun w D u hu=>by cases hu;exact ⟨rfl,h⟩
theorem Zx4 {α:Type} {S:Sh α} {f:α→PV} {l:List α} (H:∀x∈l,Zmp S f x) {w:World} {D:Nat→Prop} {x:PV} {v:Value} (hx:x=.lst (l.map f)) (h:VR w D x v):
 ∃A c,v=.slice A l.length c∧RSl S w D A l∧l.length≤c∧c≤maxLen:=by
 cases h with
 | lst l0 A c sz vs h1 h2 h3 h4 h5=>
  cases hx
  refine ⟨A,c,by simp,fun hne=> ?_,by simpa using h1,h2⟩
  obtain ⟨b,off,hA,hD,hc⟩:=h3 (by simpa using hne)
  refine ⟨b,off,hA,hD,fun k y hk=> ?_⟩
  have hk':(l.map f)[k]?=some (f y):=by rw[List.getElem?_map,hk];rfl
  have hrep:=H y (List.mem_of_getElem? hk) w D _ (h5 k _ hk')
  have hsz:sz=S.size:=by rw[←(h4 k _ hk').2,←S.len hrep];simp
  refine ⟨(vs k).cells.toList,hrep,fun j u hu=> ?_⟩
  have:=hc k (by rw[List.length_map];exact (List.getElem?_eq_some_iff.1 hk).1) j u (by simpa using hu)
  rw[←hsz]
  exact this
 |_=>cases hx
variable {P :Program}
end Go.Proofs.YthobodfbjjjiiaaGreat
