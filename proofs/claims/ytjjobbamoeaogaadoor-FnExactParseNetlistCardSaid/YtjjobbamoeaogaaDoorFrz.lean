import Derived.Test.YtjjobbamoeaogaaDoorBase
namespace Go.Proofs.YtjjobbamoeaogaaDoor
open Go.RowKit
set_option linter.unusedVariables false
def Frz (w w':World):Prop:=∀a,w'.frozen? a=w.frozen? a
section
variable {a w w2:World}
theorem Frz.refl (w:World):Frz w w:=fun _=>rfl
theorem Frz.then_ (h:Frz a w) (k:Frz w w2):Frz a w2:=fun p=>(k p).trans (h p)
theorem Frz.alloc (h:Frz a w) (c:Array Value) (t:TypeId):Frz a (w.alloc (.cells c t)):=fun p=>(frozen?_alloc_cells w c t p).trans (h p)
theorem Frz.setCell (h:Frz a w) (q:Addr) (v:Value):Frz a (w.setCell q v):=fun p=>by rw[World.frozen?_setCell];exact h p
theorem Frz.drew (h:Frz a w):Frz a w.drew:=h
theorem Frz.drewN (h:Frz a w) (n:Nat):Frz a (w.drewN n):=h
theorem Frz.fresh (h:Frz a w) {b o:Nat} (hb:a.heap.size≤b):w.frozen? ⟨b,o,none⟩=false:=by
 rw[h ⟨b,o,none⟩]
 simp[World.frozen?,Array.getElem?_eq_none hb]
end
theorem gG {B:Nat} {a b:World} (h:Below B a b:=by (repeat' (first|(with_reducible first|exact Below.refl _ _|assumption|refine ZW ?_ _|refine Below.drew ?_|refine Below.alloc ?_ ?_ _|refine Below.setCell ?_ ?_ _|refine Below.then_ ?_ (by assumption) ?_)|go_size))):Below B a b:=h
theorem gF {a b:World} (h:Frz a b:=by (repeat' (first|(with_reducible first|exact Frz.refl _|assumption|refine Frz.drewN ?_ _|refine Frz.drew ?_|refine Frz.alloc ?_ _ _|refine Frz.setCell ?_ _ _|refine Frz.then_ ?_ (by assumption))))):Frz a b:=h
end Go.Proofs.YtjjobbamoeaogaaDoor
