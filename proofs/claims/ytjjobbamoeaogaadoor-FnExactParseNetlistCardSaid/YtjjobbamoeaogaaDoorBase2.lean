import Derived.Test.YtjjobbamoeaogaaDoorBase
import Derived.Lib.ConvBytes
import Derived.Laws.IdiomStrings
namespace Go.Proofs.YtjjobbamoeaogaaDoor
open Go.RowKit
set_option linter.unusedVariables false
def ZgE (w:World) (g:Nat) (m:List UInt8):Prop:=
 ∃(C:Array Value) (T lo hi:Nat),w.heap[g]?=some (.cells C T (lo,hi))∧m.length≤lo∧∀(j:Nat) (b:UInt8),m[j]?=some b→C[j]?=some (.int .u8 b.toNat)
section
variable {w w':World} {g:Nat} {m:List UInt8}
theorem ZgE.lt (h:ZgE w g m):g<w.heap.size:=by
 obtain ⟨C,T,lo,hi,hh,_⟩:=h
 rcases Nat.lt_or_ge g w.heap.size with hlt|hge
 ·exact hlt
 ·rw[Array.getElem?_eq_none hge] at hh;cases hh
theorem ZgE.cell (h:ZgE w g m) {j:Nat} {b:UInt8} (hj:m[j]?=some b):w.cell? ⟨g,j,none⟩=some (.int .u8 b.toNat):=by
 obtain ⟨C,T,lo,hi,hh,_,hc⟩:=h
 simp[World.cell?,hh,hc j b hj]
theorem ZgE.frozen (h:ZgE w g m) {j:Nat} (hj:j<m.length):w.frozen? ⟨g,j,none⟩=false:=by
 obtain ⟨C,T,lo,hi,hh,hlo,_⟩:=h
 simp[World.frozen?,hh]
 omega
theorem ZgE.keep (h:ZgE w g m) (e:w'.heap[g]?=w.heap[g]?):ZgE w' g m:=by
 obtain ⟨C,T,lo,hi,hh,hr⟩:=h
 exact ⟨C,T,lo,hi,e.trans hh,hr⟩
theorem ZgE.below {B:Nat} (h:ZgE w g m) (hb:Below B w w') (hg:g<B):ZgE w' g m:=h.keep (hb.block g hg)
theorem ZgE.set (h:ZgE w g m) {j:Nat} (hj:j<m.length) (b:UInt8):ZgE (w.setCell ⟨g,j,none⟩ (.int .u8 b.toNat)) g (m.set j b):=by
 obtain ⟨C,T,lo,hi,hh,hlo,hc⟩:=h
 have hjC:j<C.size:=by
  obtain ⟨x,hx⟩:=ZV hj
  exact (Array.getElem?_eq_some_iff.1 (hc j x hx)).1
 refine ⟨C.setIfInBounds j (.int .u8 b.toNat),T,lo,hi,by simp[World.setCell,Array.getElem?_modify,hh],by simpa using hlo,fun i c hi=> ?_⟩
 by_cases hij:i=j
 ·subst hij
  simp[hj] at hi
  subst hi
  simp[hjC]
 ·rw[List.getElem?_set_ne (by omega)] at hi
  rw[Array.getElem?_setIfInBounds_ne (by omega)]
  exact hc i c hi
end
end Go.Proofs.YtjjobbamoeaogaaDoor
