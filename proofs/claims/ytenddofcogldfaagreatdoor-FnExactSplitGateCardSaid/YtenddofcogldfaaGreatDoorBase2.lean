import Derived.Test.YtenddofcogldfaaGreatDoorBase
import Derived.Lib.ConvBytes
import Derived.Laws.IdiomStrings
namespace Go.Proofs.YtenddofcogldfaaGreatDoor
open Go.RowKit
set_option linter.unusedVariables false
def Zgk (w:World) (g:Nat) (m:List UInt8):Prop:=
 ∃(C:Array Value) (T lo hi:Nat),w.heap[g]?=some (.cells C T (lo,hi))∧m.length≤lo∧∀(j:Nat) (b:UInt8),m[j]?=some b→C[j]?=some (.int .u8 b.toNat)
section
variable {w w':World} {g:Nat} {m:List UInt8}
theorem Zgk.lt (h:Zgk w g m):g<w.heap.size:=by
 obtain ⟨C,T,lo,hi,hh,_⟩:=h
 rcases Nat.lt_or_ge g w.heap.size with hlt|hge
 ·exact hlt
 ·rw[Array.getElem?_eq_none hge] at hh;cases hh
theorem Zgk.cell (h:Zgk w g m) {j:Nat} {b:UInt8} (hj:m[j]?=some b):w.cell? ⟨g,j,none⟩=some (.int .u8 b.toNat):=by
 obtain ⟨C,T,lo,hi,hh,_,hc⟩:=h
 simp[World.cell?,hh,hc j b hj]
theorem Zgk.frozen (h:Zgk w g m) {j:Nat} (hj:j<m.length):w.frozen? ⟨g,j,none⟩=false:=by
 obtain ⟨C,T,lo,hi,hh,hlo,_⟩:=h
 simp[World.frozen?,hh]
 omega
theorem Zgk.keep (h:Zgk w g m) (e:w'.heap[g]?=w.heap[g]?):Zgk w' g m:=by
 obtain ⟨C,T,lo,hi,hh,hr⟩:=h
 exact ⟨C,T,lo,hi,e.trans hh,hr⟩
theorem Zgk.below {B:Nat} (h:Zgk w g m) (hb:Below B w w') (hg:g<B):Zgk w' g m:=h.keep (hb.block g hg)
theorem Zgk.set (h:Zgk w g m) {j:Nat} (hj:j<m.length) (b:UInt8):Zgk (w.setCell ⟨g,j,none⟩ (.int .u8 b.toNat)) g (m.set j b):=by
 obtain ⟨C,T,lo,hi,hh,hlo,hc⟩:=h
 have hjC:j<C.size:=by
  obtain ⟨x,hx⟩:=Zg hj
  exact (Array.getElem?_eq_some_iff.1 (hc j x hx)).1
 refine ⟨C.setIfInBounds j (.int .u8 b.toNat),T,lo,hi,by simp[World.setCell,Array.getElem?_modify,hh],by simpa using hlo,fun i c hi=> ?_⟩
 by_cases hij:i=j
 ·subst hij
  simp[hj] at hi
  subst hi
  simp[hjC]
 ·rw[List.getElem?_set_ne (by omega)] at hi
  rw[Array.getElem?_setIfInBounds_ne (by omega)]
  exact hc i c hi
end
end Go.Proofs.YtenddofcogldfaaGreatDoor
