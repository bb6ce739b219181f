import Derived.Test.YtkgnjijonikchaaGreatBase3
import Derived.Test.YtkgnjijonikchaaGreatMark
namespace Go.Proofs.YtkgnjijonikchaaGreat
open Go.RowKit
set_option linter.unusedVariables false
set_option linter.unusedSimpArgs false
def ZB (W:World) (b n:Nat):Prop:=∃(cs:Array Value) (T:TypeId),W.heap[b]?=some (.cells cs T (0,0))∧cs.size=n∧∀j:Nat,j<n→cs[j]?=some (.slice none 0 0)
theorem ZB.new2 (w:World) (T:TypeId):ZB (w.alloc (.cells #[.slice none 0 0,.slice none 0 0] T)) w.heap.size 2:=
 ⟨_,T,heap_alloc_new w _,rfl,fun j hj=>by
  match j,hj with
  |0,_=>rfl
  |1,_=>rfl⟩
theorem ZB.new3 (w:World) (T:TypeId):ZB (w.alloc (.cells #[.slice none 0 0,.slice none 0 0,.slice none 0 0] T)) w.heap.size 3:=
 ⟨_,T,heap_alloc_new w _,rfl,fun j hj=>by
  match j,hj with
  |0,_=>rfl
  |1,_=>rfl
  |2,_=>rfl⟩
section
variable {W W':World} {b n:Nat}
theorem ZB.lt (h:ZB W b n):b<W.heap.size:=by
 obtain ⟨cs,T,h1,_⟩:=h
 exact (Array.getElem?_eq_some_iff.1 h1).1
theorem ZB.to (h:ZB W b n) (hb:Below W.heap.size W W'):ZB W' b n:=by
 have hl:=h.lt
 obtain ⟨cs,T,h1,h2⟩:=h
 exact ⟨cs,T,(hb.block b hl).trans h1,h2⟩
theorem ZB.cell (h:ZB W b n) (j:Nat) (hj:j<n):W.cell? ⟨b,j,none⟩=some (.slice none 0 0):=by
 obtain ⟨cs,T,h1,h2,h3⟩:=h
 rw[cell_of_row W b j cs T (0,0) h1]
 exact h3 j hj
theorem ZB.frz (h:ZB W b n) (j:Nat):W.frozen? ⟨b,j,none⟩=false:=by
 obtain ⟨cs,T,h1,_⟩:=h
 simp[World.frozen?,h1]
theorem ZB.out (h:ZB W b n) {o:Nat} {v:Value} (hv:W.cell? ⟨b,o,none⟩=some v):v=.slice none 0 0:=by
 obtain ⟨cs,T,h1,h2,h3⟩:=h
 rw[cell_of_row W b o cs T (0,0) h1] at hv
 have hl:=(Array.getElem?_eq_some_iff.1 hv).1
 rw[h3 o (by omega)] at hv
 exact (Option.some.inj hv).symm
theorem ZB.set2 (h:ZB W b 2) (v0 v1:Value):((W.setCell ⟨b,0,none⟩ v0).setCell ⟨b,1,none⟩ v1).cell? ⟨b,0,none⟩=some v0∧((W.setCell ⟨b,0,none⟩ v0).setCell ⟨b,1,none⟩ v1).cell? ⟨b,1,none⟩=some v1:=by
 have c0:=h.cell 0 (by decide)
 have c1:=h.cell 1 (by decide)
 have d0:=World.cell?_setCell_same W ⟨b,0,none⟩ v0 c0
 have d1:(W.setCell ⟨b,0,none⟩ v0).cell? ⟨b,1,none⟩=some (.slice none 0 0):=by rw[World.cell?_setCell_other _ _ _ _ (by simp)];exact c1
 exact ⟨by rw[World.cell?_setCell_other _ _ _ _ (by simp)];exact d0,World.cell?_setCell_same _ _ _ d1⟩
theorem ZB.set3 (h:ZB W b 3) (v0 v1 v2:Value):(((W.setCell ⟨b,0,none⟩ v0).setCell ⟨b,1,none⟩ v1).setCell ⟨b,2,none⟩ v2).cell? ⟨b,0,none⟩=some v0∧(((W.setCell ⟨b,0,none⟩ v0).setCell ⟨b,1,none⟩ v1).setCell ⟨b,2,none⟩ v2).cell? ⟨b,1,none⟩=some v1∧
 (((W.setCell ⟨b,0,none⟩ v0).setCell ⟨b,1,none⟩ v1).setCell ⟨b,2,none⟩ v2).cell? ⟨b,2,none⟩=some v2:=by
 have c0:=h.cell 0 (by decide)
 have c1:=h.cell 1 (by decide)
 have c2:=h.cell 2 (by decide)
 have d0:=World.cell?_setCell_same W ⟨b,0,none⟩ v0 c0
 have d1:(W.setCell ⟨b,0,none⟩ v0).cell? ⟨b,1,none⟩=some (.slice none 0 0):=by rw[World.cell?_setCell_other _ _ _ _ (by simp)];exact c1
 have d2:((W.setCell ⟨b,0,none⟩ v0).setCell ⟨b,1,none⟩ v1).cell? ⟨b,2,none⟩=some (.slice none 0 0):=by rw[World.cell?_setCell_other _ _ _ _ (by simp),World.cell?_setCell_other _ _ _ _ (by simp)];exact c2
 exact ⟨by rw[World.cell?_setCell_other _ _ _ _ (by simp),World.cell?_setCell_other _ _ _ _ (by simp)];exact d0,by rw[World.cell?_setCell_other _ _ _ _ (by simp)];exact World.cell?_setCell_same _ _ _ d1,World.cell?_setCell_same _ _ _ d2⟩
end
def Fst {α:Type} (S:Sh α):Prop:=∀(w:World) (D:Nat→Prop) (cs:List Value) (x:α),S.rep w D cs x→∃v,cs[0]?=some v∧v≠.slice none 0 0
def NoB {α:Type} (S:Sh α):Prop:=∀(w:World) (D:Nat→Prop) (cs:List Value) (x:α) (b n:Nat),ZB w b n→S.rep w D cs x→S.rep w (fun q=>D q∧q≠b) cs x
theorem ZgP :Fst Zx:=fun w D cs x h=>by
 obtain ⟨rfl,_⟩:=h
 exact ⟨_,rfl,by simp⟩
theorem fstStr :Fst Zag:=fun w D cs x h=>by
 obtain ⟨rfl,_⟩:=h
 exact ⟨_,rfl,by simp⟩
theorem Zem {α β:Type} {S:Sh α} {T:Sh β} (h:Fst S):Fst (ZaI S T):=fun w D cs x hr=>by
 obtain ⟨c1,c2,rfl,h1,h2⟩:=hr
 obtain ⟨v,e1,e2⟩:=h w D c1 x.1 h1
 exact ⟨v,by rw[List.getElem?_append_left (List.getElem?_eq_some_iff.1 e1).1];exact e1,e2⟩
theorem ZgQ {α β:Type} {S:Sh β} {v:α→β} (h:Fst S):Fst (Sh.via S v):=fun w D cs x hr=>h w D cs (v x) hr
theorem Zbg :NoB Zx:=fun _ _ _ _ _ _ _ h=>h
theorem ZsY :NoB Zag:=fun _ _ _ _ _ _ _ h=>h
theorem nobBool :NoB Zj5:=fun _ _ _ _ _ _ _ h=>h
theorem ZbT {α β:Type} {S:Sh α} {T:Sh β} (h:NoB S) (k:NoB T):NoB (ZaI S T):=fun w D cs x b n hz hr=>by
 obtain ⟨c1,c2,e,h1,h2⟩:=hr
 exact ⟨c1,c2,e,h w D c1 x.1 b n hz h1,k w D c2 x.2 b n hz h2⟩
theorem ZgR {α β:Type} {S:Sh β} {v:α→β} (h:NoB S):NoB (Sh.via S v):=fun w D cs x b n hz hr=>h w D cs (v x) b n hz hr
theorem ZwC {α:Type} {S:Sh α} (hf:Fst S) (h:NoB S) {w:World} {D:Nat→Prop} {A:Option Addr} {l:List α} {b n:Nat} (hz:ZB w b n) (hr:RSl S w D A l):RSl S w (fun q=>D q∧q≠b) A l:=fun hne=>by
 obtain ⟨g,off,e,hD,hx⟩:=hr hne
 refine ⟨g,off,e,⟨hD, ?_⟩,fun k x hk=> ?_⟩
 ·rintro rfl
  obtain ⟨x,hx0⟩:=Zq (l:=l) (k:=0) (List.length_pos_iff.2 hne)
  obtain ⟨cs,h1,h2⟩:=hx 0 x hx0
  obtain ⟨v,e1,e2⟩:=hf w D cs x h1
  exact e2 (hz.out (h2 0 v e1))
 ·obtain ⟨cs,h1,h2⟩:=hx k x hk
  exact ⟨cs,h w D cs x b n hz h1,h2⟩
theorem nobSl {α:Type} {S:Sh α} (hf:Fst S) (h:NoB S):NoB (Zk1 S):=fun w D cs x b n hz hr=>by
 obtain ⟨A,c,e,h1,h2,h3⟩:=hr
 exact ⟨A,c,e,h1,h2,ZwC hf h hz h3⟩
theorem Zj3 {α:Type} {S:Sh α} (hf:Fst S) (h:NoB S) {w W:World} {B:Nat} {A:Option Addr} {c:Nat} {l:List α} {b n:Nat} (hz:ZB w b n) (ht:Touch (fun q=>q=b) w W) (hs:Seen S w B A c l):Seen S W W.heap.size A c l:=
 ⟨((ZwC hf h hz hs.rsl).keep (fun p hp=>World.cell?_of_block (ht.block p.block (Nat.lt_of_lt_of_le hp.1 hs.size) hp.2)) (fun _ h=>h)).mono fun q hq=>Nat.lt_of_lt_of_le hq.1 (Nat.le_trans hs.size ht.size),Nat.le_refl _,hs.cap⟩
theorem ZsZ {α:Type} {S:Sh α} {w W:World} {B:Nat} {A:Option Addr} {c:Nat} {l:List α} (hs:Seen S w B A c l) (hb:Below w.heap.size w W):Seen S W W.heap.size A c l:=
 ⟨((hs.to hb).rsl).mono fun q hq=>Nat.lt_of_lt_of_le hq (hs.to hb).size,Nat.le_refl _,hs.cap⟩
theorem Zna {D:Nat→Prop} {w W:World} {b:Nat} (h:Touch D w W) (hb:D b) (j:Nat) (v:Value):Touch D w (W.setCell ⟨b,j,none⟩ v):=Touch.put (p:=⟨b,j,none⟩) h hb v
theorem touch2 (W:World) (b:Nat) (v0 v1:Value):Touch (fun q=>q=b) W ((W.setCell ⟨b,0,none⟩ v0).setCell ⟨b,1,none⟩ v1):=Zna (D:=fun q=>q=b) (Zna (D:=fun q=>q=b) (Touch.refl _ W) rfl 0 v0) rfl 1 v1
theorem Zca (W:World) (b:Nat) (v0 v1 v2:Value):Touch (fun q=>q=b) W (((W.setCell ⟨b,0,none⟩ v0).setCell ⟨b,1,none⟩ v1).setCell ⟨b,2,none⟩ v2):=Zna (D:=fun q=>q=b) (Zna (D:=fun q=>q=b) (Zna (D:=fun q=>q=b) (Touch.refl _ W) rfl 0 v0) rfl 1 v1) rfl 2 v2
end Go.Proofs.YtkgnjijonikchaaGreat
