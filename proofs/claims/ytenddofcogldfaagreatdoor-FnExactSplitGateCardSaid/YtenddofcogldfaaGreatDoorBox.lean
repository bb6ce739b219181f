import Derived.Test.YtenddofcogldfaaGreatDoorBase3
namespace Go.Proofs.YtenddofcogldfaaGreatDoor
open Go.RowKit
set_option linter.unusedVariables false
def Box (w:World) (b:Nat) (t:TypeId) (cs:List Value):Prop:=w.heap[b]?=some (.cells cs.toArray t (0,0))
section
variable {α κ:Type} {S:Sh α} {val:κ→Value} {w w':World} {b m base c:Nat} {t e:TypeId} {cs:List Value} {A:Option Addr} {l:List α} {kv:List (κ×Value)}
theorem Box.new (w:World) (t:TypeId) (cs:List Value):Box (w.alloc (.cells cs.toArray t)) w.heap.size t cs:=heap_alloc_new w _
theorem Box.lt (h:Box w b t cs):b<w.heap.size:=by
 rcases Nat.lt_or_ge b w.heap.size with hlt|hge
 ·exact hlt
 ·unfold Box at h;rw[Array.getElem?_eq_none hge] at h;cases h
theorem Box.cell (h:Box w b t cs) {j:Nat} {v:Value} (hj:cs[j]?=some v):w.cell? ⟨b,j,none⟩=some v:=by
 unfold Box at h
 simp[World.cell?,h,hj]
theorem Box.frozen (h:Box w b t cs) (j:Nat):w.frozen? ⟨b,j,none⟩=false:=by
 unfold Box at h
 simp[World.frozen?,h]
theorem Box.keep (h:Box w b t cs) (e:w'.heap[b]?=w.heap[b]?):Box w' b t cs:=e.trans h
theorem Box.to (h:Box w b t cs) (hb:Below w.heap.size w w'):Box w' b t cs:=h.keep (hb.block b h.lt)
theorem Box.set (h:Box w b t cs) (j:Nat) (v:Value):Box (w.setCell ⟨b,j,none⟩ v) b t (cs.set j v):=by
 unfold Box at h⊢
 simp[World.setCell,Array.getElem?_modify,h]
theorem Box.other (h:Box w b t cs) {p:Addr} (hp:b≠p.block) (v:Value):Box (w.setCell p v) b t cs:=h.keep (Below.heap_setCell _ _ _ _ hp)
theorem Own.ne_box (h:Own S w base e A c l) (hb:Box w b t cs) (he:e≠t):blk A≠some b:=fun hk=>by
 obtain ⟨css,hr,_⟩:=h
 rcases hr.2 with ⟨hv,hn⟩|⟨g,cap,cur,hv,_,hg,_⟩
 ·injection hv with hA;subst hA;cases hk
 ·injection hv with hA
  subst hA
  simp[blk] at hk
  subst hk
  unfold Box at hb
  rw[hg] at hb
  injection hb with hb
  injection hb with _ h2
  exact he h2
theorem Own.box (h:Own S w base e A c l) (hb:Box w b t cs) (he:e≠t) (j:Nat) (v:Value):Own S (w.setCell ⟨b,j,none⟩ v) base e A c l:=
 h.keep fun k hk=>Below.heap_setCell _ _ _ _ (fun ek=>h.ne_box hb he (by rw[hk,ek]))
theorem Own.past (h:Own S w base e A c l) {p:Addr} (hp:p.block<base) (v:Value):Own S (w.setCell p v) base e A c l:=
 h.keep fun k hk=>Below.heap_setCell _ _ _ _ (fun ek=>by have:=(h.lt k hk).1;omega)
theorem ZbF.ne_box (h:ZbF val w m kv) (hb:Box w b t cs):m≠b:=fun he=>by
 obtain ⟨es,clock,hh,_⟩:=h
 subst he
 unfold Box at hb
 rw[hh] at hb
 cases hb
theorem ZbF.box (h:ZbF val w m kv) (hb:Box w b t cs) (j:Nat) (v:Value):ZbF val (w.setCell ⟨b,j,none⟩ v) m kv:=h.keep (Below.heap_setCell _ _ _ _ (h.ne_box hb))
theorem Box.pushed (h:Box w b t cs) (hown:Own S w base e A c l) (he:e≠t) (hp:Pushed w w' A):Box w' b t cs:=h.keep (hp.block b h.lt (hown.ne_box h he))
theorem Box.turned (h:Box w b t cs) (hm:ZbF val w m kv) (ht:Zbh w w' m):Box w' b t cs:=h.keep (ht.2.2.2.2 b (fun e=>hm.ne_box h e.symm))
end
end Go.Proofs.YtenddofcogldfaaGreatDoor
