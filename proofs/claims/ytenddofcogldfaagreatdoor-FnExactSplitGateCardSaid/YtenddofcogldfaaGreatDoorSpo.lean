import Derived.Test.YtenddofcogldfaaGreatDoorWq
import Derived.Test.YtenddofcogldfaaGreatDoorIns
import Derived.Test.YtenddofcogldfaaGreatDoorPush
import Derived.Test.YtenddofcogldfaaGreatDoorNif
import Derived.Test.YtenddofcogldfaaGreatDoorBox
import Derived.Test.YtenddofcogldfaaGreatDoorFrz
import Derived.Laws.ResultCell
import Derived.Deep.DeepCutAuto
namespace Go.Proofs.YtenddofcogldfaaGreatDoor
open Go.RowKit
set_option linter.unusedVariables false
set_option linter.unusedSimpArgs false
def Zad (ps:List Int):Nat→List Pin→List Pin
 |_,[]=>[]
 |i,p::r=>if ((i:Nat):Int)∈ps then p::Zad ps (i+1) r else Zad ps (i+1) r
def Zas (ps:List Int):Nat→List Pin→List Pin
 |_,[]=>[]
 |i,p::r=>if ((i:Nat):Int)∈ps then Zas ps (i+1) r else p::Zas ps (i+1) r
def sh1 (k:Nat) (p:Pin):Pin:=if (k:Int)≤p.at_ then ⟨p.at_+1,p.not_⟩ else p
def shW (k:Nat) (x:Wire):Wire:={x with ins:=x.ins.map (sh1 k)}
def Zdt (l:List Wire) (k:Nat) (x:Wire) (ps:List Int):List Wire:=((l.set k {x with ins:=Zas ps 0 x.ins}).map (shW k)).set k {x with ins:=(Zas ps 0 x.ins).map (sh1 k)++[⟨(k:Int),false⟩]}
def ZbJ (l:List Wire) (k:Nat) (x:Wire) (ps:List Int) (name:List UInt8):List Wire:=(Zdt l k x ps).take k++⟨name,x.kind,Zad ps 0 x.ins,[]⟩::(Zdt l k x ps).drop k
theorem Zmm {w w':World} {T:TypeId} {cs:List Value} (hb:Below (w.alloc (.cells cs.toArray T)).heap.size (w.alloc (.cells cs.toArray T)) w'):Box w' w.heap.size T cs:=(Box.new w T cs).to hb
theorem Zqe {w w':World} {T:TypeId} {cs:List Value} {o:Obj} (hb:Below ((w.alloc (.cells cs.toArray T)).alloc o).heap.size ((w.alloc (.cells cs.toArray T)).alloc o) w'):Box w' w.heap.size T cs:=((Box.new w T cs).to (Below.alloc (Below.refl _ _) (Nat.le_refl _) _)).to hb
theorem Zn0 {w w':World} {T:TypeId} {cs:List Value} (hb:Below (w.alloc (.cells cs.toArray T)).drew.heap.size (w.alloc (.cells cs.toArray T)).drew w'):Box w' w.heap.size T cs:=Box.keep (Box.new w T cs) (hb.block _ (by show _<(w.alloc _).heap.size;simp))
theorem Zn1 {w w':World} {T:TypeId} {cs:List Value} {o:Obj} (hb:Below ((w.alloc (.cells cs.toArray T)).alloc o).drew.heap.size ((w.alloc (.cells cs.toArray T)).alloc o).drew w'):Box w' w.heap.size T cs:=Box.keep ((Box.new w T cs).to (Below.alloc (Below.refl _ _) (Nat.le_refl _) o)) (hb.block _ (by show _<((w.alloc _).alloc _).heap.size;simp;omega))
theorem Zb6 (w:World):w.drew.heap.size=w.heap.size:=rfl
theorem Box.ne {w:World} {b b':Nat} {T T':TypeId} {cs cs':List Value} (h:Box w b T cs) (h':Box w b' T' cs') (ht:T≠T':=by decide):b≠b':=fun e=>by
 subst e
 unfold Box at h h'
 rw[h] at h'
 cases h'
 exact ht rfl
theorem Zgw (ps:List Int) (p:Pin):∀(l:List Pin) (i:Nat),Zad ps i (l++[p])=Zad ps i l++if ((i+l.length:Nat):Int)∈ps then [p] else []
 | [],i=>by
  show (if _ then p::Zad ps (i+1) [] else Zad ps (i+1) [])=_
  simp[Zad]
 | y::r,i=>by
  show (if _ then y::Zad ps (i+1) (r++[p]) else Zad ps (i+1) (r++[p]))=(if _ then y::Zad ps (i+1) r else Zad ps (i+1) r)++_
  rw[Zgw ps p r (i+1),show i+1+r.length=i+(y::r).length by rw[List.length_cons];omega]
  split<;>rfl
theorem ZhX (ps:List Int) (p:Pin):∀(l:List Pin) (i:Nat),Zas ps i (l++[p])=Zas ps i l++if ((i+l.length:Nat):Int)∈ps then [] else [p]
 | [],i=>by
  show (if _ then Zas ps (i+1) [] else p::Zas ps (i+1) [])=_
  simp[Zas]
 | y::r,i=>by
  show (if _ then Zas ps (i+1) (r++[p]) else y::Zas ps (i+1) (r++[p]))=(if _ then Zas ps (i+1) r else y::Zas ps (i+1) r)++_
  rw[ZhX ps p r (i+1),show i+1+r.length=i+(y::r).length by rw[List.length_cons];omega]
  split<;>rfl
theorem ZfL (ps:List Int):∀(l:List Pin) (i:Nat),(Zad ps i l).length≤l.length
 |[],i=>Nat.le_refl _
 | y::r,i=>by
  have:=ZfL ps r (i+1)
  unfold Zad
  split<;>simp only[List.length_cons]<;>omega
theorem Zeg (ps:List Int):∀(l:List Pin) (i:Nat),(Zas ps i l).length≤l.length
 |[],i=>Nat.le_refl _
 | y::r,i=>by
  have:=Zeg ps r (i+1)
  unfold Zas
  split<;>simp only[List.length_cons]<;>omega
theorem Zph {w w':World} {A A':Option Addr} (h:Push2 w.drew w' A A'):Push2 w w' A A':=⟨h.os,h.tape,h.output,h.size,h.block,h.lies⟩
theorem ZkK (w:World) (b o:Nat) (u v:Value):(w.setCell ⟨b,o,none⟩ u).setCell ⟨b,o,none⟩ v=w.setCell ⟨b,o,none⟩ v:=by
 unfold World.setCell
 congr 1
 apply Array.ext
 ·simp
 ·intro i h1 h2
  simp only[Array.getElem_modify]
  split
  ·rename_i hb
   cases w.heap[i]'(by simpa using h2)<;>simp
  ·rfl
theorem WRow.push {w w7:World} {base:Nat} {t tp ts:TypeId} {g c:Nat} {l:List Wire} {hs:List WHd} (ho:WRow w base t tp ts g c l hs) {k:Nat} {x:Wire} {h:WHd} (hx:l[k]?=some x) (hh:hs[k]?=some h) {A2:Option Addr} {c2:Nat} {ps:List Pin} {o:Obj} (hown:Own Zw w7 base tp A2 c2 ps) (hp:Push2 (w.alloc o) w7 h.A A2):
 WRow (w7.setCell ⟨g,k * 4+2,none⟩ (.slice A2 ps.length c2)) base t tp ts g c (l.set k {x with ins:=ps}) (hs.set k {h with A:=A2,c:=c2}):=by
 have hkl:=Zh hx
 have hkh:=Zh hh
 have h1:=ho.setIns hx hh (A:=none) (ca:=0) (ps:=[]) Own.nil_ (fun b hb=>by simp[blk] at hb)
 have hglt:=ho.glt
 have hgne:blk h.A≠some g:=fun e=>ho.out k h g hh (.inl e) rfl
 have hold:∀q,q<w.heap.size→blk h.A≠some q→w7.heap[q]?=w.heap[q]?:=fun q hq hn=>(hp.block q (by rw[World.size_alloc];omega) hn).trans (heap_alloc_old w o hq)
 have hnew:∀(i:Nat) (h':WHd),(hs.set k {h with A:=none,c:=0})[i]?=some h'→∀b,h'.has b→blk h.A≠some b∧b<w.heap.size∧b≠g:=fun i h' hi b hb=>by
  rcases Zci hi with ⟨rfl,rfl⟩|⟨hne,hi⟩
  ·rcases hb with hb|hb
   ·simp[blk] at hb
   ·exact ⟨fun e=>ho.dj1 i h b hh e hb,(ho.lt (.inr ⟨i,h,hh,.inr hb⟩)).2,ho.out i h b hh (.inr hb)⟩
  ·exact ⟨fun e=>ho.dj2 i k h' h b hne hi hh hb (.inl e),(ho.lt (.inr ⟨i,h',hi,hb⟩)).2,ho.out i h' b hi hb⟩
 have h2:WRow (w7.setCell ⟨g,k * 4+2,none⟩ (.slice none 0 0)) base t tp ts g c (l.set k {x with ins:=[]}) (hs.set k {h with A:=none,c:=0}):=h1.keep fun b hb=>by
  rcases hb with rfl|⟨i,h',hi,hb⟩
  ·simp only[World.setCell,Array.getElem?_modify,if_true]
   rw[hold b hglt hgne]
   rfl
  ·obtain ⟨e1,e2,e3⟩:=hnew i h' hi b hb
   rw[Below.heap_setCell _ _ _ _ (fun e=>e3 (by simpa using e)),Below.heap_setCell _ _ _ _ (fun e=>e3 (by simpa using e))]
   exact hold b e2 e1
 have hA2:∀b,blk A2=some b→blk h.A=some b∨w.heap.size<b:=fun b hb=>by
  rcases hp.lies b hb with e|e
  ·exact .inl e
  ·rw[World.size_alloc] at e;exact .inr (by omega)
 have hown':Own Zw (w7.setCell ⟨g,k * 4+2,none⟩ (.slice none 0 0)) base tp A2 c2 ps:=hown.keep fun q hq=>Below.heap_setCell _ _ _ _ (fun e=>by
  have e':q=g:=by first|exact e|exact e.symm
  rcases hA2 q hq with e2|e2
  ·exact hgne (e'▸e2)
  ·omega)
 have h3:=h2.setIns (k:=k) (x:={x with ins:=[]}) (h:={h with A:=none,c:=0}) (List.getElem?_set_self hkl) (List.getElem?_set_self hkh) hown' (fun b hb=>by
  rcases hA2 b hb with e|e
  ·exact ⟨fun e2=>hgne (e2▸e),fun e2=>ho.dj1 k h b hh e e2,fun j h' hj hj' hb'=>by
    rw[List.getElem?_set_ne (fun e=>hj e.symm)] at hj'
    exact ho.dj2 j k h' h b hj hj' hh hb' (.inl e)⟩
  ·exact ⟨by omega,fun e2=>by have:=(ho.lt (.inr ⟨k,h,hh,.inr e2⟩)).2;omega,fun j h' hj hj' hb'=>by
    rw[List.getElem?_set_ne (fun e=>hj e.symm)] at hj'
    have:=(ho.lt (.inr ⟨j,h',hj',hb'⟩)).2
    omega⟩)
 rw[ZkK,List.set_set,List.set_set] at h3
 exact h3
def ZcI {α:Type} (f:α→α) (l:List α) (q:Nat):List α:=(l.take q).map f++l.drop q
theorem Zmn {α:Type} (f:α→α) (l:List α) (q:Nat):(ZcI f l q).length=l.length:=by
 unfold ZcI
 simp only[List.length_append,List.length_map,List.length_take,List.length_drop]
 omega
theorem ZsS {α:Type} (f:α→α) (l:List α):ZcI f l 0=l:=by simp[ZcI]
theorem Zmo {α:Type} (f:α→α) (l:List α):ZcI f l l.length=l.map f:=by simp[ZcI]
theorem ZcR {α:Type} {f:α→α} {l:List α} {q:Nat} {p:α} (h:l[q]?=some p):(ZcI f l q)[q]?=some p:=by
 have hq:=Zh h
 unfold ZcI
 rw[List.getElem?_append_right (by simp only[List.length_map,List.length_take];omega)]
 simp only[List.length_map,List.length_take]
 rw[List.getElem?_drop,show q+(q - min q l.length)=q by omega]
 exact h
theorem ZiB {α:Type} {f:α→α} {l:List α} {q:Nat} {p:α} (h:l[q]?=some p):(ZcI f l q).set q (f p)=ZcI f l (q+1):=by
 have hq:=Zh h
 unfold ZcI
 rw[List.set_append_right _ _ (by simp only[List.length_map,List.length_take];omega)]
 simp only[List.length_map,List.length_take]
 rw[show q - min q l.length=0 by omega,Zb7 h,List.set_cons_zero,List.take_add_one,h]
 simp
theorem Zn2 {α:Type} {f:α→α} {l:List α} {q:Nat} {p:α} (h:l[q]?=some p) (hf:f p=p):ZcI f l (q+1)=ZcI f l q:=by
 rw[←ZiB h,hf]
 exact List.ext_getElem? fun i=>by
  by_cases hi:i=q
  ·subst hi
   rw[List.getElem?_set_self (by rw[Zmn];exact Zh h),ZcR h]
  ·rw[List.getElem?_set_ne (fun e=>hi e.symm)]
theorem ZsT {α:Type} {l:List α} {k:Nat} {x:α} (h:l[k]?=some x):l.set k x=l:=List.ext_getElem? fun i=>by
 by_cases hi:i=k
 ·subst hi
  rw[List.getElem?_set_self (Zh h),h]
 ·rw[List.getElem?_set_ne (fun e=>hi e.symm)]
theorem Zhj (ps:List Int):∀(l:List Pin) (i:Nat),∀p∈Zas ps i l,p∈l
 |[],i,p,h=>by simp[Zas] at h
 | y::r,i,p,h=>by
  unfold Zas at h
  split at h
  ·exact List.mem_cons_of_mem _ (Zhj ps r _ p h)
  ·rcases List.mem_cons.1 h with rfl|h
   ·exact List.mem_cons_self
   ·exact List.mem_cons_of_mem _ (Zhj ps r _ p h)
theorem Zj4 {wc wr w6 w7:World} {b9:Nat} {A B A2:Option Addr} {c d:Nat} {L M:List Pin} {tp:TypeId} {o:Obj} (hl9:b9<wc.heap.size) (htr:Touch (fun q=>q=b9) wc wr) (hb6:Below wr.heap.size wr w6) (hoB:Own Zw wr wc.heap.size tp B d M) (hoA:Own Zw wr wc.heap.size tp A c L)
 (hdj:∀q,blk A=some q→blk B=some q→False) (hp2:Push2 (w6.alloc o) w7 A A2):
 Own Zw w7 wc.heap.size tp B d M∧(∀q,blk A2=some q→blk B=some q→False)∧Touch (fun q=>q=b9) wc w7∧w7.heap[b9]?=w6.heap[b9]?:=by
 have h0:=htr.size
 have h1:=hb6.size
 have hsz:=hp2.size
 rw[World.size_alloc] at hsz
 have hblk:∀q,q<w6.heap.size→blk A≠some q→w7.heap[q]?=w6.heap[q]?:=fun q hq hn=>(hp2.block q (by rw[World.size_alloc];omega) hn).trans (heap_alloc_old w6 o hq)
 refine ⟨(hoB.to hb6).keep fun q hq=>hblk q (by have:=(hoB.lt q hq).2;omega) fun e=>hdj q e hq,fun q e1 e2=> ?_, ?_,hblk b9 (by omega) fun e=>by have:=(hoA.lt _ e).1;omega⟩
 ·rcases hp2.lies q e1 with e|e
  ·exact hdj q e e2
  ·rw[World.size_alloc] at e
   have:=(hoB.lt q e2).2
   omega
 ·have t6:=htr.then_ hb6
  exact ⟨hp2.os.trans t6.os,hp2.tape.trans t6.tape,hp2.output.trans t6.output,by omega,fun q hq hn=>(hblk q (by omega) fun e=>by have:=(hoA.lt _ e).1;omega).trans (t6.block q hq hn)⟩
section
variable {W :World} {b d:Nat} {T:TypeId} {cs:List Value} {u0 u1 u2 u3 v0 v1 v2 v3:Value}
theorem Zn3 (h:Box W b T [u0,u1]):Box ((W.setCell ⟨b,0,none⟩ v0).setCell ⟨b,1,none⟩ v1) b T [v0,v1]:=(h.set 0 v0).set 1 v1
theorem Zj5 (h:Box W b T [u0,u1,u2,u3]):Box ((((W.setCell ⟨b,0,none⟩ v0).setCell ⟨b,1,none⟩ v1).setCell ⟨b,2,none⟩ v2).setCell ⟨b,3,none⟩ v3) b T [v0,v1,v2,v3]:=(((h.set 0 v0).set 1 v1).set 2 v2).set 3 v3
theorem Zlp (h:Box W b T cs) (hne:b≠d):Box ((W.setCell ⟨d,0,none⟩ v0).setCell ⟨d,1,none⟩ v1) b T cs:=(h.other hne v0).other hne v1
theorem ZhY (h:Box W b T cs) (hne:b≠d):Box ((((W.setCell ⟨d,0,none⟩ v0).setCell ⟨d,1,none⟩ v1).setCell ⟨d,2,none⟩ v2).setCell ⟨d,3,none⟩ v3) b T cs:=(((h.other hne v0).other hne v1).other hne v2).other hne v3
theorem Zn4 {o:Obj}:Box ((W.alloc o).alloc (.cells cs.toArray T)) (W.heap.size+1) T cs:=by
 have:=Box.new (W.alloc o) T cs
 rwa[World.size_alloc] at this
theorem Zmp {o:Obj} (h:Box W b T cs):Box (W.alloc o) b T cs:=h.to (Below.alloc (Below.refl _ _) (Nat.le_refl _) _)
end
theorem ZtF {wq w3 wx:World} {b8 b9 base g c:Nat} {tS t tp ts T8 T9:TypeId} {As:Option Addr} {cs:Nat} {sg:List Sig} {l:List Wire} {hs:List WHd} {L8 L9:List Value} (hne:b8≠b9) (h8:wq.heap.size≤b8) (h9:wq.heap.size≤b9) (hB:Below wq.heap.size wq wx)
 (hT:Touch (fun q=>q=b8∨q=b9) w3 wx) (hx8:Box wx b8 T8 L8) (hx9:Box wx b9 T9 L9) (hoS:Own Zm w3 base tS As cs sg) (hoW:WRow w3 base t tp ts g c l hs) (hap:∀q,blk As=some q→gB g hs q→False)
 (hb:wq.heap.size≤base) (k8:b8<base∨w3.heap.size≤b8) (k9:b9<base∨w3.heap.size≤b9):
 b8≠b9∧wq.heap.size≤b8∧wq.heap.size≤b9∧Below wq.heap.size wq wx∧Box wx b8 T8 L8∧Box wx b9 T9 L9∧Own Zm wx wq.heap.size tS As cs sg∧WRow wx wq.heap.size t tp ts g c l hs∧(∀q,blk As=some q→gB g hs q→False)∧(∀q,blk As=some q∨gB g hs q→q≠b8∧q≠b9):=by
 have hq:∀q,blk As=some q∨gB g hs q→q≠b8∧q≠b9∧q<w3.heap.size:=fun q hq=>by
  have:base≤q∧q<w3.heap.size:=by
   rcases hq with hq|hq
   ·exact hoS.lt q hq
   ·exact hoW.lt hq
  omega
 have hk:∀q,blk As=some q∨gB g hs q→wx.heap[q]?=w3.heap[q]?:=fun q h=>hT.block q (hq q h).2.2 fun e=>by have:=hq q h;omega
 exact ⟨hne,h8,h9,hB,hx8,hx9,(hoS.keep fun q h=>hk q (.inl h)).lower hb,(hoW.keep fun q h=>hk q (.inr h)).lower hb,hap,fun q h=>⟨(hq q h).1,(hq q h).2.1⟩⟩
set_option maxRecDepth 20000 in
set_option maxHeartbeats 40000000 in
theorem ZkL (A1 A2 A3:Option Addr) (c1 c2 c3 k:Nat) (sg:List Sig) (l:List Wire) (x:Wire) (ps:List Int) (name:List UInt8) (b:Bool) (w:World) (hk:l[k]?=some x) (hl:l.length≤100) (hps:ps.length≤1000000) (hxi:x.ins.length≤100000) (hc2:l.length≤c2∧c2≤9223372036854775807)
 (hr2:RA Zx w A2 l) (hr3:RA ZB w A3 ps) (hin:∀x∈l,x.ins.length≤100000∧∀p∈x.ins, -1000000≤p.at_∧p.at_≤1000000)
 (hcopy:∀w',Below w.heap.size w w'→Calls Tryz.prog 46 #[.agg #[.slice A1 sg.length c1,.slice A2 l.length c2]] w' fun e w2=>∃As cs g c hs,e=.returned (.agg #[.slice As sg.length cs,.slice (some ⟨g,0,none⟩) l.length c])∧Own Zm w2 w'.heap.size 70 As cs sg∧WRow w2 w'.heap.size 51 68 9 g c l hs∧(∀q,blk As=some q→gB g hs q→False)∧Below w'.heap.size w' w2)
 (hname:∀w',Below w.heap.size w w'→Calls Tryz.prog 47 #[.agg #[.slice A1 sg.length c1,.slice A2 l.length c2]] w' fun e w2=>e=.returned (.string ⟨name.toArray⟩)∧Below w'.heap.size w' w2)
 (hcont:∀w' (j:Nat),Below w.heap.size w w'→j≤1000000→Calls Tryz.prog 48 #[.slice A3 ps.length c3,.int .i64 j] w' fun e w2=>e=.returned (.bool (decide ((j:Int)∈ps)))∧Below w'.heap.size w' w2)
 (hval:∀(w':World) (v:Value),Below w.heap.size w w'→VR w' (fun b=>b<w'.heap.size) (.agg [.lst (sg.map ZaW),.lst ((ZbJ l k x ps name).map Zav)]) v→Calls Tryz.prog 19 #[v] w' fun e w2=>e=.returned (.bool b)∧Below w'.heap.size w' w2):
 Calls Tryz.prog 23 #[.agg #[.slice A1 sg.length c1,.slice A2 l.length c2],.int .i64 k,.slice A3 ps.length c3] w fun e w'=>∃As cs g c hs,e=.returned (.tuple #[if b=true then .agg #[.slice As sg.length cs,.slice (some ⟨g,0,none⟩) (ZbJ l k x ps name).length c] else .agg #[.slice none 0 0,.slice none 0 0],.bool b])∧
  Own Zm w' (w.heap.size+2) 70 As cs sg∧WRow w' (w.heap.size+2) 51 68 9 g c (ZbJ l k x ps name) hs∧(∀q,blk As=some q→gB g hs q→False)∧Below w.heap.size w w':=by
 have HCOPY:=Ze hcopy;have HNAME:=Ze hname;have HCONT:=Ze hcont;have HVAL:=Ze hval;have HIN:=Ze hin;have HR3:=Ze hr3
 clear hcopy hname hcont hval hin hr3
 have hkl:=Zh hk
 have hIk2:InI (k:Int):=by constructor<;>omega
 obtain ⟨bA,off,Ai,ci,Ac,cc,rfl,hbA,d0,d1,d2,d3,g0,g1,g2,g3,g4,g5,g6,g7⟩:=RSl.Wire_at hr2 hk
 have hIk:InI x.kind:=g1
 have HK:=Ze hk;clear hk
 have HR2:=Ze hr2;clear hr2
 have mixed:Tryz.prog.follows .mixedOrders=true:=by kernel_rfl
 go_enter Tryz.func23,Tryz.ntmps23
 go_upto_region 1 with fail
 obtain ⟨wq,hwq⟩:∃y,(w.alloc (.cells #[.slice A1 sg.length c1,.slice (some ⟨bA,off,none⟩) l.length c2] 31)).alloc (.cells #[.slice none 0 0,.slice none 0 0] 31)=y:=⟨_,rfl⟩
 have hzq:wq.heap.size=w.heap.size+2:=by rw[←hwq];simp
 have hbq:Below w.heap.size w wq:=by rw[←hwq];exact (Below.alloc (Below.refl _ _) (Nat.le_refl _) _).alloc (by simp) _
 have q0:Box wq w.heap.size 31 [.slice A1 sg.length c1,.slice (some ⟨bA,off,none⟩) l.length c2]:=by
  rw[←hwq];exact (Box.new w _ _).to (Below.alloc (Below.refl _ _) (Nat.le_refl _) _)
 have q1:Box wq (w.heap.size+1) 31 [.slice none 0 0,.slice none 0 0]:=by
  rw[←hwq]
  have:=Box.new (w.alloc (.cells #[.slice A1 sg.length c1,.slice (some ⟨bA,off,none⟩) l.length c2] 31)) 31 [.slice none 0 0,.slice none 0 0]
  rwa[World.size_alloc] at this
 have hd1:wq.cell? ⟨bA,off+k * 4+1,none⟩=some (.int .i64 x.kind):=(hbq.cell (p:=⟨bA,_,none⟩) hbA).trans d1
 have n0:=q0.cell (j:=0) rfl
 have n1:=q0.cell (j:=1) rfl
 have HD2:=Ze d2
 have HB:=Ze hbq
 have HQ0:=Ze q0;have HQ1:=Ze q1
 have HZQ:=Ze hzq
 rw[hwq]
 clear hwq d0 d1 d2 d3 q0 q1 hbq
 have hbq:Below w.heap.size w wq:=HB.out
 have hlA:bA<wq.heap.size:=by omega
 have hlw:w.heap.size<wq.heap.size:=by omega
 have hzl:wq.heap.size≤w.heap.size+2:=by omega
 have hzg:w.heap.size+2≤wq.heap.size:=by omega
 clear hzq
 go_cut [8,9] (fun s8 s9 wx=>∃(b8 b9:Nat) (As:Option Addr) (cs g c:Nat) (hs:List WHd),s8=.pointer (some ⟨b8,0,none⟩)∧s9=.pointer (some ⟨b9,0,none⟩)∧b8≠b9∧wq.heap.size≤b8∧wq.heap.size≤b9∧Below wq.heap.size wq wx∧
  Box wx b8 31 [.slice As sg.length cs,.slice (some ⟨g,0,none⟩) l.length c]∧Box wx b9 51 [.string ⟨name.toArray⟩,.int .i64 x.kind,.slice none 0 0,.slice none 0 0]∧
  Own Zm wx wq.heap.size 70 As cs sg∧WRow wx wq.heap.size 51 68 9 g c l hs∧(∀q,blk As=some q→gB g hs q→False)∧(∀q,blk As=some q∨gB g hs q→q≠b8∧q≠b9))
 case first=>
  go_region_held3 (fun W=>W.cell? ⟨w.heap.size,0,none⟩=some (.slice A1 sg.length c1)∧W.cell? ⟨w.heap.size,1,none⟩=some (.slice (some ⟨bA,off,none⟩) l.length c2)∧W.cell? ⟨bA,off+k * 4+1,none⟩=some (.int .i64 x.kind)) (exact ⟨cell_later gG n0,cell_later gG n1,cell_later gG hd1⟩) (first
   | (go_at_call 46
      refine (HCOPY.out _ (HB.out.trans (Below.mono (B:=wq.heap.size) gG (by omega)))).mono ?_
      rintro e w3 ⟨As,cs,g,c,hs,rfl,hoS,hoW,hap,hb3⟩
      have hs3:Below wq.heap.size wq w3:=gG
      have hz3:=hs3.size
      first|have x8:=Zn0 (T:=31) (cs:=[.slice none 0 0,.slice none 0 0]) hb3|have x8:=Zn1 (T:=31) (cs:=[.slice none 0 0,.slice none 0 0]) hb3|skip
      first|have x9:=Zn0 (T:=51) (cs:=[.string ⟨#[]⟩,.int .i64 0,.slice none 0 0,.slice none 0 0]) hb3|have x9:=Zn1 (T:=51) (cs:=[.string ⟨#[]⟩,.int .i64 0,.slice none 0 0,.slice none 0 0]) hb3|skip)
   | (go_at_call 47
      refine (HNAME.out _ (HB.out.trans (Below.mono (B:=wq.heap.size) gG (by omega)))).mono ?_
      rintro e w4 ⟨rfl,hb4⟩
      have hs34:Below w3.heap.size w3 w4:=gG
      have hs4:Below wq.heap.size wq w4:=hs3.trans (hs34.mono hz3)
      have hz4:=hs4.size
      try simp only[World.size_alloc,Zb6] at x8
      try simp only[World.size_alloc,Zb6] at x9
      first|have v8:=Box.to x8 hs34|have v8:=Zmm (T:=31) (cs:=[.slice none 0 0,.slice none 0 0]) hb4|have v8:=Zqe (T:=31) (cs:=[.slice none 0 0,.slice none 0 0]) hb4|skip
      first|have v9:=Box.to x9 hs34|have v9:=Zmm (T:=51) (cs:=[.string ⟨#[]⟩,.int .i64 0,.slice none 0 0,.slice none 0 0]) hb4|have v9:=Zqe (T:=51) (cs:=[.string ⟨#[]⟩,.int .i64 0,.slice none 0 0,.slice none 0 0]) hb4|skip
      try simp only[World.size_alloc,Zb6] at v8
      try simp only[World.size_alloc,Zb6] at v9
      try (have z80:=v8.cell (j:=0) rfl;have z81:=v8.cell (j:=1) rfl;have y80:=v8.frozen 0;have y81:=v8.frozen 1;have p8:=v8.to (w':=w4.alloc (.cells #[.string ⟨#[]⟩,.int .i64 0,.slice none 0 0,.slice none 0 0] 51)) gG;have a80:=p8.cell (j:=0) rfl;have a81:=p8.cell (j:=1) rfl;have b80:=p8.frozen 0;have b81:=p8.frozen 1;have f8:=eq_false (Nat.ne_of_lt v8.lt);have f8':=eq_false (Nat.ne_of_lt v8.lt).symm)
      try (have z90:=v9.cell (j:=0) rfl;have z91:=v9.cell (j:=1) rfl;have z92:=v9.cell (j:=2) rfl;have z93:=v9.cell (j:=3) rfl;have y90:=v9.frozen 0;have y91:=v9.frozen 1;have y92:=v9.frozen 2;have y93:=v9.frozen 3;have p9:=v9.to (w':=w4.alloc (.cells #[.slice As sg.length cs,.slice (some ⟨g,0,none⟩) l.length c] 31)) gG;have a90:=p9.cell (j:=0) rfl;have a91:=p9.cell (j:=1) rfl;have a92:=p9.cell (j:=2) rfl;have a93:=p9.cell (j:=3) rfl;have b90:=p9.frozen 0;have b91:=p9.frozen 1;have b92:=p9.frozen 2;have b93:=p9.frozen 3;have f9:=eq_false (Nat.ne_of_lt v9.lt);have f9':=eq_false (Nat.ne_of_lt v9.lt).symm)
      try (have d89:=eq_false (v8.ne v9);have d98:=eq_false (v8.ne v9).symm)))
  all_goals (go_wp2_with fail;go_meet)
  all_goals refine ⟨_,_,As,cs,g,c,hs,rfl,rfl, ?_⟩
  all_goals (
   have l3:=hb3.size
   have l4:=hb4.size
   simp only[World.size_alloc,Zb6] at l3 l4
   try have l8:=v8.lt
   try have l9:=v9.lt
   refine ZtF ?zn ?z8 ?z9 ?zB ?zT ?x8 ?x9 hoS hoW hap ?zb ?zk8 ?zk9
   case zT=>repeat' (first|(with_reducible refine Touch.put ?_ ?_ _)|(with_reducible refine Touch.then_ ?_ (Below.alloc (Below.refl _ _) (Nat.le_refl _) _))|(with_reducible refine Touch.then_ ?_ hb4)|(with_reducible exact Touch.refl _ _)|exact Or.inl rfl|exact Or.inr rfl)
   case zn=>omega
   case z8=>omega
   case z9=>omega
   case zB=>exact gG
   case zb=>simp only[World.size_alloc,Zb6];omega
   case zk8=>simp only[World.size_alloc,Zb6];omega
   case zk9=>simp only[World.size_alloc,Zb6];omega
   case x8=>first
    |(with_reducible exact Zmp (Box.new w4 _ _))
    |(with_reducible exact Zn4)
    |(with_reducible refine ZhY (Zn3 v8) ?_;omega)
    |(with_reducible refine ZhY (Zn3 (Zmp v8)) ?_;omega)
    |(with_reducible refine ZhY (Box.new w4 _ _) ?_;omega)
   case x9=>first
    |(with_reducible exact Zmp (Box.new w4 _ _))
    |(with_reducible exact Zn4)
    |(with_reducible refine Zj5 (Zlp v9 ?_);omega)
    |(with_reducible refine Zj5 (Zlp (Box.new w4 _ _) ?_);omega)
    |(with_reducible exact Zj5 (Zmp v9)))
 case rest =>
  obtain ⟨b8,b9,As,cs,g,c,hs,rfl,rfl,hne,h8,h9,hbw,hb8,hb9,hoS,hoW,hap,hapb⟩:=hcut
  have l8:=hb8.lt
  have l9:=hb9.lt
  have hzc:=hbw.size
  have HBW:Hid (Below w.heap.size w wc):=HB.out.trans (hbw.mono (by omega))
  have HQ1W:=Ze (HQ1.out.to hbw)
  have HQ0W:=Ze (HQ0.out.to hbw)
  have HB8:=Ze hb8;have HB9:=Ze hb9;have HS:=Ze hoS;have HW:=Ze hoW;have HAP:=Ze hap;have HAPB:=Ze hapb;have HNE:=Ze hne
  clear hb8 hb9 hoS hoW hap hapb hne hbw hbq HQ0 n0 n1 hd1 HQ1
  go_upto_region 3 with fail
  obtain ⟨wl,hwl⟩:∃y,wc.alloc (.cells #[] 68)=y:=⟨_,rfl⟩
  have hbl:Below wc.heap.size wc wl:=by rw[←hwl];exact Below.alloc (Below.refl _ _) (Nat.le_refl _) _
  have hk0:Own Zw wl wc.heap.size 68 (some ⟨wc.heap.size,0,none⟩) 0 (Zas ps 0 (x.ins.take 0)):=by rw[←hwl];exact Own.made (Nat.le_refl _)
  have HK0:=Ze hk0
  have HT0:Hid (Touch (fun q=>q=b9) wc wl):=(Touch.refl _ _).then_ hbl
  have HB90:=Ze (HB9.out.to hbl)
  have m1:=(HQ0W.out.to hbl).cell (j:=1) rfl
  have m2:wl.cell? ⟨bA,off+k * 4+2,none⟩=some (.slice Ai x.ins.length ci):=((HBW.out.trans (hbl.mono (by omega))).cell (p:=⟨bA,_,none⟩) hbA).trans HD2.out
  rw[hwl]
  clear hwl hk0 hbl
  go_wp2_with fail
  clear m1 m2
  go_loopw [35,10] (fun i kv wr=>∃(j:Nat) (A9:Option Addr) (c9:Nat) (Ak:Option Addr) (ck:Nat),j≤x.ins.length∧i=.int .i64 j∧kv=.slice Ak (Zas ps 0 (x.ins.take j)).length ck∧Hid (Box wr b9 51 [.string ⟨name.toArray⟩,.int .i64 x.kind,.slice A9 (Zad ps 0 (x.ins.take j)).length c9,.slice none 0 0])∧
   Hid (Own Zw wr wc.heap.size 68 A9 c9 (Zad ps 0 (x.ins.take j)))∧Hid (Own Zw wr wc.heap.size 68 Ak ck (Zas ps 0 (x.ins.take j)))∧Hid (∀q,blk A9=some q→blk Ak=some q→False)∧Hid (Touch (fun q=>q=b9) wc wr)) (fun i _ _=>x.ins.length - (intOf i).toNat)
  case atStart=>exact ⟨0,none,0,_,0,Nat.zero_le _,rfl,rfl,HB90,Own.nil_,HK0,(fun q h=>by simp[blk] at h),HT0⟩
  case round=>
   obtain ⟨j,A9,c9,Ak,ck,hj,rfl,rfl,hx9,ho9,hok,hdj,htr⟩:=hrel
   have hsz:=htr.out.size
   have hbw2:Below w.heap.size w wr:=HBW.out.trans (htr.out.below (fun q hq=>by omega) (by omega))
   by_cases hlt:j<x.ins.length
   ·obtain ⟨p,hp⟩:=Zg hlt
    obtain ⟨bi,oi,rfl,hbi,p0,p1,hIp⟩:=RSl.Pin_at (RA.to g4 hbw2) hp
    have HP:=Ze hp;clear hp
    go_wp2_with fail
    have hb5:Below wr.heap.size wr (wr.alloc (.cells #[.int .i64 p.at_,.bool p.not_] 68)):=Below.alloc (Below.refl _ _) (Nat.le_refl _) _
    refine (HCONT.out _ j (hbw2.trans (hb5.mono (by omega))) (by omega)).mono ?_
    rintro e w6 ⟨rfl,hb6⟩
    have hb6':Below wr.heap.size wr w6:=hb5.trans (hb6.mono (by rw[World.size_alloc];omega))
    have hz6:=hb6.size
    rw[World.size_alloc] at hz6
    have ht12:Box w6 wr.heap.size 68 [.int .i64 p.at_,.bool p.not_]:=Zmm hb6
    have t0:=ht12.cell (j:=0) rfl
    have t1:=ht12.cell (j:=1) rfl
    have hx9':=hx9.out.to hb6'
    have q2:=hx9'.cell (j:=2) rfl
    have HX9:=Ze hx9'
    have HO9:=Ze ((ho9.out.to hb6').to (Below.alloc (Below.refl _ _) (Nat.le_refl _) (.cells #[.int .i64 p.at_,.bool p.not_] 68)))
    have HOK:=Ze ((hok.out.to hb6').to (Below.alloc (Below.refl _ _) (Nat.le_refl _) (.cells #[.int .i64 p.at_,.bool p.not_] 68)))
    have HB6:=Ze hb6'
    have hle1:wc.heap.size≤(w6.alloc (.cells #[.int .i64 p.at_,.bool p.not_] 68)).heap.size:=by rw[World.size_alloc];omega
    have hln1:(Zad ps 0 (x.ins.take j)).length≤4000000:=by have:=ZfL ps (x.ins.take j) 0;rw[List.length_take] at this;omega
    have hln2:(Zas ps 0 (x.ins.take j)).length≤4000000:=by have:=Zeg ps (x.ins.take j) 0;rw[List.length_take] at this;omega
    have e9:x.ins.take (j+1)=x.ins.take j++[p]:=by rw[List.take_add_one,HP.out];rfl
    have hjl:(x.ins.take j).length=j:=by rw[List.length_take];omega
    have hs1:=Zgw ps p (x.ins.take j) 0
    have hs2:=ZhX ps p (x.ins.take j) 0
    rw[←e9,hjl,Nat.zero_add] at hs1 hs2
    have HLE:=Ze hle1;have HLN1:=Ze hln1;have HLN2:=Ze hln2
    clear hb5 hb6 hb6' hx9' ht12 e9 hjl hle1 hln1 hln2
    by_cases hm:(j:Int)∈ps
    ·rw[if_pos hm] at hs1 hs2
     rw[List.append_nil] at hs2
     have HS1:=Ze hs1;have HS2:=Ze hs2
     clear hs1 hs2
     have hdec:decide ((j:Int)∈ps)=true:=by simpa using hm
     go_wp2_with (at_builtin;refine Zhm (S:=Zw) (size:=2) (bytes:=16) (base:=wc.heap.size) (e:=68) (t:=48) (A:=A9) (c:=c9) (l:=Zad ps 0 (x.ins.take j)) rfl (.tmp 44) (.tmp 46) rfl Tryz.underlying48 (by kernel_rfl) rfl (by decide) (by decide) (by simp[Act.eval,Act.put]) HO9.out HLE.out HLN1.out p [.int .i64 p.at_,.bool p.not_] (Zfl hIp) (by simp[Value.oneCell']) w6.heap.size (by simp[Act.eval,Act.put]) (heap_alloc_new w6 _) ?_;intro A2 c2 w7 hown2 hp2;obtain ⟨ob,od,ot,o9⟩:=Zj4 l9 htr.out HB6.out hok.out ho9.out hdj.out hp2;have hx7:=HX9.out.keep o9;have s2:=hx7.cell (j:=2) rfl;have sf:=hx7.frozen 2;have HX7:=Ze hx7;have HOB:=Ze ob;have HOD:=Ze od;have HOT:=Ze ot;have HOW:=Ze hown2;clear ob od ot o9 hx7 hp2 hown2)
     go_roundw
     case rel=>exact ⟨j+1,A2,c2,Ak,ck,by omega,by go_num,by rw[HS2.out],(by show Box _ _ _ _;rw[HS1.out,List.length_append];exact HX7.out.set 2 _),(by show Own _ _ _ _ _ _ _;rw[HS1.out];exact HOW.out.past l9 _),(by show Own _ _ _ _ _ _ _;rw[HS2.out];exact HOB.out.past l9 _),HOD.out,HOT.out.put rfl _⟩
     case measure=>simp[intOf];omega
    ·rw[if_neg hm] at hs1 hs2
     rw[List.append_nil] at hs1
     have HS1:=Ze hs1;have HS2:=Ze hs2
     clear hs1 hs2
     have hdec:decide ((j:Int)∈ps)=false:=by simpa using hm
     go_wp2_with (at_builtin;refine Zhm (S:=Zw) (size:=2) (bytes:=16) (base:=wc.heap.size) (e:=68) (t:=48) (A:=Ak) (c:=ck) (l:=Zas ps 0 (x.ins.take j)) rfl (.tmp 49) (.tmp 51) rfl Tryz.underlying48 (by kernel_rfl) rfl (by decide) (by decide) (by simp[Act.eval,Act.put]) HOK.out HLE.out HLN2.out p [.int .i64 p.at_,.bool p.not_] (Zfl hIp) (by simp[Value.oneCell']) w6.heap.size (by simp[Act.eval,Act.put]) (heap_alloc_new w6 _) ?_;intro A2 c2 w7 hown2 hp2;obtain ⟨ob,od,ot,o9⟩:=Zj4 l9 htr.out HB6.out ho9.out hok.out (fun q e1 e2=>hdj.out q e2 e1) hp2;have HX7:=Ze (HX9.out.keep o9);have HOB:=Ze ob;have HOD:=Ze od;have HOT:=Ze ot;have HOW:=Ze hown2;clear ob od ot o9 hp2 hown2)
     go_roundw
     case rel=>exact ⟨j+1,A9,c9,A2,c2,by omega,by go_num,by rw[HS2.out,List.length_append];rfl,(by show Box _ _ _ _;rw[HS1.out];exact HX7.out),(by show Own _ _ _ _ _ _ _;rw[HS1.out];exact HOB.out),(by show Own _ _ _ _ _ _ _;rw[HS2.out];exact HOW.out),(fun q e1 e2=>HOD.out q e2 e1),HOT.out⟩
     case measure=>simp[intOf];omega
   ·obtain rfl:j=x.ins.length:=by omega
    rw[List.take_length] at hx9 ho9 hok
    rw[List.take_length]
    have hglt:g<wc.heap.size:=HW.out.glt
    have hqb:∀q,(blk As=some q∨gB g hs q)→q≠b9:=fun q h=>(HAPB.out q h).2
    have hW1:WRow wr wq.heap.size 51 68 9 g c l hs:=HW.out.keep fun q h=>htr.out.block q (HW.out.lt h).2 (hqb q (.inr h))
    obtain ⟨hk9,hhk⟩:=hW1.hd HK.out
    have hb8r:Box wr b8 31 [.slice As sg.length cs,.slice (some ⟨g,0,none⟩) l.length c]:=HB8.out.keep (htr.out.block _ l8 HNE.out)
    have r1:=hb8r.cell (j:=1) rfl
    have r2:=hW1.cell HK.out hhk (q:=2) rfl
    have r3:=hW1.frozen (k * 4+2)
    have hapk:∀b,blk Ak=some b→b≠g∧blk hk9.B≠some b∧∀j h',j≠k→hs[j]?=some h'→¬h'.has b:=fun q h=>by
     have h1:=(hok.out.lt q h).1
     exact ⟨by omega,fun e=>by have:=(HW.out.lt (.inr ⟨k,hk9,hhk,.inr e⟩)).2;omega,fun j' h' _ hh' e=>by have:=(HW.out.lt (.inr ⟨j',h',hh',e⟩)).2;omega⟩
    have hW2:=hW1.setIns HK.out hhk (hok.out.lower hzc) hapk
    obtain ⟨w10,hw10⟩:∃y,wr.setCell ⟨g,k * 4+2,none⟩ (.slice Ak (Zas ps 0 x.ins).length ck)=y:=⟨_,rfl⟩
    obtain ⟨hs1,hhs1⟩:∃y,hs.set k {hk9 with A:=Ak,c:=ck}=y:=⟨_,rfl⟩
    obtain ⟨l1,hl1⟩:∃y,l.set k {x with ins:=Zas ps 0 x.ins}=y:=⟨_,rfl⟩
    have hk1:l1[k]?=some {x with ins:=Zas ps 0 x.ins}:=by rw[←hl1,List.getElem?_set_self hkl]
    have hh1:hs1[k]?=some {hk9 with A:=Ak,c:=ck}:=by rw[←hhs1,List.getElem?_set_self (Zh hhk)]
    have hll:l1.length=l.length:=by rw[←hl1,List.length_set]
    have hbnd:∀y∈l1,y.ins.length≤100000∧∀p∈y.ins, -1000000≤p.at_∧p.at_≤1000000:=fun y hy=>by
     rw[←hl1] at hy
     rcases List.mem_or_eq_of_mem_set hy with hy|rfl
     ·exact HIN.out y hy
     ·have h1:=HIN.out x (List.mem_of_getElem? HK.out)
      exact ⟨Nat.le_trans (Zeg ps x.ins 0) h1.1,fun p hp=>h1.2 p (Zhj ps x.ins 0 p hp)⟩
    have hgb:∀q,gB g hs1 q→q≠b8∧q≠b9∧blk As≠some q∧blk A9≠some q∧wq.heap.size≤q:=fun q hq=>by
     have hcase:gB g hs q∨blk Ak=some q:=by
      rcases hq with rfl|⟨i,h,hi,hb⟩
      ·exact .inl (.inl rfl)
      ·rw[←hhs1] at hi
       rcases Zci hi with ⟨rfl,rfl⟩|⟨_,hi⟩
       ·rcases hb with hb|hb
        ·exact .inr hb
        ·exact .inl (.inr ⟨i,hk9,hhk,.inr hb⟩)
       ·exact .inl (.inr ⟨i,h,hi,hb⟩)
     rcases hcase with hq|hq
     ·have h1:=HAPB.out q (.inr hq)
      have h2:=HW.out.lt hq
      exact ⟨h1.1,h1.2,fun e=>HAP.out q e hq,fun e=>by have:=(ho9.out.lt q e).1;omega,h2.1⟩
     ·have h1:=hok.out.lt q hq
      exact ⟨by omega,by omega,fun e=>by have:=(HS.out.lt q e).2;omega,fun e=>hdj.out q e hq,by omega⟩
    have hold:∀q,q≠g→w10.heap[q]?=wr.heap[q]?:=fun q hq=>by rw[←hw10];exact Below.heap_setCell _ _ _ _ (fun e=>hq (by simpa using e))
    have hgg:=hgb g (.inl rfl)
    have H8:Hid (Box w10 b8 31 [.slice As sg.length cs,.slice (some ⟨g,0,none⟩) l.length c]):=hb8r.keep (hold b8 fun e=>hgg.1 e.symm)
    have H9:Hid (Box w10 b9 51 [.string ⟨name.toArray⟩,.int .i64 x.kind,.slice A9 (Zad ps 0 x.ins).length c9,.slice none 0 0]):=hx9.out.keep (hold b9 fun e=>hgg.2.1 e.symm)
    have HO9:Hid (Own Zw w10 wq.heap.size 68 A9 c9 (Zad ps 0 x.ins)):=(ho9.out.keep fun q e=>hold q fun e2=>hgg.2.2.2.1 (e2▸e)).lower hzc
    have HOS:Hid (Own Zm w10 wq.heap.size 70 As cs sg):=(htr.out.own HS.out fun q e=>(HAPB.out q (.inl e)).2).keep fun q e=>hold q fun e2=>hgg.2.2.1 (e2▸e)
    have HZ:Hid (Box w10 (w.heap.size+1) 31 [.slice none 0 0,.slice none 0 0]):=by
     have hlz:=HQ1W.out.lt
     exact (HQ1W.out.keep (htr.out.block _ hlz (by omega))).keep (hold _ (by omega))
    have HW10:Hid (WRow w10 wq.heap.size 51 68 9 g c l1 hs1):=by
     show WRow _ _ _ _ _ _ _ _ _
     rw[←hw10,←hl1,←hhs1];exact hW2
    have HB10:Hid (Below w.heap.size w w10):=by
     show Below _ _ _
     rw[←hw10];exact hbw2.setCell (by show w.heap.size≤g;omega) _
    have hz10:wr.heap.size=w10.heap.size:=by rw[←hw10,World.size_setCell]
    have hz10':wr.heap.size≤w10.heap.size:=by omega
    have HDJ9:=hdj
    have HL1E:=Ze hl1
    have HAPS8:Hid (∀q,blk As=some q→q≠b8):=fun q e=>(HAPB.out q (.inl e)).1
    have HAP9:Hid (∀q,blk A9=some q→q≠b8∧blk As≠some q):=fun q e=>by
     have h1:=(ho9.out.lt q e).1
     exact ⟨by omega,fun e2=>by have:=(HS.out.lt q e2).2;omega⟩
    have HGB:=Ze hgb;have HK1:=Ze hk1;have HH1:=Ze hh1;have HLL:=Ze hll;have HBND:=Ze hbnd
    have HW10E:=Ze hw10
    clear hW1 hW2 hhk hqb hapk hgb hold hgg hk1 hh1 hll hbnd hhs1 hl1 hz10 hw10 hb8r hx9 ho9 hok hdj
    go_upto_region 11 with fail
    rw[HW10E.out]
    clear r1 r2 r3 HW10E htr hbw2 hsz
    have m8:=H8.out.cell (j:=1) rfl
    go_wp2_with fail
    clear m8
    have hl1n:l1.length=l.length:=HLL.out
    go_loopw [63] (fun i wv=>∃m:Nat,m≤l.length∧i=.int .i64 m∧Hid (WRow wv wq.heap.size 51 68 9 g c (ZcI (shW k) l1 m) hs1)∧Hid (Touch (gB g hs1) w10 wv)) (fun i _=>l.length - (intOf i).toNat)
    case atStart=>exact ⟨0,Nat.zero_le _,rfl,(by show WRow _ _ _ _ _ _ _ _ _;rw[ZsS];exact HW10.out),Touch.refl _ _⟩
    case round=>
     obtain ⟨wo,rfl⟩:∃wo,wo=wr:=⟨_,rfl⟩
     obtain ⟨m,hm,rfl,hwv,htv⟩:=hrel
     have hzv:=htv.out.size
     by_cases hlt:m<l.length
     ·obtain ⟨y,hy⟩:=Zg (l:=l1) (k:=m) (by omega)
      have hyb:=HBND.out y (List.mem_of_getElem? hy)
      obtain ⟨hm9,hmh⟩:=hwv.out.hd (ZcR hy)
      have c0:=hwv.out.cell (ZcR hy) hmh (q:=0) rfl
      rw[Nat.add_zero] at c0
      have c1:=hwv.out.cell (ZcR hy) hmh (q:=1) rfl
      have c2:=hwv.out.cell (ZcR hy) hmh (q:=2) rfl
      have c3:=hwv.out.cell (ZcR hy) hmh (q:=3) rfl
      have HMG:=Ze (ZcR (f:=shW k) hy)
      have HY:=Ze hy;have HMH:=Ze hmh
      obtain ⟨hyl,hyp⟩:=hyb
      have HYP:=Ze hyp
      clear hy hmh hyp
      go_upto_region 14 with fail
      obtain ⟨w13,hw13⟩:∃y',wo.alloc (.cells #[.string ⟨y.name.toArray⟩,.int .i64 y.kind,.slice hm9.A y.ins.length hm9.c,.slice hm9.B y.cover.length hm9.d] 51)=y':=⟨_,rfl⟩
      have hb13:Below wo.heap.size wo w13:=by rw[←hw13];exact Below.alloc (Below.refl _ _) (Nat.le_refl _) _
      have hz13:wo.heap.size<w13.heap.size:=by rw[←hw13,World.size_alloc];omega
      have hbt:Box w13 wo.heap.size 51 [.string ⟨y.name.toArray⟩,.int .i64 y.kind,.slice hm9.A y.ins.length hm9.c,.slice hm9.B y.cover.length hm9.d]:=by rw[←hw13];exact Box.new _ _ _
      have HW13:=Ze (hwv.out.to hb13)
      have HT13:=Ze (htv.out.then_ hb13)
      have s2:=hbt.cell (j:=2) rfl
      have HBT:=Ze hbt
      rw[hw13]
      clear hw13 hb13 hbt c0 c1 c2 c3
      go_wp2_with fail
      clear s2
      go_loopw [70] (fun i wu=>∃q:Nat,q≤y.ins.length∧i=.int .i64 q∧Hid (WRow wu wq.heap.size 51 68 9 g c ((ZcI (shW k) l1 m).set m {y with ins:=ZcI (sh1 k) y.ins q}) hs1)∧Hid (Touch (gB g hs1) w13 wu)) (fun i _=>y.ins.length - (intOf i).toNat)
      case atStart=>exact ⟨0,Nat.zero_le _,rfl,(by show WRow _ _ _ _ _ _ _ _ _;rw[ZsS,ZsT HMG.out];exact HW13.out),Touch.refl _ _⟩
      case round=>
       obtain ⟨q,hq,rfl,hwu,htu⟩:=hrel
       have hzu:=htu.out.size
       have hbtu:=HBT.out.keep (htu.out.block wo.heap.size hz13 (fun e=>by have:=(hwv.out.lt e).2;omega))
       have s2:=hbtu.cell (j:=2) rfl
       by_cases hlq:q<y.ins.length
       ·obtain ⟨p,hp⟩:=Zg hlq
        obtain ⟨pb1,pb2⟩:=HYP.out p (List.mem_of_getElem? hp)
        have hset:((ZcI (shW k) l1 m).set m {y with ins:=ZcI (sh1 k) y.ins q})[m]?=some {y with ins:=ZcI (sh1 k) y.ins q}:=List.getElem?_set_self (Zh HMG.out)
        have hown:=hwu.out.ins m _ hm9 hset HMH.out
        obtain ⟨gi,hA,hg1,hg2,p0,pf0,hIp⟩:=hown.pin_cell (j:=q) (p:=p) (ZcR hp)
        have hw1:IntKind.i64.wrap (p.at_+1)=p.at_+1:=by rw[IntKind.wrap_i64];omega
        have hgi:gB g hs1 gi:=.inr ⟨m,hm9,HMH.out,.inl (by rw[hA];rfl)⟩
        have HPIN:∀z:Int,InI z→WRow (wr.setCell ⟨gi,q * 2,none⟩ (.int .i64 z)) wq.heap.size 51 68 9 g c ((ZcI (shW k) l1 m).set m {y with ins:=(ZcI (sh1 k) y.ins q).set q ⟨z,p.not_⟩}) hs1:=fun z hz=>by
         have:=hwu.out.pin hset HMH.out hA (j:=q) (p:=p) (ZcR hp) hz
         rwa[List.set_set] at this
        have HP:=Ze hp;have HPIN:=Ze HPIN;have HGI:=Ze hgi
        have hylen:(ZcI (sh1 k) y.ins q).length=y.ins.length:=Zmn _ _ _
        rw[hA] at s2
        clear hset hown hp hgi hylen hA
        by_cases hge:(k:Int)≤p.at_
        ·have hs1:sh1 k p=⟨p.at_+1,p.not_⟩:=by unfold sh1;rw[if_pos hge]
         have HS1:=Ze hs1;clear hs1
         go_wp2_with fail
         go_roundw
         case rel=>exact ⟨q+1,by omega,by go_num,(by show WRow _ _ _ _ _ _ _ _ _;rw[←ZiB HP.out,HS1.out];exact HPIN.out _ (by constructor<;>omega)),htu.out.put HGI.out _⟩
         case measure=>simp[intOf];omega
        ·have hs1:sh1 k p=p:=by unfold sh1;rw[if_neg hge]
         have HS1:=Ze hs1;clear hs1
         go_wp2_with fail
         go_roundw
         case rel=>exact ⟨q+1,by omega,by go_num,(by show WRow _ _ _ _ _ _ _ _ _;rw[Zn2 HP.out HS1.out];exact hwu.out),htu.out⟩
         case measure=>simp[intOf];omega
       ·obtain rfl:q=y.ins.length:=by omega
        rw[Zmo] at hwu
        have HYY:=Ze hwu.out
        have hch:Hid (Touch (gB g hs1) w10 wr):=HT13.out.chain htu.out (w0:=w10) (fun q h=>(HW10.out.lt h).2) (Nat.le_refl _)
        go_wp2_with fail
        refine ⟨⟨m+1,by omega,by go_num, ?_,hch⟩,by simp[intOf];omega⟩
        show WRow _ _ _ _ _ _ _ _ _
        rw[←ZiB HY.out]
        exact HYY.out
     ·obtain rfl:m=l.length:=by omega
      rw[←hl1n,Zmo] at hwv
      have hk2:(l1.map (shW k))[k]?=some (shW k {x with ins:=Zas ps 0 x.ins}):=by rw[List.getElem?_map,HK1.out];rfl
      have hb8o:Box wo b8 31 [.slice As sg.length cs,.slice (some ⟨g,0,none⟩) l.length c]:=H8.out.keep (htv.out.block _ H8.out.lt (fun e=>(HGB.out b8 e).1 rfl))
      have r1:=hb8o.cell (j:=1) rfl
      have r2:=hwv.out.cell hk2 HH1.out (q:=2) rfl
      have r3:=hwv.out.frozen (k * 4+2)
      have hgA:∀q,blk Ak=some q→gB g hs1 q:=fun q hq=>.inr ⟨k,_,HH1.out,.inl hq⟩
      have hown:=hwv.out.ins k _ _ hk2 HH1.out
      obtain ⟨kk,hkk⟩:∃kk,(Zas ps 0 x.ins).map (sh1 k)=kk:=⟨_,rfl⟩
      have HKK:=Ze hkk
      have hkkl:kk.length≤4000000:=by rw[←hkk,List.length_map];have:=Zeg ps x.ins 0;omega
      simp only[shW,hkk] at r2 hown
      have HOA:Hid (∀o:Obj,Own Zw (wo.alloc o) wq.heap.size 68 Ak ck kk):=fun o=>hown.to (Below.alloc (Below.refl _ _) (Nat.le_refl _) _)
      have HS0:Hid (∀W:World,(∀q,q<wo.heap.size→W.heap[q]?=wo.heap[q]?)→W.cell? ⟨b8,1,none⟩=some (.slice (some ⟨g,0,none⟩) l.length c)∧W.cell? ⟨g,k * 4+2,none⟩=some (.slice Ak kk.length ck)∧W.frozen? ⟨g,k * 4+2,none⟩=false):=fun W h=>by
       have e1:=h b8 hb8o.lt
       have e2:=h g hwv.out.glt
       exact ⟨(World.cell?_of_block e1).trans r1,(World.cell?_of_block e2).trans r2,(World.frozen?_of_block e2).trans r3⟩
      have HS1:Hid (∀(o:Obj) (w7:World) (A2:Option Addr),Push2 (wo.alloc o) w7 Ak A2→w7.cell? ⟨b8,1,none⟩=some (.slice (some ⟨g,0,none⟩) l.length c)∧w7.cell? ⟨g,k * 4+2,none⟩=some (.slice Ak kk.length ck)∧w7.frozen? ⟨g,k * 4+2,none⟩=false):=fun o w7 A2 h3=>by
       have e1:w7.heap[b8]?=wo.heap[b8]?:=(h3.block b8 (by rw[World.size_alloc];have:=hb8o.lt;omega) (fun e=>(HGB.out _ (hgA _ e)).1 rfl)).trans (heap_alloc_old _ _ hb8o.lt)
       have e2:w7.heap[g]?=wo.heap[g]?:=(h3.block g (by rw[World.size_alloc];have:=hwv.out.glt;omega) (fun e=>hwv.out.out k _ g HH1.out (.inl e) rfl)).trans (heap_alloc_old _ _ hwv.out.glt)
       exact ⟨(World.cell?_of_block e1).trans r1,(World.cell?_of_block e2).trans r2,(World.frozen?_of_block e2).trans r3⟩
      have HLE:Hid (∀o:Obj,wq.heap.size≤(wo.alloc o).heap.size):=fun o=>by
       have e1:=(HW10.out.lt (.inl rfl)).1
       have e2:=HW10.out.glt
       rw[World.size_alloc];omega
      have HB8O:=Ze hb8o;have HK2:=Ze hk2;have HGA:=Ze hgA
      obtain ⟨m0,m2,mf2⟩:=HS0.out (wo.alloc (.cells #[.int .i64 k,.bool false] 68)) (fun q hq=>heap_alloc_old wo _ hq)
      have HFIN:Hid (∀(w7:World) (A2:Option Addr) (cA2:Nat),Own Zw w7 wq.heap.size 68 A2 cA2 (kk++[⟨(k:Int),false⟩])→Push2 (wo.alloc (.cells #[.int .i64 k,.bool false] 68)) w7 Ak A2→
       WRow (w7.setCell ⟨g,k * 4+2,none⟩ (.slice A2 (kk.length+1) cA2)) wq.heap.size 51 68 9 g c (Zdt l k x ps) (hs1.set k {hk9 with A:=A2,c:=cA2})∧(∀q,blk A2=some q→gB g hs1 q∨w10.heap.size≤q)∧
       (∀q,q<w10.heap.size→¬gB g hs1 q→(w7.setCell ⟨g,k * 4+2,none⟩ (.slice A2 (kk.length+1) cA2)).heap[q]?=w10.heap[q]?)∧Below w.heap.size w (w7.setCell ⟨g,k * 4+2,none⟩ (.slice A2 (kk.length+1) cA2))∧w10.heap.size≤(w7.setCell ⟨g,k * 4+2,none⟩ (.slice A2 (kk.length+1) cA2)).heap.size):=fun w7 A2 cA2 h1 h2=>by
       have hw:=hwv.out.push hk2 HH1.out h1 h2
       rw[List.length_append] at hw
       have hzo:=htv.out.size
       have hz7:=h2.size
       rw[World.size_alloc] at hz7
       have hqk:∀q,q<w10.heap.size→¬gB g hs1 q→(w7.setCell ⟨g,k * 4+2,none⟩ (.slice A2 (kk.length+1) cA2)).heap[q]?=w10.heap[q]?:=fun q hq hn=>by
        rw[Below.heap_setCell _ _ _ _ (fun e=>hn (.inl (by first|exact e|exact e.symm))),h2.block q (by rw[World.size_alloc];omega) (fun e=>hn (hgA q e)),heap_alloc_old _ _ (by omega)]
        exact htv.out.block q hq hn
       refine ⟨?_,fun q hq=> ?_,hqk,⟨h2.os.trans (htv.out.os.trans HB10.out.os),h2.tape.trans (htv.out.tape.trans HB10.out.tape),h2.output.trans (htv.out.output.trans HB10.out.output),by rw[World.size_setCell];have:=HB10.out.size;omega,fun q hq=> ?_⟩,by rw[World.size_setCell];omega⟩
       ·unfold Zdt
        rw[HL1E.out,HKK.out]
        exact hw
       ·rcases h2.lies q hq with e|e
        ·exact .inl (hgA q e)
        ·rw[World.size_alloc] at e
         exact .inr (by omega)
       ·rw[hqk q (by have:=HB10.out.size;omega) (fun e=>by have:=(HGB.out q e).2.2.2.2;omega)]
        exact HB10.out.block q hq
      clear hown hkk hb8o hk2 hgA
      go_upto_region 21 with fail
      go_cut [7] (fun s7 wx=>s7=.bool false∧∃(A2:Option Addr) (cA2:Nat),WRow wx wq.heap.size 51 68 9 g c (Zdt l k x ps) (hs1.set k {hk9 with A:=A2,c:=cA2})∧(∀q,blk A2=some q→gB g hs1 q∨w10.heap.size≤q)∧
       (∀q,q<w10.heap.size→¬gB g hs1 q→wx.heap[q]?=w10.heap[q]?)∧Below w.heap.size w wx∧w10.heap.size≤wx.heap.size)
      case first=>
       go_region_law ((refine Zlq (S:=Zw) (size:=2) (bytes:=16) (base:=wq.heap.size) (e:=68) (t:=48) (A:=Ak) (c:=ck) (l:=kk) rfl (.tmp 100) (.tmp 103) (by rfl) Tryz.underlying48 (by kernel_rfl) rfl (by decide) (by decide) (by rfl) (HOA.out _) (HLE.out _) hkkl ⟨(k:Int),false⟩ [.int .i64 k,.bool false] (Zfl (x:=⟨(k:Int),false⟩) hIk2) (by simp[Value.oneCell']) wo.heap.size (by rfl) (heap_alloc_new wo _) ?_;intro A2 cA2 w7 hown2 hp2;have hp3:Push2 (wo.alloc (.cells #[.int .i64 k,.bool false] 68)) w7 Ak A2:=(by first|exact hp2|exact Zph hp2);obtain ⟨q0,q2,qf2⟩:=HS1.out _ _ _ hp3))
       all_goals (
        have HFF:=Ze (HFIN.out _ _ _ hown2 hp3)
        go_wp2_with fail
        go_meet
        exact ⟨rfl,_,_,HFF.out⟩)
      case rest=>
       obtain ⟨rfl,A2,cA2,hw3,hA2,hqk,hb3,hz3⟩:=hcut
       have hkh1:=Zh HH1.out
       have hllen:(Zdt l k x ps).length=l.length:=by
        unfold Zdt
        rw[List.length_set,List.length_map,List.length_set]
       have hgb3:∀q,gB g (hs1.set k {hk9 with A:=A2,c:=cA2}) q→q≠b8∧q≠b9∧blk As≠some q∧blk A9≠some q∧wq.heap.size≤q:=fun q hq=>by
        have hcase:gB g hs1 q∨w10.heap.size≤q:=by
         rcases hq with rfl|⟨i,h,hi,hb⟩
         ·exact .inl (.inl rfl)
         ·rcases Zci hi with ⟨rfl,rfl⟩|⟨_,hi⟩
          ·rcases hb with hb|hb
           ·exact hA2 q hb
           ·exact .inl (.inr ⟨i,_,HH1.out,.inr hb⟩)
          ·exact .inl (.inr ⟨i,h,hi,hb⟩)
        rcases hcase with h|h
        ·exact HGB.out q h
        ·have e1:=H8.out.lt
         have e2:=H9.out.lt
         have e3:=(HW10.out.lt (.inl rfl)).1
         have e4:=HW10.out.glt
         exact ⟨by omega,by omega,fun e=>by have:=(HOS.out.lt q e).2;omega,fun e=>by have:=(HO9.out.lt q e).2;omega,by omega⟩
       have hng:∀q,(q=b8∨q=b9∨blk As=some q∨blk A9=some q)→¬gB g hs1 q:=fun q h e=>by
        have:=HGB.out q e
        rcases h with h|h|h|h
        ·exact this.1 h
        ·exact this.2.1 h
        ·exact this.2.2.1 h
        ·exact this.2.2.2.1 h
       have h8:Box wc b8 31 [.slice As sg.length cs,.slice (some ⟨g,0,none⟩) l.length c]:=H8.out.keep (hqk b8 H8.out.lt (hng b8 (.inl rfl)))
       have h9:Box wc b9 51 [.string ⟨name.toArray⟩,.int .i64 x.kind,.slice A9 (Zad ps 0 x.ins).length c9,.slice none 0 0]:=H9.out.keep (hqk b9 H9.out.lt (hng b9 (.inr (.inl rfl))))
       have h10:Own Zw wc wq.heap.size 68 A9 c9 (Zad ps 0 x.ins):=HO9.out.keep fun q e=>hqk q (HO9.out.lt q e).2 (hng q (.inr (.inr (.inr e))))
       have h11:Own Zm wc wq.heap.size 70 As cs sg:=HOS.out.keep fun q e=>hqk q (HOS.out.lt q e).2 (hng q (.inr (.inr (.inl e))))
       have h12:Box wc (w.heap.size+1) 31 [.slice none 0 0,.slice none 0 0]:=HZ.out.keep (hqk _ HZ.out.lt fun e=>by have:=(HGB.out _ e).2.2.2.2;omega)
       have HW3:=Ze hw3;have HGB3:=Ze hgb3;have HB3:=Ze hb3;have H8':=Ze h8;have H9':=Ze h9;have H10:=Ze h10;have H11:=Ze h11;have H12:=Ze h12;have HLLEN:=Ze hllen
       have r1:=h8.cell (j:=1) rfl
       have s0:=h9.cell (j:=0) rfl
       have s1:=h9.cell (j:=1) rfl
       have s2:=h9.cell (j:=2) rfl
       have s3:=h9.cell (j:=3) rfl
       clear hw3 hA2 hqk hb3 hz3 hgb3 hng h8 h9 h10 h11 h12 hllen r2 r3 m0 m2 mf2
       go_wp2_with fail
       obtain ⟨wI,hwI⟩:∃y,wc.alloc (.cells #[.string ⟨name.toArray⟩,.int .i64 x.kind,.slice A9 (Zad ps 0 x.ins).length c9,.slice none 0 0] 51)=y:=⟨_,rfl⟩
       have hbI:Below wc.heap.size wc wI:=by rw[←hwI];exact Below.alloc (Below.refl _ _) (Nat.le_refl _) _
       have hvI:wI.heap[wc.heap.size]?=some (.cells (WHd.cells ⟨A9,c9,none,0⟩ ⟨name,x.kind,Zad ps 0 x.ins,[]⟩).toArray 51 (0,0)):=by rw[←hwI];exact heap_alloc_new wc _
       have hWI:=HW3.out.to hbI
       obtain ⟨L,hL0,hL1,hL2⟩:=hWI.row
       have hcapI:=hWI.cap
       have hcm:c≤9223372036854775807:=by have:=hcapI.2;unfold maxLen at this;omega
       have hone:=hWI.one hL2
       have hll:=HLLEN.out
       rw[hll] at hone hcapI
       rw[hwI]
       have hglI:=HW3.out.glt
       refine (Zn7 g c l.length k wc.heap.size L (WHd.cells ⟨A9,c9,none,0⟩ ⟨name,x.kind,Zad ps 0 x.ins,[]⟩) wI hkl hcapI.1 (by omega) hcm (by omega) hL1 rfl hL0 hvI hone (by simp[WHd.cells,Value.oneCell'])).mono ?_
       rintro e w8 ⟨g',c',L',rfl,f1,f2,f3,f4,f5,f6,f7⟩
       have hI9:=H10.out.to hbI
       have hW8:=hWI.insert (k:=k) (by rw[hll];exact hkl) (x:=⟨name,x.kind,Zad ps 0 x.ins,[]⟩) (h:=⟨A9,c9,none,0⟩) hI9 Own.nil_ (fun q hq=>by
        have hq9:blk A9=some q:=by
         rcases hq with h|h
         ·exact h
         ·simp[blk] at h
        exact ⟨fun e=>(HGB3.out q (.inl e)).2.2.2.1 hq9,fun j h' hj hb=>(HGB3.out q (.inr ⟨j,h',hj,hb⟩)).2.2.2.1 hq9⟩) (fun q _ h=>by simp[blk] at h) hL1 hL2 (by rw[hll];exact f1) f2 f3 f4 f5 (by rw[hll];exact f6) f7
       have hk8:∀q,q<wc.heap.size→q≠g→w8.heap[q]?=wc.heap[q]?:=fun q hq hn=>(f7.block q (Nat.lt_of_lt_of_le hq hbI.size) hn).trans (hbI.block q hq)
       have hgb:=HGB3.out g (.inl rfl)
       have h8:=H8'.out.keep (hk8 b8 H8'.out.lt fun e=>hgb.1 e.symm)
       have hB8w:Below w.heap.size w w8:=⟨f7.os.trans (hbI.os.trans HB3.out.os),f7.tape.trans (hbI.tape.trans HB3.out.tape),f7.output.trans (hbI.output.trans HB3.out.output),Nat.le_trans HB3.out.size (Nat.le_trans hbI.size f7.size),fun q hq=>(hk8 q (Nat.lt_of_lt_of_le hq HB3.out.size) (by omega)).trans (HB3.out.block q hq)⟩
       have h11:=H11.out.keep (w':=w8) fun q e=>hk8 q (H11.out.lt q e).2 fun e2=>hgb.2.2.1 (e2▸e)
       have h12:=H12.out.keep (hk8 _ H12.out.lt (by omega))
       have y1:=h8.cell (j:=1) rfl
       have z1:=h8.frozen 1
       have hz8:wc.heap.size≤w8.heap.size:=Nat.le_trans hbI.size f7.size
       have hap8:∀q,gB g' ((hs1.set k {hk9 with A:=A2,c:=cA2}).take k++(⟨A9,c9,none,0⟩:WHd)::(hs1.set k {hk9 with A:=A2,c:=cA2}).drop k) q→q≠b8∧blk As≠some q:=fun q hq=>by
        have hcase:gB g (hs1.set k {hk9 with A:=A2,c:=cA2}) q∨blk A9=some q∨wc.heap.size≤q:=by
         rcases hq with rfl|⟨i,h,hi,hb⟩
         ·rcases f3 with rfl|f3
          ·exact .inl (.inl rfl)
          ·exact .inr (.inr (Nat.le_trans hbI.size f3))
         ·rcases ZfG (by rw[List.length_set];omega) hi with ⟨_,e⟩|⟨_,e⟩|⟨_,e⟩
          ·exact .inl (.inr ⟨_,h,e,hb⟩)
          ·subst e
           rcases hb with hb|hb
           ·exact .inr (.inl hb)
           ·simp[blk] at hb
          ·exact .inl (.inr ⟨_,h,e,hb⟩)
        rcases hcase with h|h|h
        ·exact ⟨(HGB3.out q h).1,(HGB3.out q h).2.2.1⟩
        ·exact HAP9.out q h
        ·exact ⟨by have:=H8'.out.lt;omega,fun e=>by have:=(H11.out.lt q e).2;omega⟩
       have HAP8:=Ze hap8
       have HAP8S:Hid (∀q,blk As=some q→q≠b8):=fun q e e2=>HAPS8.out q e e2
       have H8'':=Ze h8;have HB8w:=Ze hB8w;have H11':=Ze h11;have H12':=Ze h12;have HW8:=Ze hW8
       clear hap8 hwI hbI hvI hWI hL0 hL1 hL2 hcapI hone hll f3 f4 f5 f6 f7 hI9 hW8 hk8 hgb h8 hB8w h11 h12 s0 s1 s2 s3 r1
       go_upto_region 23 with fail
       obtain ⟨wn,hwn⟩:∃y,w8.setCell ⟨b8,1,none⟩ (.slice (some ⟨g',0,none⟩) (l.length+1) c')=y:=⟨_,rfl⟩
       have hsw:(ZbJ l k x ps name).length=l.length+1:=by
        unfold ZbJ
        simp only[List.length_append,List.length_take,List.length_cons,List.length_drop,HLLEN.out]
        omega
       have hold:∀q,q≠b8→wn.heap[q]?=w8.heap[q]?:=fun q hq=>by rw[←hwn];exact Below.heap_setCell _ _ _ _ (fun e=>hq (by first|exact e|exact e.symm))
       have hN8:Box wn b8 31 [.slice As sg.length cs,.slice (some ⟨g',0,none⟩) (l.length+1) c']:=by rw[←hwn];exact H8''.out.set 1 _
       have hNW:=HW8.out.keep (w':=wn) fun q hq=>hold q (HAP8.out q hq).1
       have hNS:Own Zm wn wq.heap.size 70 As cs sg:=H11'.out.keep fun q e=>hold q fun e2=>HAP8S.out q e e2
       have hNZ:=H12'.out.keep (hold _ (by omega))
       have hNB:Below w.heap.size w wn:=by rw[←hwn];exact HB8w.out.setCell (by show w.heap.size≤b8;omega) _
       have hsz8:w8.heap.size=wn.heap.size:=by rw[←hwn,World.size_setCell]
       have y0:=hN8.cell (j:=0) rfl
       have y1':=hN8.cell (j:=1) rfl
       have HVR:Hid (VR wn (fun b=>b<wn.heap.size) (.agg [.lst (sg.map ZaW),.lst ((ZbJ l k x ps name).map Zav)]) (.agg #[.slice As sg.length cs,.slice (some ⟨g',0,none⟩) (l.length+1) c'])):=by
        have:=vr_net hNS hNW
        rw[←hsw]
        exact this
       have HNW:=Ze hNW;have HNS:=Ze hNS;have HNZ:=Ze hNZ;have HNB:=Ze hNB;have HSW:=Ze hsw
       have hszl:w8.heap.size≤wn.heap.size:=by omega
       rw[hwn]
       clear hwn hold hN8 hNW hNS hNZ hNB hsw hsz8 y1 z1
       go_wp2_with fail
       have hnif:=Zj3 b As (some ⟨g',0,none⟩) sg.length cs (l.length+1) c' wn (fun w' hw=>HVAL.out w' _ (HNB.out.trans (hw.mono HNB.out.size)) (HVR.out.keep ⟨fun q hq=>Nat.lt_of_lt_of_le hq hw.size,fun q hq=>hw.block q hq⟩))
       cases b
       all_goals (
        simp only[Bool.false_eq_true,if_false,if_true] at hnif
        have HNIF:=Ze hnif;clear hnif
        refine HNIF.out.mono ?_
        rintro e wz ⟨rfl,hbz⟩
        have hZ:=HNZ.out.to hbz
        have d0:=hZ.cell (j:=0) rfl
        have d1:=hZ.cell (j:=1) rfl
        have d2:=hZ.frozen 0
        have d3:=hZ.frozen 1
        have HZW:=Ze (HNW.out.to hbz)
        have HZS:=Ze (HNS.out.to hbz)
        have HZB:Hid (Below w.heap.size w wz):=HNB.out.trans (hbz.mono HNB.out.size)
        clear hbz hZ y0 y1'
        have fin:∀u v:Value,Own Zm ((wz.setCell ⟨w.heap.size+1,0,none⟩ u).setCell ⟨w.heap.size+1,1,none⟩ v) (w.heap.size+2) 70 As cs sg∧WRow ((wz.setCell ⟨w.heap.size+1,0,none⟩ u).setCell ⟨w.heap.size+1,1,none⟩ v) (w.heap.size+2) 51 68 9 g' c' (ZbJ l k x ps name) _∧
         (∀q,blk As=some q→gB g' _ q→False)∧Below w.heap.size w ((wz.setCell ⟨w.heap.size+1,0,none⟩ u).setCell ⟨w.heap.size+1,1,none⟩ v):=fun u v=>
         ⟨(((HZS.out.past (by show w.heap.size+1<wq.heap.size;omega) u).past (by show w.heap.size+1<wq.heap.size;omega) v).lower hzg),(((HZW.out.past (by show w.heap.size+1<wq.heap.size;omega) u).past (by show w.heap.size+1<wq.heap.size;omega) v).lower hzg),fun q e1 e2=>(HAP8.out q e2).2 e1,(HZB.out.setCell (by show w.heap.size≤w.heap.size+1;omega) u).setCell (by show w.heap.size≤w.heap.size+1;omega) v⟩
        have FIN:=Ze fin;clear fin)
       ·rename_i hA
        refine hA _ _ ?_
        iterate 16 go_step
        try simp only[Exit.inBlock,Exit.then]
        exact bodyPost_ret (v:=.tuple #[.agg #[.slice none 0 0,.slice none 0 0],.bool false]) ((results_cell_tmp rfl _ _ _).trans (by go_simp)) rfl ⟨As,cs,g',c',_,rfl,FIN.out _ _⟩
       ·rename_i hA
        refine hA _ _ ?_
        iterate 16 go_step
        try simp only[Exit.inBlock,Exit.then]
        exact bodyPost_ret (v:=.tuple #[.agg #[.slice As sg.length cs,.slice (some ⟨g',0,none⟩) (l.length+1) c'],.bool true]) ((results_cell_tmp rfl _ _ _).trans (by go_simp)) rfl ⟨As,cs,g',c',_,by rw[HSW.out,if_pos rfl],FIN.out _ _⟩
end Go.Proofs.YtenddofcogldfaaGreatDoor
