import Derived.Test.YtjjobbamoeaogaaDoorBase3
import Derived.Test.YtjjobbamoeaogaaDoorBase2
namespace Go.Proofs.YtjjobbamoeaogaaDoor
open Go.RowKit
set_option linter.unusedVariables false
structure Touch (D:Nat→Prop) (w w':World):Prop where
 os:w'.os=w.os
 tape:w'.tape=w.tape
 output:w'.output=w.output
 size:w.heap.size≤w'.heap.size
 block:∀b,b<w.heap.size→¬D b→w'.heap[b]?=w.heap[b]?
section
variable {D :Nat→Prop} {a b w w':World}
theorem Touch.refl (D:Nat→Prop) (w:World):Touch D w w:=⟨rfl,rfl,rfl,Nat.le_refl _,fun _ _ _=>rfl⟩
theorem Touch.mono {D':Nat→Prop} (h:Touch D a b) (hD:∀q,D q→D' q):Touch D' a b:=⟨h.os,h.tape,h.output,h.size,fun k hk hn=>h.block k hk fun hd=>hn (hD k hd)⟩
theorem Touch.then_ (h:Touch D a b) (hb:Below b.heap.size b w):Touch D a w:=
 ⟨hb.os.trans h.os,hb.tape.trans h.tape,hb.output.trans h.output,Nat.le_trans h.size hb.size,fun k hk hn=>(hb.block k (Nat.lt_of_lt_of_le hk h.size)).trans (h.block k hk hn)⟩
theorem Touch.put (h:Touch D a b) {p:Addr} (hp:D p.block) (v:Value):Touch D a (b.setCell p v):=
 ⟨h.os,h.tape,h.output,by simpa using h.size,fun k hk hn=>(Below.heap_setCell _ _ _ _ (fun e=>hn (by rw[e];exact hp))).trans (h.block k hk hn)⟩
theorem Touch.below {B:Nat} (h:Touch D a b) (hD:∀k,D k→B≤k) (hB:B≤a.heap.size):Below B a b:=
 ⟨h.os,h.tape,h.output,h.size,fun k hk=>h.block k (by omega) (fun hd=>by have:=hD k hd;omega)⟩
theorem Touch.cell (h:Touch D a b) {k o:Nat} (hk:k<a.heap.size) (hn:¬D k):b.cell? ⟨k,o,none⟩=a.cell? ⟨k,o,none⟩:=World.cell?_of_block (h.block k hk hn)
theorem Touch.frozen (h:Touch D a b) {k o:Nat} (hk:k<a.heap.size) (hn:¬D k):b.frozen? ⟨k,o,none⟩=a.frozen? ⟨k,o,none⟩:=World.frozen?_of_block (h.block k hk hn)
theorem Touch.rsl {α:Type} {S:Sh α} {E:Nat→Prop} {A:Option Addr} {l:List α} (h:Touch D a b) (hr:RSl S a E A l) (hE:∀k,E k→k<a.heap.size∧¬D k):RSl S b E A l:=
 hr.keep (fun p hp=>World.cell?_of_block (h.block p.block (hE _ hp).1 (hE _ hp).2)) (fun _ h=>h)
theorem Touch.own {α:Type} {S:Sh α} {base:Nat} {e:TypeId} {A:Option Addr} {c:Nat} {l:List α} (h:Touch D a b) (ho:Own S a base e A c l) (hE:∀k,blk A=some k→¬D k):Own S b base e A c l:=
 ho.keep fun k hk=>h.block k (ho.lt k hk).2 (hE k hk)
end
structure Seen {α:Type} (S:Sh α) (w:World) (B:Nat) (A:Option Addr) (c:Nat) (l:List α):Prop where
 rsl:RSl S w (fun b=>b<B) A l
 size:B≤w.heap.size
 cap:l.length≤c∧c≤9223372036854775807
section
variable {D :Nat→Prop} {a b w w':World} {α:Type} {S:Sh α} {B:Nat} {A:Option Addr} {c:Nat} {l:List α}
theorem Seen.ra (h:Seen S w B A c l):RA S w A l:=h.rsl.mono fun b hb=>Nat.lt_of_lt_of_le hb h.size
theorem Seen.to (h:Seen S w B A c l) (hb:Below w.heap.size w w'):Seen S w' B A c l:=
 ⟨h.rsl.below hb fun b hb'=>Nat.lt_of_lt_of_le hb' h.size,Nat.le_trans h.size hb.size,h.cap⟩
theorem Touch.seen (h:Touch D a b) (ho:Seen S a B A c l) (hE:∀k,k<B→¬D k):Seen S b B A c l:=
 ⟨h.rsl ho.rsl fun k hk=>⟨Nat.lt_of_lt_of_le hk ho.size,hE k hk⟩,Nat.le_trans ho.size h.size,ho.cap⟩
end
theorem Touch.chain {D:Nat→Prop} {w0 a b c:World} (h:Touch D a b) (k:Touch D b c) (hD:∀q,D q→q<w0.heap.size) (hs:w0.heap.size≤a.heap.size):Touch D a c:=
 ⟨k.os.trans h.os,k.tape.trans h.tape,k.output.trans h.output,Nat.le_trans h.size k.size,fun q hq hn=>(k.block q (Nat.lt_of_lt_of_le hq h.size) hn).trans (h.block q hq hn)⟩
inductive Kin :Value→Value→Prop
 |same (v:Value):Kin v v
 |int (n n':Int):Kin (.int .i64 n) (.int .i64 n')
 |str (s s':ByteArray):Kin (.string s) (.string s')
 |bool (b b':Bool):Kin (.bool b) (.bool b')
theorem Kin.trans {a b c:Value} (h:Kin a b) (k:Kin b c):Kin a c:=by
 cases h with
 |same=>exact k
 |int n n'=>cases k<;>first|exact .int _ _|exact .int _ _
 |str n n'=>cases k<;>exact .str _ _
 |bool n n'=>cases k<;>exact .bool _ _
theorem Kin.slice {A:Option Addr} {n c:Nat} {v:Value} (h:Kin (.slice A n c) v):v=.slice A n c:=by cases h;rfl
structure Marked (D:Nat→Prop) (w w':World):Prop extends Touch D w w' where
 froz:∀b o,D b→w'.frozen? ⟨b,o,none⟩=w.frozen? ⟨b,o,none⟩
 cells:∀b o v,D b→w.cell? ⟨b,o,none⟩=some v→∃v',w'.cell? ⟨b,o,none⟩=some v'∧Kin v v'
section
variable {D :Nat→Prop} {a b w w':World}
theorem Marked.refl (D:Nat→Prop) (w:World):Marked D w w:=⟨Touch.refl D w,fun _ _ _=>rfl,fun _ _ v _ h=>⟨v,h,.same v⟩⟩
theorem Marked.then_ (h:Marked D a b) (hD:∀k,D k→k<b.heap.size) (hb:Below b.heap.size b w):Marked D a w:=
 ⟨h.toTouch.then_ hb,fun k o hk=>(hb.frozen (p:=⟨k,o,none⟩) (hD k hk)).trans (h.froz k o hk),fun k o v hk hc=>by
  obtain ⟨v',h1,h2⟩:=h.cells k o v hk hc
  exact ⟨v',(hb.cell (p:=⟨k,o,none⟩) (hD k hk)).trans h1,h2⟩⟩
theorem Marked.put (h:Marked D a b) {k o:Nat} {v v':Value} (hp:D k) (hc:a.cell? ⟨k,o,none⟩=some v) (hk:Kin v v'):Marked D a (b.setCell ⟨k,o,none⟩ v'):=by
 refine ⟨h.toTouch.put hp v',fun j i hj=> ?_,fun j i u hj hu=> ?_⟩
 ·rw[World.frozen?_setCell];exact h.froz j i hj
 ·by_cases he:j=k∧i=o
  ·obtain ⟨rfl,rfl⟩:=he
   rw[hc] at hu
   injection hu with hu
   subst hu
   obtain ⟨v1,h1,h2⟩:=h.cells j i v hj hc
   exact ⟨v',World.cell?_setCell_same _ _ _ h1,hk⟩
  ·obtain ⟨v1,h1,h2⟩:=h.cells j i u hj hu
   refine ⟨v1, ?_,h2⟩
   rw[World.cell?_setCell_other]
   ·exact h1
   ·intro e
    injection e with e1 e2
    exact he ⟨e1.symm,e2.symm⟩
end
def ZkJ :Nat→Nat→List UInt8→List UInt8
 |0,_,acc=>acc
 |f+1,k,acc=>if k=0 then acc else ZkJ f (k / 10) (UInt8.ofNat (48+k % 10)::acc)
def Zdg (k:Nat):List UInt8:=if k=0 then [109,48] else 109::ZkJ 20 k []
theorem ZnB :∀(f k:Nat) (acc:List UInt8),(ZkJ f k acc).length≤f+acc.length
 |0,_,acc=>by simp[ZkJ]
 | f+1,k,acc=>by
  unfold ZkJ
  split
  ·omega
  ·have:=ZnB f (k / 10) (UInt8.ofNat (48+k % 10)::acc)
   rw[List.length_cons] at this
   omega
theorem Zia (k:Nat):(Zdg k).length≤9223372036854775807:=by
 unfold Zdg
 split
 ·decide
 ·have:=ZnB 20 k []
  simp at this⊢
  omega
def Zdd {α:Type} (S:Sh α) (w:World) (A:Option Addr) (e:TypeId) (c k:Nat) (l:List α):Prop:=
 l=[]∨∃g,A=some ⟨g,0,none⟩∧l.length≤c∧ZaU S w (fun _=>False) g e c k l
section
variable {α β:Type} {S:Sh α} {w w':World} {base:Nat} {e:TypeId} {A:Option Addr} {c k:Nat} {l ml:List α}
theorem Own.mrow (h:Own S w base e A c l) (hl:ml.length=l.length):Zdd S w A e c 0 ml:=by
 obtain ⟨css,hr,hcl,hx⟩:=h
 rcases hr.2 with ⟨hv,hn⟩|⟨g,cap,cur,hv,hb,hh,hn,hm,hcs,htake⟩
 ·left
  exact List.eq_nil_of_length_eq_zero (by omega)
 ·right
  injection hv with hA h2 h3
  subst h3
  refine ⟨g,hA,by omega,fun i=>(cur[i]?).getD default,⟨cur,hh,hcs,fun i hi=> ?_⟩,fun j x hj=>by omega⟩
  simp[Array.getElem?_eq_getElem (show i<cur.size by omega)]
theorem Zdd.room {x:α} (h:Zdd S w A e c k l) (hx:l[k]?=some x):∃g,A=some ⟨g,0,none⟩∧∀j,j<S.size→(∃v,w.cell? ⟨g,k * S.size+j,none⟩=some v)∧w.frozen? ⟨g,k * S.size+j,none⟩=false:=by
 rcases h with rfl|⟨g,hA,hc,hf⟩
 ·simp at hx
 ·exact ⟨g,hA,fun j hj=>hf.room (by have:=Zae hx;omega) j hj⟩
theorem Zdd.lt {g:Nat} (h:Zdd S w (some ⟨g,0,none⟩) e c k l) (hne:l≠[]):g<w.heap.size:=by
 rcases h with rfl|⟨g',hA,hc,hf⟩
 ·exact absurd rfl hne
 ·injection hA with hA;injection hA with hA;subst hA;exact hf.lt
theorem Zdd.keep (h:Zdd S w A e c k l) (hk:∀g,blk A=some g→w'.heap[g]?=w.heap[g]?):Zdd S w' A e c k l:=by
 rcases h with rfl|⟨g,hA,hc,hf⟩
 ·exact .inl rfl
 ·exact .inr ⟨g,hA,hc,hf.keep (hk g (by simp[blk,hA])) (fun _ h=>h.elim) (fun _ h=>h)⟩
theorem Zdd.to (h:Zdd S w A e c k l) (hb:Below w.heap.size w w'):Zdd S w' A e c k l:=by
 rcases h with rfl|⟨g,hA,hc,hf⟩
 ·exact .inl rfl
 ·exact .inr ⟨g,hA,hc,hf.keep (hb.block g hf.lt) (fun _ h=>h.elim) (fun _ h=>h)⟩
theorem Zdd.step {g:Nat} {x:α} (cs:List Value) (h:Zdd S w (some ⟨g,0,none⟩) e c k l) (hx:l[k]?=some x) (hr:S.rep w (fun _=>False) cs x) (hw:w'=Za3 w g (k * S.size) cs):Zdd S w' (some ⟨g,0,none⟩) e c (k+1) l:=by
 subst hw
 rcases h with rfl|⟨g',hA,hc,hf⟩
 ·simp at hx
 ·injection hA with hA;injection hA with hA;subst hA
  exact .inr ⟨g,rfl,hc,hf.fill (fun b hb=>hb.elim) hx hr⟩
theorem Zdd.over {g o:Nat} {v:Value} (h:Zdd S w (some ⟨g,0,none⟩) e c k l) (ho:k * S.size≤o):Zdd S (w.setCell ⟨g,o,none⟩ v) (some ⟨g,0,none⟩) e c k l:=by
 rcases h with rfl|⟨g',hA,hc,f,hf,hel⟩
 ·exact .inl rfl
 ·injection hA with hA;injection hA with hA;subst hA
  obtain ⟨f',h1,h2,h3⟩:=ZeF [v] w o f hf
  refine .inr ⟨g,rfl,hc,f',h1,fun j y hj hjy=> ?_⟩
  obtain ⟨cs,hcs,he⟩:=hel j y hj hjy
  refine ⟨cs,S.keep hcs (fun _ h=>h.elim) (fun _ h=>h),fun i u hi=> ?_⟩
  have hil:i<S.size:=by rw[←S.len hcs];exact Zae hi
  have:(j+1) * S.size≤k * S.size:=Nat.mul_le_mul_right _ hj
  rw[Nat.succ_mul] at this
  rw[h2 _ (by omega)]
  exact he i u hi
theorem Zdd.done (h:Zdd S w A e c l.length l):RSl S w (fun b=>blk A=some b) A l:=by
 rcases h with rfl|⟨g,hA,hc,f,hf,hel⟩
 ·exact RSl.nil
 ·intro _
  refine ⟨g,0,hA,by simp[blk,hA],fun j x hx=> ?_⟩
  obtain ⟨cs,hr,hc2⟩:=hel j x (Zae hx) hx
  refine ⟨cs,S.keep hr (fun _ h=>h.elim) (fun _ h=>h.elim),fun i v hi=> ?_⟩
  have hil:i<S.size:=by rw[←S.len hr];exact Zae hi
  have:(j+1) * S.size≤c * S.size:=Nat.mul_le_mul_right _ (by have:=Zae hx;omega)
  rw[Nat.succ_mul] at this
  rw[Nat.zero_add,hf.cell (by omega),hc2 i v hi]
end
def Zaw {α:Type} (f:Int→α→α) (s:Nat) (k:Int) (l:List α):List α:=l.mapIdx fun i x=>f (k+s * i) x
theorem Zat {α:Type} (f:Int→α→α) (s:Nat) (k:Int) (l:List α):(Zaw f s k l).length=l.length:=by simp[Zaw]
theorem ZcT {α:Type} {f:Int→α→α} {s:Nat} {k:Int} {l:List α} {i:Nat} {x:α} (h:l[i]?=some x):(Zaw f s k l)[i]?=some (f (k+s * i) x):=by simp[Zaw,h]
end Go.Proofs.YtjjobbamoeaogaaDoor
