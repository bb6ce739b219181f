import Derived.WalkKit
import Derived.WalkSpells
import Derived.WalkLawsBesides
import Derived.Handy
import Derived.Deep.QuietTactic
import Derived.BigQuiet
import Derived.Deep.LoopGhost
import Derived.Deep.RegionHeld3
import Derived.Outline
import Derived.Lib.Hide
import Derived.Deep.Draws
import Derived.Deep.Slices
import Derived.Deep.Fields
import Derived.WalkSmall
import Derived.Laws.MakeOwn
import Derived.Deep.OwnRows
namespace Go.Proofs.YtjjobbamoeaogaaDoor
open Go.RowKit
set_option linter.unusedVariables false
theorem Za2 {p:Prop} (h:p):Hid p:=h
def InI (n:Int):Prop:= -9223372036854775808≤n∧n≤9223372036854775807
structure Sh (α:Type) where
 size:Nat
 rep:World→(Nat→Prop)→List Value→α→Prop
 len:∀{w:World} {D:Nat→Prop} {cs:List Value} {x:α},rep w D cs x→cs.length=size
 keep:∀{w w':World} {D D':Nat→Prop} {cs:List Value} {x:α},rep w D cs x→(∀p:Addr,D p.block→w'.cell? p=w.cell? p)→(∀b,D b→D' b)→rep w' D' cs x
def Zam :Sh Int where
 size:=1
 rep:=fun _ _ cs n=>cs=[.int .i64 n]∧InI n
 len:=fun h=>by rw[h.1];rfl
 keep:=fun h _ _=>h
def Zlz :Sh Bool where
 size:=1
 rep:=fun _ _ cs b=>cs=[.bool b]
 len:=fun h=>by rw[h];rfl
 keep:=fun h _ _=>h
def ZB :Sh (List UInt8) where
 size:=1
 rep:=fun _ _ cs s=>cs=[.string ⟨s.toArray⟩]∧s.length≤9223372036854775807
 len:=fun h=>by rw[h.1];rfl
 keep:=fun h _ _=>h
def RSl {α:Type} (S:Sh α) (w:World) (D:Nat→Prop) (A:Option Addr) (l:List α):Prop:=
 l≠[]→∃b off,A=some ⟨b,off,none⟩∧D b∧∀k x,l[k]?=some x→∃cs,S.rep w D cs x∧∀j v,cs[j]?=some v→w.cell? ⟨b,off+k * S.size+j,none⟩=some v
theorem RSl.keep {α:Type} {S:Sh α} {w w':World} {D D':Nat→Prop} {A:Option Addr} {l:List α} (h:RSl S w D A l)
 (hk:∀p:Addr,D p.block→w'.cell? p=w.cell? p) (hD:∀b,D b→D' b):RSl S w' D' A l:=fun hl=>by
 obtain ⟨b,off,e,hb,hx⟩:=h hl
 refine ⟨b,off,e,hD _ hb,fun k x hkx=> ?_⟩
 obtain ⟨cs,hr,hc⟩:=hx k x hkx
 exact ⟨cs,S.keep hr hk hD,fun j v hj=>(hk ⟨b,off+k * S.size+j,none⟩ hb).trans (hc j v hj)⟩
theorem RSl.below {α:Type} {S:Sh α} {w w':World} {D:Nat→Prop} {B:Nat} {A:Option Addr} {l:List α} (h:RSl S w D A l)
 (hb:Below B w w') (hD:∀b,D b→b<B):RSl S w' D A l:=h.keep (fun p hp=>hb.cell (p:=p) (hD _ hp)) (fun _ h=>h)
theorem RSl.mono {α:Type} {S:Sh α} {w:World} {D D':Nat→Prop} {A:Option Addr} {l:List α} (h:RSl S w D A l)
 (hD:∀b,D b→D' b):RSl S w D' A l:=h.keep (fun _ _=>rfl) hD
theorem RSl.nil {α:Type} {S:Sh α} {w:World} {D:Nat→Prop} {A:Option Addr}:RSl S w D A []:=fun h=>absurd rfl h
def ZdP {α:Type} (S:Sh α):Sh (List α) where
 size:=1
 rep:=fun w D cs l=>∃A c,cs=[.slice A l.length c]∧l.length≤c∧c≤9223372036854775807∧RSl S w D A l
 len:=fun ⟨_,_,h,_⟩=>by rw[h];rfl
 keep:=fun ⟨A,c,h,h1,h2,h3⟩ hk hD=>⟨A,c,h,h1,h2,h3.keep hk hD⟩
def ZS {α β:Type} (S:Sh α) (T:Sh β):Sh (α×β) where
 size:=S.size+T.size
 rep:=fun w D cs x=>∃c1 c2,cs=c1++c2∧S.rep w D c1 x.1∧T.rep w D c2 x.2
 len:=fun ⟨c1,c2,h,h1,h2⟩=>by rw[h,List.length_append,S.len h1,T.len h2]
 keep:=fun ⟨c1,c2,h,h1,h2⟩ hk hD=>⟨c1,c2,h,S.keep h1 hk hD,T.keep h2 hk hD⟩
def Sh.via {α β:Type} (S:Sh β) (f:α→β):Sh α where
 size:=S.size
 rep:=fun w D cs x=>S.rep w D cs (f x)
 len:=fun h=>S.len h
 keep:=fun h hk hD=>S.keep h hk hD
def RA {α:Type} (S:Sh α) (w:World) (A:Option Addr) (l:List α):Prop:=RSl S w (fun b=>b<w.heap.size) A l
theorem RA.of {α:Type} {S:Sh α} {w w':World} {D:Nat→Prop} {A:Option Addr} {l:List α} (h:RSl S w D A l) (hb:Below w.heap.size w w') (hD:∀b,D b→b<w.heap.size):RA S w' A l:=
 h.keep (fun p hp=>hb.cell (p:=p) (hD _ hp)) (fun b hb'=>Nat.lt_of_lt_of_le (hD b hb') hb.size)
theorem RA.to {α:Type} {S:Sh α} {w w':World} {A:Option Addr} {l:List α} (h:RA S w A l) (hb:Below w.heap.size w w'):RA S w' A l:=RA.of h hb fun _ h=>h
theorem RA.nil {α:Type} {S:Sh α} {w:World} {A:Option Addr}:RA S w A []:=RSl.nil
theorem RSl.str_at {w:World} {D:Nat→Prop} {A:Option Addr} {l:List (List UInt8)} {k:Nat} {x:List UInt8} (h:RSl ZB w D A l) (hx:l[k]?=some x):
 ∃b off,A=some ⟨b,off,none⟩∧D b∧w.cell? ⟨b,off+k,none⟩=some (.string ⟨x.toArray⟩)∧x.length≤9223372036854775807:=by
 obtain ⟨b,off,e,hb,hc⟩:=h (by rintro rfl;simp at hx)
 obtain ⟨cs,⟨rfl,hi⟩,hcc⟩:=hc k x hx
 exact ⟨b,off,e,hb,by simpa[ZB] using hcc 0 _ rfl,hi⟩
theorem RA.str_at {w wr:World} {A:Option Addr} {l:List (List UInt8)} {k:Nat} {x:List UInt8} (h:RA ZB w A l) (hb:Below w.heap.size w wr) (hx:l[k]?=some x):
 ∃b off,A=some ⟨b,off,none⟩∧b<wr.heap.size∧wr.cell? ⟨b,off+k,none⟩=some (.string ⟨x.toArray⟩)∧x.length≤9223372036854775807:=RSl.str_at (h.to hb) hx
theorem RSl.cells_at {α:Type} {S:Sh α} {w:World} {D:Nat→Prop} {A:Option Addr} {l:List α} {k:Nat} {x:α} (h:RSl S w D A l) (hx:l[k]?=some x):
 ∃b off cs,A=some ⟨b,off,none⟩∧D b∧S.rep w D cs x∧∀j v,cs[j]?=some v→w.cell? ⟨b,off+k * S.size+j,none⟩=some v:=by
 obtain ⟨b,off,e,hb,hc⟩:=h (by rintro rfl;simp at hx)
 obtain ⟨cs,hr,hcc⟩:=hc k x hx
 exact ⟨b,off,cs,e,hb,hr,hcc⟩
theorem ZV {α:Type} {l:List α} {k:Nat} (h:k<l.length):∃x,l[k]?=some x:=⟨l[k],List.getElem?_eq_getElem h⟩
theorem Zae {α:Type} {l:List α} {k:Nat} {x:α} (h:l[k]?=some x):k<l.length:=(List.getElem?_eq_some_iff.1 h).1
def Nest (g:Nat) (w:World) (b:Nat):Prop:=g<b∧b<w.heap.size
def ZaU {α:Type} (S:Sh α) (w:World) (D:Nat→Prop) (g:Nat) (T:TypeId) (n k:Nat) (l:List α):Prop:=
 ∃f,w.rowIs g T (n * S.size) f∧∀j x,j<k→l[j]?=some x→∃cs,S.rep w D cs x∧∀i v,cs[i]?=some v→f (j * S.size+i)=v
section
variable {α :Type} {S:Sh α} {w w':World} {D D':Nat→Prop} {g:Nat} {T:TypeId} {n k:Nat} {l:List α}
theorem ZaU.start {cells:Array Value} (h:cells.size=n * S.size):ZaU S (w.alloc (.cells cells T)) D w.heap.size T n 0 l:=by
 refine ⟨fun i=>(cells[i]?).getD default, ?_,fun j x hj=>absurd hj (by omega)⟩
 rw[←h]
 exact World.rowIs_alloc w cells T _ (fun i hi=>by simp[Array.getElem?_eq_getElem hi])
theorem ZaU.keep (h:ZaU S w D g T n k l) (hg:w'.heap[g]?=w.heap[g]?) (hk:∀p:Addr,D p.block→w'.cell? p=w.cell? p) (hD:∀b,D b→D' b):ZaU S w' D' g T n k l:=by
 obtain ⟨f,hf,hx⟩:=h
 refine ⟨f,hf.of_block hg,fun j x hj hjx=> ?_⟩
 obtain ⟨cs,hr,hc⟩:=hx j x hj hjx
 exact ⟨cs,S.keep hr hk hD,hc⟩
theorem ZaU.lt (h:ZaU S w D g T n k l):g<w.heap.size:=by obtain ⟨f,hf,_⟩:=h;exact hf.lt
theorem ZaU.to (h:ZaU S w (Nest g w) g T n k l) (hb:Below w.heap.size w w'):ZaU S w' (Nest g w') g T n k l:=
 h.keep (hb.block g h.lt) (fun p hp=>hb.cell (p:=p) hp.2) (fun _ hp=>⟨hp.1,Nat.lt_of_lt_of_le hp.2 hb.size⟩)
theorem ZaU.done (h:ZaU S w D g T l.length l.length l) (hD:∀b,D b→D' b) (hg:D' g):RSl S w D' (some ⟨g,0,none⟩) l:=fun _=>by
 obtain ⟨f,hf,hx⟩:=h
 refine ⟨g,0,rfl,hg,fun k x hk=> ?_⟩
 have hlt:=Zae hk
 obtain ⟨cs,hr,hc⟩:=hx k x hlt hk
 refine ⟨cs,S.keep hr (fun _ _=>rfl) hD,fun j v hj=> ?_⟩
 have hjl:j<S.size:=by rw[←S.len hr];exact Zae hj
 rw[Nat.zero_add]
 have hb:k * S.size+j<l.length * S.size:=by
  have:(k+1) * S.size≤l.length * S.size:=Nat.mul_le_mul_right _ hlt
  rw[Nat.succ_mul] at this
  omega
 rw[hf.cell hb,hc j v hj]
theorem ZaU.room (h:ZaU S w D g T n k l) (hk:k<n) (j:Nat) (hj:j<S.size):(∃v,w.cell? ⟨g,k * S.size+j,none⟩=some v)∧w.frozen? ⟨g,k * S.size+j,none⟩=false:=by
 obtain ⟨f,hf,_⟩:=h
 have:(k+1) * S.size≤n * S.size:=Nat.mul_le_mul_right _ hk
 rw[Nat.succ_mul] at this
 exact ⟨⟨_,hf.cell (by omega)⟩,hf.frozen _⟩
end
def Za3 (w:World) (g:Nat):Nat→List Value→World
 |_,[]=>w
 |o,v::r=>Za3 (w.setCell ⟨g,o,none⟩ v) g (o+1) r
theorem Zgg {g b:Nat} (hb:b≠g):∀(cs:List Value) (w:World) (o:Nat),(Za3 w g o cs).heap[b]?=w.heap[b]?
 |[],_,_=>rfl
 |v::r,w,o=>by rw[Za3,Zgg hb r];exact Below.heap_setCell w _ v b hb
theorem Zgh {g:Nat}:∀(cs:List Value) (w:World) (o:Nat),(Za3 w g o cs).heap.size=w.heap.size
 |[],_,_=>rfl
 |v::r,w,o=>by rw[Za3,Zgh r];simp[World.setCell]
theorem ZeF {g:Nat} {T:TypeId} {m:Nat}:∀(cs:List Value) (w:World) (o:Nat) (f:Nat→Value),w.rowIs g T m f→
 ∃f',(Za3 w g o cs).rowIs g T m f'∧(∀i,i<o→f' i=f i)∧∀i v,cs[i]?=some v→f' (o+i)=v
 |[],_,_,f,h=>⟨f,h,fun _ _=>rfl,fun i v hi=>by simp at hi⟩
 | u::r,w,o,f,h=>by
  obtain ⟨f',h1,h2,h3⟩:=ZeF r (w.setCell ⟨g,o,none⟩ u) (o+1) _ (h.set o u)
  refine ⟨f',h1,fun i hi=>by rw[h2 i (by omega),if_neg (by omega)],fun i v hi=> ?_⟩
  cases i with
  |zero=>simp at hi;subst hi;rw[Nat.add_zero,h2 o (by omega),if_pos rfl]
  |succ i=>have:=h3 i v (by simpa using hi);rwa[show o+(i+1)=o+1+i from by omega]
theorem ZaU.fill {α:Type} {S:Sh α} {w:World} {D:Nat→Prop} {g:Nat} {T:TypeId} {n k:Nat} {l:List α} {x:α} {cs:List Value}
 (h:ZaU S w D g T n k l) (hD:∀b,D b→b≠g) (hx:l[k]?=some x) (hr:S.rep w D cs x):ZaU S (Za3 w g (k * S.size) cs) D g T n (k+1) l:=by
 obtain ⟨f,hf,hel⟩:=h
 obtain ⟨f',h1,h2,h3⟩:=ZeF cs w (k * S.size) f hf
 have hkeep:∀p:Addr,D p.block→(Za3 w g (k * S.size) cs).cell? p=w.cell? p:=fun p hp=>World.cell?_of_block (Zgg (hD _ hp) cs w _)
 refine ⟨f',h1,fun j y hj hjy=> ?_⟩
 by_cases hjk:j<k
 ·obtain ⟨c,hc,he⟩:=hel j y hjk hjy
  refine ⟨c,S.keep hc hkeep (fun _ h=>h),fun i v hi=> ?_⟩
  have hil:i<S.size:=by rw[←S.len hc];exact Zae hi
  have:(j+1) * S.size≤k * S.size:=Nat.mul_le_mul_right _ hjk
  rw[Nat.succ_mul] at this
  rw[h2 _ (by omega)]
  exact he i v hi
 ·have:j=k:=by omega
  subst this
  rw[hx] at hjy
  injection hjy with e
  subst e
  exact ⟨cs,S.keep hr hkeep (fun _ h=>h),h3⟩
theorem ZaU.step {α:Type} {S:Sh α} {w w':World} {g:Nat} {T:TypeId} {n k:Nat} {l:List α} {x:α} (cs:List Value)
 (h:ZaU S w (Nest g w) g T n k l) (hx:l[k]?=some x) (hr:S.rep w (Nest g w) cs x) (hw:w'=Za3 w g (k * S.size) cs):ZaU S w' (Nest g w') g T n (k+1) l:=by
 subst hw
 refine (h.fill (fun b hb=>by have:=hb.1;omega) hx hr).keep rfl (fun _ _=>rfl) (fun b hb=>⟨hb.1,by rw[Zgh];exact hb.2⟩)
def wtL {α:Type} (f:α→Nat) (l:List α):Nat:=l.length+(l.map f).sum
theorem Zdu {W w1:World} (hb:Below W.heap.size W w1):(∀b o,b<W.heap.size→w1.cell? ⟨b,o,none⟩=W.cell? ⟨b,o,none⟩)∧(∀b o,b<W.heap.size→w1.frozen? ⟨b,o,none⟩=W.frozen? ⟨b,o,none⟩):=
 ⟨fun b o h=>hb.cell (p:=⟨b,o,none⟩) h,fun b o h=>hb.frozen (p:=⟨b,o,none⟩) h⟩
structure Agree (D:Nat→Prop) (w w':World):Prop where
 out:∀p:Addr,D p.block→w'.cell? p=w.cell? p
section
variable {D :Nat→Prop} {w w1 w2 W:World}
theorem Agree.refl (D:Nat→Prop) (w:World):Agree D w w:=⟨fun _ _=>rfl⟩
theorem Agree.drew (h:Agree D w w1):Agree D w w1.drew:=⟨h.out⟩
theorem Agree.drewN (h:Agree D w w1) (n:Nat):Agree D w (w1.drewN n):=⟨h.out⟩
theorem Agree.setCell (h:Agree D w w1) {q:Addr} (hq:∀b,D b→b≠q.block) (v:Value):Agree D w (w1.setCell q v):=
 ⟨fun p hp=>(World.cell?_setCell_other w1 q p v (fun e=>hq _ hp (by rw[e]))).trans (h.out p hp)⟩
theorem Agree.alloc (h:Agree D w w1) (hD:∀b,D b→b<w1.heap.size) (o:Obj):Agree D w (w1.alloc o):=
 ⟨fun p hp=>(World.cell?_alloc_lt w1 o p (hD _ hp)).trans (h.out p hp)⟩
theorem Agree.then_ (h:Agree D w W) (hb:Below W.heap.size W w2) (hD:∀b,D b→b<W.heap.size):Agree D w w2:=
 ⟨fun p hp=>(hb.cell (p:=p) (hD _ hp)).trans (h.out p hp)⟩
end
theorem Below.then_ {B:Nat} {a W w2:World} (h:Below B a W) (hb:Below W.heap.size W w2) (hB:B≤W.heap.size):Below B a w2:=h.trans (hb.mono hB)
theorem ZdR {k:IntKind} {a b:Int} (h:a=b):Ending.returned (.int k a)=.returned (.int k b):=by rw[h]
theorem ZW {B:Nat} {a w:World} (h:Below B a w) (n:Nat):Below B a (w.drewN n):=⟨h.os,h.tape,h.output,h.size,h.block⟩
end Go.Proofs.YtjjobbamoeaogaaDoor
