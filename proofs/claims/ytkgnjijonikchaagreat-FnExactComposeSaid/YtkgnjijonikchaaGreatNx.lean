import Derived.Test.YtkgnjijonikchaaGreatBase3
import Derived.Test.YtkgnjijonikchaaGreatMark
namespace Go.Proofs.YtkgnjijonikchaaGreat
open Go.RowKit
set_option linter.unusedVariables false
set_option linter.unusedSimpArgs false
theorem ZhQ {w:World} {base:Nat} {e:TypeId} {A:Option Addr} {c:Nat} {l:List Int}:Own Zx w base e A c l↔(A=none∧c=0∧l=[])∨
 ∃(g:Nat) (cur:Array Value),A=some ⟨g,0,none⟩∧base≤g∧w.heap[g]?=some (.cells cur e (0,0))∧l.length≤c∧c≤maxLen∧cur.size=c∧∀(i:Nat) (x:Int),l[i]?=some x→cur[i]?=some (.int .i64 x)∧InI x:=by
 constructor
 ·intro h
  obtain ⟨css,⟨hlen,hrow⟩,hcl,hcx⟩:=h
  rcases hrow with ⟨hv,hl⟩|⟨g,cap,cur,hv,hbg,hg,hle,hmax,hsz,htk⟩
  ·left
   injection hv with h1 h2 h3
   exact ⟨h1,h3,List.eq_nil_of_length_eq_zero hl⟩
  ·right
   injection hv with h1 h2 h3
   subst h3
   refine ⟨g,cur,h1,hbg,hg,hle,hmax,by simpa[Zx] using hsz,fun i z hz=> ?_⟩
   have hzl:i<l.length:=(List.getElem?_eq_some_iff.1 hz).1
   obtain ⟨cs,hcs⟩:∃cs,css[i]?=some cs:=⟨css[i]'(by omega),List.getElem?_eq_getElem (by omega)⟩
   obtain ⟨rfl,hI⟩:cs=[.int .i64 z]∧InI z:=hcx i z cs hz hcs
   refine ⟨?_,hI⟩
   have hf:css.flatten[i * 1+0]?=some (.int .i64 z):=Zhp css (fun cs hcs=>by
    obtain ⟨k,hk⟩:=List.getElem?_of_mem hcs
    have hkl:=(List.getElem?_eq_some_iff.1 hk).1
    obtain ⟨y,hy⟩:∃y,l[k]?=some y:=⟨l[k]'(by omega),List.getElem?_eq_getElem (by omega)⟩
    obtain ⟨h1,_⟩:cs=[.int .i64 y]∧InI y:=hcx k y cs hy hk
    rw[h1];rfl) i 0 _ _ hcs rfl
   rw[←htk] at hf
   have hf2:cur.toList[i * 1+0]?=some (.int .i64 z):=by
    rw[List.getElem?_take] at hf
    split at hf
    ·exact hf
    ·cases hf
   simpa using hf2
 ·rintro (⟨rfl,rfl,rfl⟩|⟨g,cur,rfl,hbg,hg,hle,hmax,hsz,hx⟩)
  ·exact Own.nil_
  ·have e2:∀l:List Int,(l.map fun x=>[Value.int .i64 x]).flatten=l.map fun x=>Value.int .i64 x:=fun l=>by
    induction l with
    |nil=>rfl
    |cons a r ih=>simp[ih]
   refine ⟨l.map fun x=>[.int .i64 x],⟨?_,.inr ⟨g,c,cur,rfl,hbg,hg,hle,hmax,by rw[show Zx.size=1 from rfl,hsz];simp, ?_⟩⟩,by simp,fun k x cs hk hcs=> ?_⟩
   ·rw[e2,show Zx.size=1 from rfl];simp
   ·rw[e2,show Zx.size=1 from rfl,Nat.mul_one]
    apply List.ext_getElem?
    intro i
    by_cases hi:i<l.length
    ·rw[List.getElem?_take_of_lt hi,List.getElem?_map,List.getElem?_eq_getElem hi]
     have:=(hx i l[i] (List.getElem?_eq_getElem hi)).1
     simpa using this
    ·rw[List.getElem?_eq_none (by rw[List.length_take];omega),List.getElem?_eq_none (by simp;omega)]
   ·rw[List.getElem?_map,hk] at hcs
    cases hcs
    exact ⟨rfl,(hx k x hk).2⟩
theorem Zrr {w:World} {g i:Nat} {v:Value} {cur:Array Value} {e:TypeId} {fr:Nat×Nat} (h:w.heap[g]?=some (.cells cur e fr)):(w.setCell ⟨g,i,none⟩ v).heap[g]?=some (.cells (cur.setIfInBounds i v) e fr):=by
 simp[World.setCell,Array.getElem?_modify,h]
theorem ZeN {w:World} {g i b:Nat} {v:Value} (h:b≠g):(w.setCell ⟨g,i,none⟩ v).heap[b]?=w.heap[b]?:=Below.heap_setCell w _ v b h
theorem Own.int_put {w:World} {base g c k:Nat} {e:TypeId} {l:List Int} {v:Int} (h:Own Zx w base e (some ⟨g,0,none⟩) c l) (hk:k<l.length) (hv:InI v):Own Zx (w.setCell ⟨g,k,none⟩ (.int .i64 v)) base e (some ⟨g,0,none⟩) c (l.set k v):=by
 rcases ZhQ.1 h with ⟨h1,_⟩|⟨g',cur,h1,hbg,hg,hle,hmax,hsz,hx⟩
 ·cases h1
 ·cases h1
  refine ZhQ.2 (.inr ⟨g,cur.setIfInBounds k (.int .i64 v),rfl,hbg,Zrr hg,by simpa using hle,hmax,by simpa using hsz,fun i x hi=> ?_⟩)
  rw[List.getElem?_set] at hi
  by_cases e:k=i
  ·subst e
   rw[if_pos rfl,if_pos hk] at hi
   cases hi
   exact ⟨by rw[Array.getElem?_setIfInBounds];simp;omega,hv⟩
  ·rw[if_neg e] at hi
   obtain ⟨h2,h3⟩:=hx i x hi
   exact ⟨by rw[Array.getElem?_setIfInBounds,if_neg e];exact h2,h3⟩
theorem Own.int_cell {w:World} {base g c k:Nat} {e:TypeId} {l:List Int} {v:Int} (h:Own Zx w base e (some ⟨g,0,none⟩) c l) (hk:l[k]?=some v):w.cell? ⟨g,k,none⟩=some (.int .i64 v)∧w.frozen? ⟨g,k,none⟩=false∧InI v:=by
 rcases ZhQ.1 h with ⟨h1,_⟩|⟨g',cur,h1,hbg,hg,hle,hmax,hsz,hx⟩
 ·cases h1
 ·cases h1
  obtain ⟨h2,h3⟩:=hx k v hk
  exact ⟨by simp[World.cell?,hg,h2],by simp[World.frozen?,hg],h3⟩
theorem Own.int_form {w:World} {base c:Nat} {A:Option Addr} {e:TypeId} {l:List Int} (h:Own Zx w base e A c l) (hl:l≠[]):∃g,A=some ⟨g,0,none⟩∧base≤g∧g<w.heap.size:=by
 rcases ZhQ.1 h with ⟨_,_,h1⟩|⟨g,cur,rfl,hbg,hg,_⟩
 ·exact absurd h1 hl
 ·exact ⟨g,rfl,hbg,(Array.getElem?_eq_some_iff.1 hg).1⟩
structure NX (w:World) (base g:Nat) (T e:TypeId) (n:Nat) (nx:Nat→List Int) (sl:Nat→Option Addr×Nat):Prop where
 cells:∃cur:Array Value,w.heap[g]?=some (.cells cur T (0,0))∧cur.size=n∧∀i,i<n→cur[i]?=some (.slice (sl i).1 (nx i).length (sl i).2)
 own:∀i,i<n→Own Zx w base e (sl i).1 (sl i).2 (nx i)
 sep:∀i j b,i<n→j<n→i≠j→blk (sl i).1=some b→blk (sl j).1≠some b
 lt:g<base
section
variable {w w' w1:World} {base g n:Nat} {T e:TypeId} {nx:Nat→List Int} {sl:Nat→Option Addr×Nat}
theorem NX.glt (h:NX w base g T e n nx sl):g<w.heap.size:=by
 obtain ⟨cur,h1,_⟩:=h.cells
 exact (Array.getElem?_eq_some_iff.1 h1).1
theorem NX.cell (h:NX w base g T e n nx sl) {i:Nat} (hi:i<n):w.cell? ⟨g,i,none⟩=some (.slice (sl i).1 (nx i).length (sl i).2)∧w.frozen? ⟨g,i,none⟩=false:=by
 obtain ⟨cur,h1,h2,h3⟩:=h.cells
 exact ⟨by simp[World.cell?,h1,h3 i hi],by simp[World.frozen?,h1]⟩
theorem NX.keep (h:NX w base g T e n nx sl) (hb:∀b,b<w.heap.size→b=g∨base≤b→w'.heap[b]?=w.heap[b]?):NX w' base g T e n nx sl:=by
 refine ⟨?_,fun i hi=>(h.own i hi).keep fun k hk=>hb k ((h.own i hi).lt k hk).2 (.inr ((h.own i hi).lt k hk).1),h.sep,h.lt⟩
 obtain ⟨cur,h1,h2⟩:=h.cells
 exact ⟨cur,by rw[hb g h.glt (.inl rfl)];exact h1,h2⟩
theorem NX.keep2 (h:NX w base g T e n nx sl) (hb:∀b,b<w.heap.size→(b=g∨∃i,i<n∧blk (sl i).1=some b)→w'.heap[b]?=w.heap[b]?):NX w' base g T e n nx sl:=by
 refine ⟨?_,fun i hi=>(h.own i hi).keep fun k hk=>hb k ((h.own i hi).lt k hk).2 (.inr ⟨i,hi,hk⟩),h.sep,h.lt⟩
 obtain ⟨cur,h1,h2⟩:=h.cells
 exact ⟨cur,by rw[hb g h.glt (.inl rfl)];exact h1,h2⟩
theorem NX.to (h:NX w base g T e n nx sl) (hb:Below w.heap.size w w'):NX w' base g T e n nx sl:=h.keep fun b hlt _=>hb.block b hlt
theorem NX.put {A':Option Addr} {c' i:Nat} {y:Int} (h:NX w base g T e n nx sl) (hi:i<n) (hb:base≤w.heap.size) (ho:Own Zx w1 base e A' c' (nx i++[y]))
 (hblk:∀k,k<w.heap.size→blk (sl i).1≠some k→w1.heap[k]?=w.heap[k]?) (hlies:∀k,blk A'=some k→blk (sl i).1=some k∨w.heap.size≤k):
 NX (w1.setCell ⟨g,i,none⟩ (.slice A' ((nx i).length+1) c')) base g T e n (fun j=>if j=i then nx i++[y] else nx j) (fun j=>if j=i then (A',c') else sl j):=by
 have hgl:=h.glt
 have hgo:∀j,j<n→∀k,blk (sl j).1=some k→base≤k∧k<w.heap.size:=fun j hj k hk=>(h.own j hj).lt k hk
 obtain ⟨cur,h1,h2,h3⟩:=h.cells
 have hg1:w1.heap[g]?=some (.cells cur T (0,0)):=by
  rw[hblk g hgl (fun e=>by have:=(hgo i hi g e).1;have:=h.lt;omega)];exact h1
 refine ⟨⟨cur.setIfInBounds i (.slice A' ((nx i).length+1) c'),Zrr hg1,by simpa using h2,fun j hj=> ?_⟩,fun j hj=> ?_,fun j k b hj hk hne hjb=> ?_,h.lt⟩
 ·by_cases e:j=i
  ·subst e
   rw[Array.getElem?_setIfInBounds]
   simp;omega
  ·rw[Array.getElem?_setIfInBounds,if_neg (Ne.symm e)]
   simp only[if_neg e]
   exact h3 j hj
 ·by_cases e:j=i
  ·subst e
   simp only[if_pos]
   exact ho.keep fun k hk=>ZeN (fun e=>by have:=(ho.lt k hk).1;have:=h.lt;omega)
  ·simp only[if_neg e]
   refine (h.own j hj).keep fun k hk=> ?_
   have hk2:=hgo j hj k hk
   rw[ZeN (fun e=>by have:=h.lt;omega)]
   exact hblk k hk2.2 (fun e'=>h.sep j i k hj hi e hk e')
 ·by_cases ej:j=i
  ·subst ej
   simp only[if_pos] at hjb
   simp only[if_neg (Ne.symm hne)]
   intro hkb
   have:=hgo k hk b hkb
   rcases hlies b hjb with h4|h4
   ·exact h.sep j k b hj hk hne h4 hkb
   ·omega
  ·simp only[if_neg ej] at hjb
   by_cases ek:k=i
   ·subst ek
    simp only[if_pos]
    intro hkb
    have:=hgo j hj b hjb
    rcases hlies b hkb with h4|h4
    ·exact h.sep j k b hj hk hne hjb h4
    ·omega
   ·simp only[if_neg ek]
    exact h.sep j k b hj hk hne hjb
end
end Go.Proofs.YtkgnjijonikchaaGreat
