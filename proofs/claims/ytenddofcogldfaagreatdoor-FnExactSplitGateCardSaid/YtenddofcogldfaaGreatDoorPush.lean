import Derived.Test.YtenddofcogldfaaGreatDoorBase3
import Derived.Deep.AppendLies
import Derived.Deep.RegionLaw
namespace Go.Proofs.YtenddofcogldfaaGreatDoor
open Go.RowKit
set_option linter.unusedVariables false
theorem ZsW {w:World} {g:Nat} {L:List Value} {e:TypeId} {j:Nat} {x:Value} (h:w.heap[g]?=some (.cells L.toArray e (0,0))) (hx:L[j]?=some x):w.cell? ((⟨g,0,none⟩:Addr).add j)=some x:=by
 have hj:=(List.getElem?_eq_some_iff.1 hx).1
 have:(⟨g,0,none⟩:Addr).add j=⟨g,j,none⟩:=by
  by_cases h0:j=0
  ·subst h0;rfl
  ·simp[Addr.add,h0]
 rw[this]
 simp[World.cell?,h,hx]
structure Push2 (w w':World) (A A':Option Addr):Prop where
 os:w'.os=w.os
 tape:w'.tape=w.tape
 output:w'.output=w.output
 size:w.heap.size≤w'.heap.size
 block:∀k,k<w.heap.size→blk A≠some k→w'.heap[k]?=w.heap[k]?
 lies:∀k,blk A'=some k→blk A=some k∨w.heap.size≤k
theorem Zlq {α:Type} {S:Sh α} {P:Program} {w:World} {ops:Array Oper} {o:Oper} {a:Act} {K:Act→World→Prop} {Q:Exit→Act→World→Prop} {E:Prop} {base:Nat} {e t:TypeId} {size bytes:Nat} {A:Option Addr} {c:Nat} {l:List α}
 (hgd:o.guard=none) (s x:Operand) (ho:o.op=.call {callee:=.builtin .append,args:= #[s,x],argTypes:= #[t,t]}) (ht:P.underlying t=some (.slice e))
 (hinfo:(P.info? e).map (fun i=>(i.zero.map (fun z=>z.cells.size),i.size,i.bytes))=some (some size,size,bytes)) (hsize:S.size=size) (hpos:0<size) (hby:bytes≤4096)
 (hs:a.eval s=.slice A l.length c) (hown:Own S w base e A c l) (hbase:base≤w.heap.size) (hlen:l.length≤4000000)
 (y:α) (cs:List Value) (hrep:S.rep w (fun _=>False) cs y) (h1:∀u∈cs,u.oneCell'=true) (B:Nat) (hx:a.eval x=.slice (some ⟨B,0,none⟩) 1 1) (hB:w.heap[B]?=some (.cells cs.toArray e (0,0)))
 (h:∀A' c' w',Own S w' base e A' c' (l++[y])→Push2 w w' A A'→K (a.put o.dst (.slice A' (l.length+1) c')) w'):
 if Region.wanted o (yielded ops a.tmps)=true then Oper.wp P o a w K Q else E:=by
 obtain ⟨i,hi,h0⟩:=Option.map_eq_some_iff.1 hinfo
 simp only[Prod.mk.injEq] at h0
 obtain ⟨hz,hs1,hb1⟩:=h0
 obtain ⟨z,hz0,hz1⟩:=Option.map_eq_some_iff.1 hz
 obtain ⟨css,hr,hcl,hcx⟩:=hown
 have hcsl:cs.length=S.size:=S.len hrep
 refine step_append_lies w hgd s x t ho base e i z S.size bytes ht hi hz0 (by rw[hs1,hsize]) hb1 (by rw[hz1,hsize]) (by omega) (.slice A l.length c) l.length css.flatten hs hr ⟨B,0,none⟩ 1 1 cs hx (by rw[hcsl];omega) (fun j u hj=>ZsW hB hj) h1 (by omega) (by simp only[maxLen];omega) ?_ hbase w.heap.size rfl ?_
 ·have:(l.length+1) * bytes≤4000001 * 4096:=Nat.mul_le_mul (by omega) hby
  omega
 ·intro g cap w' hrow hg hat hlt
  refine h (some ⟨g,0,none⟩) cap w' ⟨css++[cs], ?_,by simp[hcl],fun k y' cs' hk hk'=> ?_⟩ ⟨hg.os,hg.tape,hg.output,hg.size,fun k hk hne=> ?_,fun k hk=> ?_⟩
  ·rw[List.flatten_append,List.length_append]
   simpa using hrow
  ·by_cases hkl:k<l.length
   ·rw[List.getElem?_append_left hkl] at hk
    rw[List.getElem?_append_left (by omega)] at hk'
    exact S.keep (hcx k y' cs' hk hk') (fun _ h=>h.elim) (fun _ h=>h)
   ·rw[List.getElem?_append_right (by omega)] at hk
    rw[List.getElem?_append_right (by omega),hcl] at hk'
    have hk0:k - l.length=0:=by
     rcases Nat.eq_zero_or_pos (k - l.length) with h0|h0
     ·exact h0
     ·rw[List.getElem?_eq_none (by simp;omega)] at hk;cases hk
    rw[hk0] at hk hk'
    simp at hk hk'
    subst hk hk'
    exact S.keep hrep (fun _ h=>h.elim) (fun _ h=>h)
  ·exact hg.block k hk (fun e=>hne (by
    cases A with
    |none=>cases e
    |some ad=>simpa[blk,Value.ownBlock] using e.symm))
  ·simp[blk] at hk
   subst hk
   rcases hat with h2|h2
   ·left
    cases A with
    |none=>cases h2
    |some ad=>simpa[blk,Value.ownBlock] using h2
   ·right;omega
theorem alloc_at {w:World} {o:Obj} {g:Nat} (h:g=w.heap.size):(w.alloc o).heap[g]?=some o:=by subst h;exact heap_alloc_new w o
theorem Zhm {α:Type} {S:Sh α} {P:Program} {w:World} {ops:Array Oper} {rest:List Oper} {o:Oper} {a:Act} {Q:Exit→Act→World→Prop} {base:Nat} {e t:TypeId} {size bytes:Nat} {A:Option Addr} {c:Nat} {l:List α}
 (hgd:o.guard=none) (s x:Operand) (ho:o.op=.call {callee:=.builtin .append,args:= #[s,x],argTypes:= #[t,t]}) (ht:P.underlying t=some (.slice e))
 (hinfo:(P.info? e).map (fun i=>(i.zero.map (fun z=>z.cells.size),i.size,i.bytes))=some (some size,size,bytes)) (hsize:S.size=size) (hpos:0<size) (hby:bytes≤4096)
 (hs:a.eval s=.slice A l.length c) (hown:Own S w base e A c l) (hbase:base≤w.heap.size) (hlen:l.length≤4000000)
 (y:α) (cs:List Value) (hrep:S.rep w (fun _=>False) cs y) (h1:∀u∈cs,u.oneCell'=true) (B:Nat) (hx:a.eval x=.slice (some ⟨B,0,none⟩) 1 1) (hB:w.heap[B]?=some (.cells cs.toArray e (0,0)))
 (h:∀A' c' w',Own S w' base e A' c' (l++[y])→Push2 w w' A A'→wpList P ops Q rest (a.put o.dst (.slice A' (l.length+1) c')) w'):wpList P ops Q (o::rest) a w:=
 wpList_plain hgd fun K hK=>by
  have:=Zlq (P:=P) (ops:=ops) (K:=K) (Q:=Q) (E:=True) hgd s x ho ht hinfo hsize hpos hby hs hown hbase hlen y cs hrep h1 B hx hB (fun A' c' w' h1 h2=>hK _ _ (h A' c' w' h1 h2))
  have hw:Region.wanted o (yielded ops a.tmps)=true:=by simp[Region.wanted,hgd]
  rw[if_pos hw] at this
  exact this
end Go.Proofs.YtenddofcogldfaaGreatDoor
