import Derived.Test.YtkgnjijonikchaaGreatBase
import Derived.Test.YtkgnjijonikchaaGreatMap
namespace Go.Proofs.YtkgnjijonikchaaGreat
open Go.RowKit
set_option linter.unusedVariables false
def Own {α:Type} (S:Sh α) (w:World) (base:Nat) (e:TypeId) (A:Option Addr) (c:Nat) (l:List α):Prop:=
 ∃css:List (List Value),w.ownsRow base e S.size (.slice A l.length c) l.length css.flatten∧css.length=l.length∧∀(k:Nat) (x:α) (cs:List Value),l[k]?=some x→css[k]?=some cs→S.rep w (fun _=>False) cs x
def blk (A:Option Addr):Option Nat:=A.map (·.block)
theorem Zhp {s:Nat}:∀(css:List (List Value)),(∀cs∈css,cs.length=s)→∀(k j:Nat) (cs:List Value) (v:Value),css[k]?=some cs→cs[j]?=some v→css.flatten[k * s+j]?=some v
 |[],_,k,j,cs,v,h,_=>by simp at h
 | c::r,hl,0,j,cs,v,h,hv=>by
  simp at h
  subst h
  rw[List.flatten_cons,Nat.zero_mul,Nat.zero_add,List.getElem?_append_left (ZaL hv)]
  exact hv
 | c::r,hl,k+1,j,cs,v,h,hv=>by
  have hc:c.length=s:=hl c (by simp)
  rw[List.flatten_cons,List.getElem?_append_right (by rw[hc,Nat.succ_mul];omega),hc,show (k+1) * s+j - s=k * s+j from by rw[Nat.succ_mul];omega]
  exact Zhp r (fun cs hcs=>hl cs (by simp[hcs])) k j cs v (by simpa using h) hv
section
variable {α :Type} {S:Sh α} {w w':World} {base:Nat} {e:TypeId} {A:Option Addr} {c:Nat} {l:List α}
theorem Own.nil_ :Own S w base e none 0 []:=⟨[],World.ownsRow_nil w base e S.size,rfl,fun k x cs h=>by simp at h⟩
theorem Own.made (hb:base≤w.heap.size):Own S (w.alloc (.cells #[] e)) base e (some ⟨w.heap.size,0,none⟩) 0 []:=
 ⟨[],World.ownsRow_made w #[] 0 hb (by simp) (by simp),rfl,fun k x cs h=>by simp at h⟩
theorem Own.single {y:α} {cs:List Value} (hb:base≤w.heap.size) (hr:S.rep w (fun _=>False) cs y) (hpos:0<S.size):Own S (w.alloc (.cells cs.toArray e)) base e (some ⟨w.heap.size,0,none⟩) 1 [y]:=
 ⟨[cs],⟨by simp[S.len hr],.inr ⟨w.heap.size,1,cs.toArray,rfl,hb,heap_alloc_new w _,Nat.le_refl _,by simp[maxLen],by simp[S.len hr],by simp[←S.len hr]⟩⟩,rfl,fun k x cs' hk hk'=>by
  cases k with
  |zero=>simp at hk hk';subst hk hk';exact S.keep hr (fun _ h=>h.elim) (fun _ h=>h)
  |succ k=>simp at hk⟩
theorem Own.lower {B:Nat} (h:Own S w base e A c l) (hB:B≤base):Own S w B e A c l:=by
 obtain ⟨css,hr,hrest⟩:=h
 refine ⟨css,⟨hr.1, ?_⟩,hrest⟩
 rcases hr.2 with h0|⟨g,cap,cur,hv,hb,rest⟩
 ·exact .inl h0
 ·exact .inr ⟨g,cap,cur,hv,Nat.le_trans hB hb,rest⟩
theorem Own.lt (h:Own S w base e A c l):∀k,blk A=some k→base≤k∧k<w.heap.size:=fun k hk=>by
 obtain ⟨css,hr,_⟩:=h
 refine hr.lt k ?_
 cases A with
 |none=>cases hk
 |some a=>simpa[Value.ownBlock,blk] using hk
theorem Own.keep (h:Own S w base e A c l) (hk:∀k,blk A=some k→w'.heap[k]?=w.heap[k]?):Own S w' base e A c l:=by
 obtain ⟨css,hr,hl,hx⟩:=h
 refine ⟨css,⟨hr.1, ?_⟩,hl,fun k x cs h1 h2=>S.keep (hx k x cs h1 h2) (fun _ h=>h.elim) (fun _ h=>h)⟩
 rcases hr.2 with h0|⟨g,cap,cur,hv,hb,hh,rest⟩
 ·exact .inl h0
 ·refine .inr ⟨g,cap,cur,hv,hb, ?_,rest⟩
  rw[hk g (by injection hv with hA;simp[blk,hA])]
  exact hh
theorem Own.to (h:Own S w base e A c l) (hb:Below w.heap.size w w'):Own S w' base e A c l:=h.keep fun k hk=>hb.block k (h.lt k hk).2
theorem Own.cap (h:Own S w base e A c l):l.length≤c∧c≤9223372036854775807:=by
 obtain ⟨css,hr,_⟩:=h
 rcases hr.2 with ⟨hv,hn⟩|⟨g,cap,cur,hv,hb,hh,hn,hm,_⟩
 ·injection hv with _ h2 h3;omega
 ·injection hv with _ h2 h3
  subst h3
  simp only[maxLen] at hm
  omega
theorem Own.rsl (h:Own S w base e A c l):RSl S w (fun b=>base≤b∧b<w.heap.size) A l:=fun hne=>by
 have hlt:=h.lt
 obtain ⟨css,hr,hl,hx⟩:=h
 have hpos:0<l.length:=List.length_pos_iff.2 hne
 have hsz:∀cs∈css,cs.length=S.size:=fun cs hcs=>by
  obtain ⟨i,hi,rfl⟩:=List.getElem_of_mem hcs
  obtain ⟨x,hxi⟩:=Zq (l:=l) (k:=i) (by omega)
  exact S.len (hx i x _ hxi (List.getElem?_eq_getElem hi))
 rcases hr.2 with ⟨hv,hn⟩|⟨g,cap,cur,hv,hb,hh,hn,hm,hcs,htake⟩
 ·omega
 ·injection hv with hA h2 h3
  subst hA
  refine ⟨g,0,rfl,hlt g rfl,fun k x hk=> ?_⟩
  obtain ⟨cs,hcsk⟩:=Zq (l:=css) (k:=k) (by have:=ZaL hk;omega)
  refine ⟨cs,S.keep (hx k x cs hk hcsk) (fun _ h=>h.elim) (fun _ h=>h.elim),fun j v hj=> ?_⟩
  have:=Zhp css hsz k j cs v hcsk hj
  have hc:=hr.cells (g:=g) (by simp[Value.ownBlock]) (k * S.size+j) v this
  rw[Nat.zero_add]
  rw[←hc]
  generalize k * S.size+j=q
  by_cases h0:q=0
  ·rw[h0];rfl
  ·simp[Addr.add,h0]
theorem Own.ra (h:Own S w base e A c l):RA S w A l:=h.rsl.mono fun _ hb=>hb.2
theorem Own.ne_map {κ:Type} {val:κ→Value} {b:Nat} {kv:List (κ×Value)} (h:Own S w base e A c l) (hm:ZcC val w b kv):blk A≠some b:=fun hb=>by
 obtain ⟨css,hr,_⟩:=h
 obtain ⟨es,clock,hh,_⟩:=hm
 rcases hr.2 with ⟨hv,hn⟩|⟨g,cap,cur,hv,_,hg,_⟩
 ·injection hv with hA;subst hA;cases hb
 ·injection hv with hA
  subst hA
  simp[blk] at hb
  subst hb
  rw[hg] at hh
  cases hh
theorem Own.ne_own {β:Type} {T:Sh β} {base':Nat} {e':TypeId} {A':Option Addr} {c':Nat} {l':List β} (h:Own S w base e A c l) (h':Own T w base' e' A' c' l') (hne:e≠e') {k:Nat} (hk:blk A=some k):blk A'≠some k:=fun hk'=>by
 obtain ⟨css,hr,_⟩:=h
 obtain ⟨css',hr',_⟩:=h'
 rcases hr.2 with ⟨hv,hn⟩|⟨g,cap,cur,hv,_,hg,_⟩
 ·injection hv with hA;subst hA;cases hk
 rcases hr'.2 with ⟨hv',hn'⟩|⟨g',cap',cur',hv',_,hg',_⟩
 ·injection hv' with hA;subst hA;cases hk'
 injection hv with hA
 injection hv' with hA'
 subst hA hA'
 simp[blk] at hk hk'
 subst hk hk'
 rw[hg] at hg'
 injection hg' with hg'
 injection hg' with _ h2
 exact hne h2
end
structure Pushed (w w':World) (A:Option Addr):Prop where
 os:w'.os=w.os
 tape:w'.tape=w.tape
 output:w'.output=w.output
 size:w.heap.size<w'.heap.size
 block:∀k,k<w.heap.size→blk A≠some k→w'.heap[k]?=w.heap[k]?
theorem Pushed.below {α:Type} {S:Sh α} {w w' a:World} {B base:Nat} {e:TypeId} {A:Option Addr} {c:Nat} {l:List α} (h:Pushed w w' A) (hown:Own S w base e A c l) (hb:Below B a w) (hB:B≤base) (hB2:B≤w.heap.size):Below B a w':=
 ⟨h.os.trans hb.os,h.tape.trans hb.tape,h.output.trans hb.output,Nat.le_trans hb.size (Nat.le_of_lt h.size),fun k hk=>(h.block k (by omega) (fun e=>by have:=(hown.lt k e).1;omega)).trans (hb.block k hk)⟩
theorem Pushed.map {κ:Type} {val:κ→Value} {α:Type} {S:Sh α} {w w':World} {base b:Nat} {e:TypeId} {A:Option Addr} {c:Nat} {l:List α} {kv:List (κ×Value)} (h:Pushed w w' A) (hown:Own S w base e A c l) (hm:ZcC val w b kv):ZcC val w' b kv:=
 hm.keep (h.block b hm.lt (hown.ne_map hm))
theorem Pushed.other {α β:Type} {S:Sh α} {T:Sh β} {w w':World} {base base':Nat} {e e':TypeId} {A A':Option Addr} {c c':Nat} {l:List α} {l':List β} (h:Pushed w w' A) (hown:Own S w base e A c l) (ho:Own T w base' e' A' c' l') (hne:e≠e'):Own T w' base' e' A' c' l':=
 ho.keep fun k hk=>h.block k (ho.lt k hk).2 (fun hA=>hown.ne_own ho hne hA hk)
theorem Pushed.cell {w w':World} {A:Option Addr} (h:Pushed w w' A) {b o:Nat} (hb:b<w.heap.size) (hne:blk A≠some b):w'.cell? ⟨b,o,none⟩=w.cell? ⟨b,o,none⟩:=World.cell?_of_block (h.block b hb hne)
theorem Pushed.frozen {w w':World} {A:Option Addr} (h:Pushed w w' A) {b o:Nat} (hb:b<w.heap.size) (hne:blk A≠some b):w'.frozen? ⟨b,o,none⟩=w.frozen? ⟨b,o,none⟩:=World.frozen?_of_block (h.block b hb hne)
theorem Own.turned {κ:Type} {val:κ→Value} {α:Type} {S:Sh α} {w w':World} {base b:Nat} {e:TypeId} {A:Option Addr} {c:Nat} {l:List α} {kv:List (κ×Value)} (h:Own S w base e A c l) (hm:ZcC val w b kv) (ht:Zb1 w w' b):Own S w' base e A c l:=
 h.keep fun k hk=>ht.2.2.2.2 k (fun e=>h.ne_map hm (by rw[hk,e]))
theorem ZtJ (n:Int):∀u∈[Value.int .i64 n],u.oneCell'=true:=by simp[Value.oneCell']
theorem Zqz {α:Type} {S:Sh α} {P:Program} {w:World} {ops:Array Oper} {rest:List Oper} {o:Oper} {a:Act} {Q:Exit→Act→World→Prop} {base:Nat} {e t:TypeId} {size bytes:Nat} {A:Option Addr} {c:Nat} {l:List α}
 (hgd:o.guard=none) (s x:Operand) (ho:o.op=.call {callee:=.builtin .append,args:= #[s,x],argTypes:= #[t,t]}) (ht:P.underlying t=some (.slice e))
 (hinfo:(P.info? e).map (fun i=>(i.zero.map (fun z=>z.cells.size),i.size,i.bytes))=some (some size,size,bytes)) (hsize:S.size=size) (hpos:0<size) (hby:bytes≤4096)
 (hs:a.eval s=.slice A l.length c) (hown:Own S w base e A c l) (hbase:base≤w.heap.size) (hlen:l.length≤4000000)
 (y:α) (cs:List Value) (hrep:S.rep w (fun _=>False) cs y) (h1:∀u∈cs,u.oneCell'=true) (hx:a.eval x=.slice (some ⟨w.heap.size,0,none⟩) 1 1)
 (h:∀A' c' w',Own S w' base e A' c' (l++[y])→Pushed w w' A→wpList P ops Q rest (a.put o.dst (.slice A' (l.length+1) c')) w'):
 wpList P ops Q (o::rest) a (w.alloc (.cells cs.toArray e)):=by
 obtain ⟨i,hi,h0⟩:=Option.map_eq_some_iff.1 hinfo
 simp only[Prod.mk.injEq] at h0
 obtain ⟨hz,hs1,hb1⟩:=h0
 obtain ⟨z,hz0,hz1⟩:=Option.map_eq_some_iff.1 hz
 obtain ⟨css,hr,hcl,hcx⟩:=hown
 have hcsl:cs.length=S.size:=S.len hrep
 have hr':=hr.alloc (.cells cs.toArray e)
 refine wpList_append_own _ hgd s x t ho base e i z S.size bytes ht hi hz0 (by rw[hs1,hsize]) hb1 (by rw[hz1,hsize]) (by omega) (.slice A l.length c) l.length css.flatten hs hr' ⟨w.heap.size,0,none⟩ 1 1 cs hx (by rw[hcsl];omega) ?_ h1 ?_ ?_ (by rw[World.size_alloc];omega) ?_
 ·intro j u hj
  have:(⟨w.heap.size,0,none⟩:Addr).add j=⟨w.heap.size,j,none⟩:=by
   by_cases h0:j=0
   ·subst h0;rfl
   ·simp[Addr.add,h0]
  rw[this,World.cell?_alloc_at _ _ _ _ rfl]
  simpa using hj
 ·simp only[maxLen];omega
 ·have:(l.length+1) * bytes≤4000001 * 4096:=Nat.mul_le_mul (by omega) hby
  omega
 ·intro v' w' hrow hg hnil
  have hform:∃A' c',v'=.slice A' (l.length+1) c':=by
   rcases hrow.2 with ⟨_,hn⟩|⟨g,cap,cur,hv,_⟩
   ·omega
   ·exact ⟨_,_,hv⟩
  obtain ⟨A',c',rfl⟩:=hform
  refine h A' c' w' ⟨css++[cs], ?_,by simp[hcl],fun k y' cs' hk hk'=> ?_⟩ ⟨hg.os,hg.tape,hg.output, ?_,fun k hk hne=> ?_⟩
  ·rw[List.flatten_append,List.length_append]
   simpa using hrow
  ·by_cases hkl:k<l.length
   ·rw[List.getElem?_append_left hkl] at hk
    rw[List.getElem?_append_left (by omega)] at hk'
    exact S.keep (hcx k y' cs' hk hk') (fun _ h=>h.elim) (fun _ h=>h)
   ·rw[List.getElem?_append_right (by omega)] at hk
    rw[List.getElem?_append_right (by omega),hcl] at hk'
    have hk0:k - l.length=0:=by
     rcases Nat.eq_zero_or_pos (k - l.length) with h0|h0
     ·exact h0
     ·rw[List.getElem?_eq_none (by simp;omega)] at hk;cases hk
    rw[hk0] at hk hk'
    simp at hk hk'
    subst hk hk'
    exact S.keep hrep (fun _ h=>h.elim) (fun _ h=>h)
  ·have:=hg.size
   rw[World.size_alloc] at this
   omega
  ·have:=hg.block k (by rw[World.size_alloc];omega) (fun e=>hne (by
    cases A with
    |none=>cases e
    |some ad=>simpa[blk,Value.ownBlock] using e.symm))
   rw[this]
   exact Below.heap_alloc w _ k hk
end Go.Proofs.YtkgnjijonikchaaGreat
