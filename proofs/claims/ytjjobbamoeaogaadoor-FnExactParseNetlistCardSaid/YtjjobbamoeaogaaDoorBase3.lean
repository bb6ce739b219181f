import Derived.Test.YtjjobbamoeaogaaDoorBase
import Derived.Test.YtjjobbamoeaogaaDoorMap
namespace Go.Proofs.YtjjobbamoeaogaaDoor
open Go.RowKit
set_option linter.unusedVariables false
def Own {α:Type} (S:Sh α) (w:World) (base:Nat) (e:TypeId) (A:Option Addr) (c:Nat) (l:List α):Prop:=
 ∃css:List (List Value),w.ownsRow base e S.size (.slice A l.length c) l.length css.flatten∧css.length=l.length∧∀(k:Nat) (x:α) (cs:List Value),l[k]?=some x→css[k]?=some cs→S.rep w (fun _=>False) cs x
def blk (A:Option Addr):Option Nat:=A.map (·.block)
theorem ZnA {s:Nat}:∀(css:List (List Value)),(∀cs∈css,cs.length=s)→∀(k j:Nat) (cs:List Value) (v:Value),css[k]?=some cs→cs[j]?=some v→css.flatten[k * s+j]?=some v
 |[],_,k,j,cs,v,h,_=>by simp at h
 | c::r,hl,0,j,cs,v,h,hv=>by
  simp at h
  subst h
  rw[List.flatten_cons,Nat.zero_mul,Nat.zero_add,List.getElem?_append_left (Zae hv)]
  exact hv
 | c::r,hl,k+1,j,cs,v,h,hv=>by
  have hc:c.length=s:=hl c (by simp)
  rw[List.flatten_cons,List.getElem?_append_right (by rw[hc,Nat.succ_mul];omega),hc,show (k+1) * s+j - s=k * s+j from by rw[Nat.succ_mul];omega]
  exact ZnA r (fun cs hcs=>hl cs (by simp[hcs])) k j cs v (by simpa using h) hv
section
variable {α :Type} {S:Sh α} {w w':World} {base:Nat} {e:TypeId} {A:Option Addr} {c:Nat} {l:List α}
theorem Own.nil_ :Own S w base e none 0 []:=⟨[],World.ownsRow_nil w base e S.size,rfl,fun k x cs h=>by simp at h⟩
theorem Own.made (hb:base≤w.heap.size):Own S (w.alloc (.cells #[] e)) base e (some ⟨w.heap.size,0,none⟩) 0 []:=
 ⟨[],World.ownsRow_made w #[] 0 hb (by simp) (by simp),rfl,fun k x cs h=>by simp at h⟩
theorem Own.single {y:α} {cs:List Value} (hb:base≤w.heap.size) (hr:S.rep w (fun _=>False) cs y) (hpos:0<S.size):Own S (w.alloc (.cells cs.toArray e)) base e (some ⟨w.heap.size,0,none⟩) 1 [y]:=
 ⟨[cs],⟨by simp[S.len hr],.inr ⟨w.heap.size,1,cs.toArray,rfl,hb,heap_alloc_new w _,Nat.le_refl _,by simp[maxLen],by simp[S.len hr],by simp[←S.len hr]⟩⟩,rfl,fun k x cs' hk hk'=>by
  cases k with
  |zero=>simp at hk hk';subst hk hk';exact S.keep hr (fun _ h=>h.elim) (fun _ h=>h)
  |succ k=>simp at hk⟩
theorem Own.lower {B:Nat} (h:Own S w base e A c l) (hB:B≤base):Own S w B e A c l:=by
 obtain ⟨css,hr,hrest⟩:=h
 refine ⟨css,⟨hr.1, ?_⟩,hrest⟩
 rcases hr.2 with h0|⟨g,cap,cur,hv,hb,rest⟩
 ·exact .inl h0
 ·exact .inr ⟨g,cap,cur,hv,Nat.le_trans hB hb,rest⟩
theorem Own.lt (h:Own S w base e A c l):∀k,blk A=some k→base≤k∧k<w.heap.size:=fun k hk=>by
 obtain ⟨css,hr,_⟩:=h
 refine hr.lt k ?_
 cases A with
 |none=>cases hk
 |some a=>simpa[Value.ownBlock,blk] using hk
theorem Own.keep (h:Own S w base e A c l) (hk:∀k,blk A=some k→w'.heap[k]?=w.heap[k]?):Own S w' base e A c l:=by
 obtain ⟨css,hr,hl,hx⟩:=h
 refine ⟨css,⟨hr.1, ?_⟩,hl,fun k x cs h1 h2=>S.keep (hx k x cs h1 h2) (fun _ h=>h.elim) (fun _ h=>h)⟩
 rcases hr.2 with h0|⟨g,cap,cur,hv,hb,hh,rest⟩
 ·exact .inl h0
 ·refine .inr ⟨g,cap,cur,hv,hb, ?_,rest⟩
  rw[hk g (by injection hv with hA;simp[blk,hA])]
  exact hh
theorem Own.to (h:Own S w base e A c l) (hb:Below w.heap.size w w'):Own S w' base e A c l:=h.keep fun k hk=>hb.block k (h.lt k hk).2
theorem Own.cap (h:Own S w base e A c l):l.length≤c∧c≤9223372036854775807:=by
 obtain ⟨css,hr,_⟩:=h
 rcases hr.2 with ⟨hv,hn⟩|⟨g,cap,cur,hv,hb,hh,hn,hm,_⟩
 ·injection hv with _ h2 h3;omega
 ·injection hv with _ h2 h3
  subst h3
  simp only[maxLen] at hm
  omega
theorem Own.rsl (h:Own S w base e A c l):RSl S w (fun b=>base≤b∧b<w.heap.size) A l:=fun hne=>by
 have hlt:=h.lt
 obtain ⟨css,hr,hl,hx⟩:=h
 have hpos:0<l.length:=List.length_pos_iff.2 hne
 have hsz:∀cs∈css,cs.length=S.size:=fun cs hcs=>by
  obtain ⟨i,hi,rfl⟩:=List.getElem_of_mem hcs
  obtain ⟨x,hxi⟩:=ZV (l:=l) (k:=i) (by omega)
  exact S.len (hx i x _ hxi (List.getElem?_eq_getElem hi))
 rcases hr.2 with ⟨hv,hn⟩|⟨g,cap,cur,hv,hb,hh,hn,hm,hcs,htake⟩
 ·omega
 ·injection hv with hA h2 h3
  subst hA
  refine ⟨g,0,rfl,hlt g rfl,fun k x hk=> ?_⟩
  obtain ⟨cs,hcsk⟩:=ZV (l:=css) (k:=k) (by have:=Zae hk;omega)
  refine ⟨cs,S.keep (hx k x cs hk hcsk) (fun _ h=>h.elim) (fun _ h=>h.elim),fun j v hj=> ?_⟩
  have:=ZnA css hsz k j cs v hcsk hj
  have hc:=hr.cells (g:=g) (by simp[Value.ownBlock]) (k * S.size+j) v this
  rw[Nat.zero_add]
  rw[←hc]
  generalize k * S.size+j=q
  by_cases h0:q=0
  ·rw[h0];rfl
  ·simp[Addr.add,h0]
theorem Own.ra (h:Own S w base e A c l):RA S w A l:=h.rsl.mono fun _ hb=>hb.2
theorem Own.ne_map {κ:Type} {val:κ→Value} {b:Nat} {kv:List (κ×Value)} (h:Own S w base e A c l) (hm:Zdf val w b kv):blk A≠some b:=fun hb=>by
 obtain ⟨css,hr,_⟩:=h
 obtain ⟨es,clock,hh,_⟩:=hm
 rcases hr.2 with ⟨hv,hn⟩|⟨g,cap,cur,hv,_,hg,_⟩
 ·injection hv with hA;subst hA;cases hb
 ·injection hv with hA
  subst hA
  simp[blk] at hb
  subst hb
  rw[hg] at hh
  cases hh
theorem Own.ne_own {β:Type} {T:Sh β} {base':Nat} {e':TypeId} {A':Option Addr} {c':Nat} {l':List β} (h:Own S w base e A c l) (h':Own T w base' e' A' c' l') (hne:e≠e') {k:Nat} (hk:blk A=some k):blk A'≠some k:=fun hk'=>by
 obtain ⟨css,hr,_⟩:=h
 obtain ⟨css',hr',_⟩:=h'
 rcases hr.2 with ⟨hv,hn⟩|⟨g,cap,cur,hv,_,hg,_⟩
 ·injection hv with hA;subst hA;cases hk
 rcases hr'.2 with ⟨hv',hn'⟩|⟨g',cap',cur',hv',_,hg',_⟩
 ·injection hv' with hA;subst hA;cases hk'
 injection hv with hA
 injection hv' with hA'
 subst hA hA'
 simp[blk] at hk hk'
 subst hk hk'
 rw[hg] at hg'
 injection hg' with hg'
 injection hg' with _ h2
 exact hne h2
end
structure Pushed (w w':World) (A:Option Addr):Prop where
 os:w'.os=w.os
 tape:w'.tape=w.tape
 output:w'.output=w.output
 size:w.heap.size<w'.heap.size
 block:∀k,k<w.heap.size→blk A≠some k→w'.heap[k]?=w.heap[k]?
theorem Pushed.below {α:Type} {S:Sh α} {w w' a:World} {B base:Nat} {e:TypeId} {A:Option Addr} {c:Nat} {l:List α} (h:Pushed w w' A) (hown:Own S w base e A c l) (hb:Below B a w) (hB:B≤base) (hB2:B≤w.heap.size):Below B a w':=
 ⟨h.os.trans hb.os,h.tape.trans hb.tape,h.output.trans hb.output,Nat.le_trans hb.size (Nat.le_of_lt h.size),fun k hk=>(h.block k (by omega) (fun e=>by have:=(hown.lt k e).1;omega)).trans (hb.block k hk)⟩
theorem Pushed.map {κ:Type} {val:κ→Value} {α:Type} {S:Sh α} {w w':World} {base b:Nat} {e:TypeId} {A:Option Addr} {c:Nat} {l:List α} {kv:List (κ×Value)} (h:Pushed w w' A) (hown:Own S w base e A c l) (hm:Zdf val w b kv):Zdf val w' b kv:=
 hm.keep (h.block b hm.lt (hown.ne_map hm))
theorem Pushed.other {α β:Type} {S:Sh α} {T:Sh β} {w w':World} {base base':Nat} {e e':TypeId} {A A':Option Addr} {c c':Nat} {l:List α} {l':List β} (h:Pushed w w' A) (hown:Own S w base e A c l) (ho:Own T w base' e' A' c' l') (hne:e≠e'):Own T w' base' e' A' c' l':=
 ho.keep fun k hk=>h.block k (ho.lt k hk).2 (fun hA=>hown.ne_own ho hne hA hk)
theorem Pushed.cell {w w':World} {A:Option Addr} (h:Pushed w w' A) {b o:Nat} (hb:b<w.heap.size) (hne:blk A≠some b):w'.cell? ⟨b,o,none⟩=w.cell? ⟨b,o,none⟩:=World.cell?_of_block (h.block b hb hne)
theorem Pushed.frozen {w w':World} {A:Option Addr} (h:Pushed w w' A) {b o:Nat} (hb:b<w.heap.size) (hne:blk A≠some b):w'.frozen? ⟨b,o,none⟩=w.frozen? ⟨b,o,none⟩:=World.frozen?_of_block (h.block b hb hne)
theorem Own.turned {κ:Type} {val:κ→Value} {α:Type} {S:Sh α} {w w':World} {base b:Nat} {e:TypeId} {A:Option Addr} {c:Nat} {l:List α} {kv:List (κ×Value)} (h:Own S w base e A c l) (hm:Zdf val w b kv) (ht:ZbY w w' b):Own S w' base e A c l:=
 h.keep fun k hk=>ht.2.2.2.2 k (fun e=>h.ne_map hm (by rw[hk,e]))
end Go.Proofs.YtjjobbamoeaogaaDoor
