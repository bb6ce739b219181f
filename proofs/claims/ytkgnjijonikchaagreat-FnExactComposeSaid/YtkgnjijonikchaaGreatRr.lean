import Derived.Test.YtkgnjijonikchaaGreatNx
import Derived.Test.YtkgnjijonikchaaGreatBox
import Derived.Test.YtkgnjijonikchaaGreatHnd
namespace Go.Proofs.YtkgnjijonikchaaGreat
open Go.RowKit
set_option linter.unusedVariables false
set_option linter.unusedSimpArgs false
def Ziv :Sh Value where
 size:=1
 rep:=fun _ _ cs v=>cs=[v]
 len:=fun h=>by rw[h];rfl
 keep:=fun h _ _=>h
theorem Zt4 {w:World} {base:Nat} {e:TypeId} {A:Option Addr} {c:Nat} {l:List Value}:Own Ziv w base e A c l↔(A=none∧c=0∧l=[])∨
 ∃(g:Nat) (cur:Array Value),A=some ⟨g,0,none⟩∧base≤g∧w.heap[g]?=some (.cells cur e (0,0))∧l.length≤c∧c≤maxLen∧cur.size=c∧∀(i:Nat) (x:Value),l[i]?=some x→cur[i]?=some x:=by
 constructor
 ·intro h
  obtain ⟨css,⟨hlen,hrow⟩,hcl,hcx⟩:=h
  rcases hrow with ⟨hv,hl⟩|⟨g,cap,cur,hv,hbg,hg,hle,hmax,hsz,htk⟩
  ·left
   injection hv with h1 h2 h3
   exact ⟨h1,h3,List.eq_nil_of_length_eq_zero hl⟩
  ·right
   injection hv with h1 h2 h3
   subst h3
   refine ⟨g,cur,h1,hbg,hg,hle,hmax,by simpa[Ziv] using hsz,fun i z hz=> ?_⟩
   have hzl:i<l.length:=(List.getElem?_eq_some_iff.1 hz).1
   obtain ⟨cs,hcs⟩:∃cs,css[i]?=some cs:=⟨css[i]'(by omega),List.getElem?_eq_getElem (by omega)⟩
   obtain rfl:cs=[z]:=hcx i z cs hz hcs
   have hf:css.flatten[i * 1+0]?=some z:=Zhp css (fun cs hcs=>by
    obtain ⟨k,hk⟩:=List.getElem?_of_mem hcs
    have hkl:=(List.getElem?_eq_some_iff.1 hk).1
    obtain ⟨y,hy⟩:∃y,l[k]?=some y:=⟨l[k]'(by omega),List.getElem?_eq_getElem (by omega)⟩
    have h1:cs=[y]:=hcx k y cs hy hk
    rw[h1];rfl) i 0 _ _ hcs rfl
   rw[←htk] at hf
   have hf2:cur.toList[i * 1+0]?=some z:=by
    rw[List.getElem?_take] at hf
    split at hf
    ·exact hf
    ·cases hf
   simpa using hf2
 ·rintro (⟨rfl,rfl,rfl⟩|⟨g,cur,rfl,hbg,hg,hle,hmax,hsz,hx⟩)
  ·exact Own.nil_
  ·have e2:∀l:List Value,(l.map fun x=>[x]).flatten=l:=fun l=>by
    induction l with
    |nil=>rfl
    |cons a r ih=>simp[ih]
   refine ⟨l.map fun x=>[x],⟨?_,.inr ⟨g,c,cur,rfl,hbg,hg,hle,hmax,by rw[show Ziv.size=1 from rfl,hsz];simp, ?_⟩⟩,by simp,fun k x cs hk hcs=> ?_⟩
   ·rw[e2,show Ziv.size=1 from rfl];simp
   ·rw[e2,show Ziv.size=1 from rfl,Nat.mul_one]
    apply List.ext_getElem?
    intro i
    by_cases hi:i<l.length
    ·rw[List.getElem?_take_of_lt hi,List.getElem?_eq_getElem hi]
     have:=hx i l[i] (List.getElem?_eq_getElem hi)
     simpa using this
    ·rw[List.getElem?_eq_none (by rw[List.length_take];omega),List.getElem?_eq_none (by omega)]
   ·rw[List.getElem?_map,hk] at hcs
    cases hcs
    rfl
abbrev RQ :=Option Addr×Nat×List Int
def rv (t:RQ):Value:=.slice t.1 t.2.2.length t.2.1
structure RR (w:World) (base:Nat) (A:Option Addr) (c:Nat) (T e:TypeId) (m:Nat) (q:List RQ):Prop where
 top:Own Ziv w base T A c (q.map rv)
 own:∀(i:Nat) (t:RQ),q[i]?=some t→Own Zx w base e t.1 t.2.1 t.2.2∧t.2.2.length=m
 sep:∀(i j:Nat) (t u:RQ) (b:Nat),q[i]?=some t→q[j]?=some u→i≠j→blk t.1=some b→blk u.1≠some b
section
variable {w w' w1:World} {base c m:Nat} {A:Option Addr} {T e:TypeId} {q:List RQ}
theorem RR.nil_ :RR w base none 0 T e m []:=⟨Own.nil_,fun i t h=>by simp at h,fun i j t u b h=>by simp at h⟩
theorem RR.keep (h:RR w base A c T e m q) (hb:∀b,base≤b→b<w.heap.size→(blk A=some b∨∃(i:Nat) (t:RQ),q[i]?=some t∧blk t.1=some b)→w'.heap[b]?=w.heap[b]?):RR w' base A c T e m q:=
 ⟨h.top.keep fun k hk=>hb k (h.top.lt k hk).1 (h.top.lt k hk).2 (.inl hk),fun i t ht=>⟨(h.own i t ht).1.keep fun k hk=>hb k ((h.own i t ht).1.lt k hk).1 ((h.own i t ht).1.lt k hk).2 (.inr ⟨i,t,ht,hk⟩),(h.own i t ht).2⟩,h.sep⟩
theorem RR.to (h:RR w base A c T e m q) (hb:Below w.heap.size w w'):RR w' base A c T e m q:=h.keep fun b _ hl _=>hb.block b hl
theorem RR.past (h:RR w base A c T e m q) {p:Addr} (hp:p.block<base) (v:Value):RR (w.setCell p v) base A c T e m q:=h.keep fun b hb _ _=>Below.heap_setCell _ _ _ _ (by omega)
theorem RR.lower {B:Nat} (h:RR w base A c T e m q) (hB:B≤base):RR w B A c T e m q:=⟨h.top.lower hB,fun i t ht=>⟨(h.own i t ht).1.lower hB,(h.own i t ht).2⟩,h.sep⟩
theorem RR.push {A1 A':Option Addr} {c1 c':Nat} {l:List Int} (h:RR w base A c T e m q) (hTe:T≠e) (ho:Own Zx w base e A1 c1 l) (hl:l.length=m) (hn:∀(i:Nat) (t:RQ) (b:Nat),q[i]?=some t→blk t.1=some b→blk A1≠some b)
 (hp:Own Ziv w1 base T A' c' (q.map rv++[.slice A1 l.length c1])) (hblk:∀k,k<w.heap.size→blk A≠some k→w1.heap[k]?=w.heap[k]?):RR w1 base A' c' T e m (q++[(A1,c1,l)]):=by
 refine ⟨by rw[List.map_append];exact hp,fun i t ht=> ?_,fun i j t u b hi hj hne ht hu=> ?_⟩
 ·by_cases hi:i<q.length
  ·rw[List.getElem?_append_left hi] at ht
   obtain ⟨o1,o2⟩:=h.own i t ht
   exact ⟨o1.keep fun k hk=>hblk k (o1.lt k hk).2 (fun e'=>o1.ne_own h.top (Ne.symm hTe) hk e'),o2⟩
  ·rw[List.getElem?_append_right (by omega)] at ht
   rcases Nat.eq_zero_or_pos (i - q.length) with h0|h0
   ·rw[h0] at ht
    simp at ht
    subst ht
    exact ⟨ho.keep fun k hk=>hblk k (ho.lt k hk).2 (fun e'=>ho.ne_own h.top (Ne.symm hTe) hk e'),hl⟩
   ·rw[List.getElem?_eq_none (by simp;omega)] at ht;cases ht
 ·have hlast:∀(i:Nat) (t:RQ),¬i<q.length→(q++[(A1,c1,l)])[i]?=some t→i=q.length∧t=(A1,c1,l):=fun i t hi ht=>by
   rw[List.getElem?_append_right (by omega)] at ht
   rcases Nat.eq_zero_or_pos (i - q.length) with h0|h0
   ·rw[h0] at ht
    simp at ht
    exact ⟨by omega,ht.symm⟩
   ·rw[List.getElem?_eq_none (by simp;omega)] at ht;cases ht
  by_cases h1:i<q.length
  ·rw[List.getElem?_append_left h1] at hi
   by_cases h2:j<q.length
   ·rw[List.getElem?_append_left h2] at hj
    exact h.sep i j t u b hi hj hne ht hu
   ·obtain ⟨_,rfl⟩:=hlast j u h2 hj
    exact hn i t b hi ht hu
  ·obtain ⟨e1,rfl⟩:=hlast i t h1 hi
   by_cases h2:j<q.length
   ·rw[List.getElem?_append_left h2] at hj
    exact hn j u b hj hu ht
   ·exact hne (by have:=(hlast j u h2 hj).1;omega)
theorem RR.put {i j g ci:Nat} {r:List Int} {v:Int} (h:RR w base A c T e m q) (hTe:T≠e) (hi:q[i]?=some (some ⟨g,0,none⟩,ci,r)) (hj:j<m) (hv:InI v):
 RR (w.setCell ⟨g,j,none⟩ (.int .i64 v)) base A c T e m (q.set i (some ⟨g,0,none⟩,ci,r.set j v)):=by
 have hil:=(List.getElem?_eq_some_iff.1 hi).1
 obtain ⟨o1,o2⟩:=h.own i _ hi
 dsimp only at o1 o2
 have hmap:(q.set i (some ⟨g,0,none⟩,ci,r.set j v)).map rv=q.map rv:=by
  rw[List.map_set]
  apply List.ext_getElem?
  intro k
  rw[List.getElem?_set]
  split
  ·rename_i hk
   subst hk
   rw[if_pos (by simpa using hil),List.getElem?_map,hi]
   simp[rv]
  ·rfl
 refine ⟨?_,fun k t ht=> ?_,fun k k2 t u b hk hk2 hne ht hu=> ?_⟩
 ·rw[hmap]
  exact h.top.keep fun k hk=>ZeN (fun e'=>h.top.ne_own o1 hTe hk (by rw[e'];rfl))
 ·rw[List.getElem?_set] at ht
  split at ht
  ·have ht:some ((some ⟨g,0,none⟩,ci,r.set j v):RQ)=some t:=by first|exact ht|(rw[if_pos (by omega)] at ht;exact ht)
   cases ht
   exact ⟨o1.int_put (by omega) hv,by simpa using o2⟩
  ·rename_i hne
   obtain ⟨o3,o4⟩:=h.own k t ht
   exact ⟨o3.keep fun b hb=>ZeN (fun e'=>h.sep k i t _ b ht hi (Ne.symm hne) hb (by rw[e'];rfl)),o4⟩
 ·have hold:∀(k:Nat) (t:RQ),(q.set i (some ⟨g,0,none⟩,ci,r.set j v))[k]?=some t→∃t',q[k]?=some t'∧t'.1=t.1:=fun k t hk=>by
   rw[List.getElem?_set] at hk
   split at hk
   ·rename_i e'
    subst e'
    first|(rw[if_pos hil] at hk;cases hk)|cases hk
    exact ⟨_,hi,rfl⟩
   ·exact ⟨t,hk,rfl⟩
  obtain ⟨t',h1,e1⟩:=hold k t hk
  obtain ⟨u',h2,e2⟩:=hold k2 u hk2
  exact h.sep k k2 t' u' b h1 h2 hne (by rw[e1];exact ht) (by rw[e2];exact hu)
theorem RR.cell {i:Nat} {t:RQ} (h:RR w base A c T e m q) (hi:q[i]?=some t):∃g,A=some ⟨g,0,none⟩∧base≤g∧w.cell? ⟨g,i,none⟩=some (.slice t.1 t.2.2.length t.2.1)∧w.frozen? ⟨g,i,none⟩=false:=by
 have hm:(q.map rv)[i]?=some (rv t):=by rw[List.getElem?_map,hi];rfl
 rcases Zt4.1 h.top with ⟨_,_,h0⟩|⟨g,cur,rfl,hbg,hg,hle,hmax,hsz,hx⟩
 ·rw[h0] at hm;simp at hm
 ·exact ⟨g,rfl,hbg,by have:=hx i _ hm;simp[World.cell?,hg,this];rfl,by simp[World.frozen?,hg]⟩
theorem Zxj {F:Nat→Prop} {l:List Int} {A:Option Addr} {c:Nat} (h:Own Zx w base e A c l) (hF:∀b,base≤b→b<w.heap.size→F b):VR w F (.lst (l.map pI)) (.slice A l.length c):=by
 have hlt:=h.lt
 have hc:=h.cap
 have:=VR.lst (w:=w) (F:=F) (l.map pI) A c 1 (fun i=>.int .i64 (l.getD i 0)) (by rw[List.length_map];exact hc.1) (by simpa[maxLen] using hc.2) (fun hne=>by
  obtain ⟨g,rfl,h1,h2⟩:=Own.int_form h (by intro e';rw[e'] at hne;exact hne rfl)
  refine ⟨g,0,rfl,hF g h1 h2,fun i hi j u hu=> ?_⟩
  rw[List.length_map] at hi
  cases j with
  |succ j=>simp[Value.cells] at hu
  | zero=>
   have hg:l[i]?=some (l.getD i 0):=by rw[List.getD_eq_getElem?_getD,List.getElem?_eq_getElem hi];rfl
   simp[Value.cells] at hu
   subst hu
   rw[show 0+i * 1+0=i by omega]
   exact (h.int_cell hg).1) (fun i x hx=>by
  rw[List.getElem?_map,Option.map_eq_some_iff] at hx
  obtain ⟨z,hz,rfl⟩:=hx
  exact ⟨rfl,rfl⟩) (fun i x hx=>by
  rw[List.getElem?_map,Option.map_eq_some_iff] at hx
  obtain ⟨z,hz,rfl⟩:=hx
  rw[show l.getD i 0=z by rw[List.getD_eq_getElem?_getD,hz];rfl]
  exact .int _ _)
 rw[List.length_map] at this
 exact this
def Zrw (r:List Int):PV:=.lst (r.map pI)
theorem RR.vr {F:Nat→Prop} (h:RR w base A c T e m q) (hF:∀b,base≤b→b<w.heap.size→F b):VR w F (.lst ((q.map (·.2.2)).map Zrw)) (.slice A q.length c):=by
 have hc:=h.top.cap
 rw[List.length_map] at hc
 have:=VR.lst (w:=w) (F:=F) ((q.map (·.2.2)).map Zrw) A c 1 (fun i=>rv (q.getD i (none,0,[]))) (by rw[List.length_map,List.length_map];exact hc.1) (by simpa[maxLen] using hc.2) (fun hne=>by
  rcases Zt4.1 h.top with ⟨_,_,h0⟩|⟨g,cur,rfl,hbg,hg,hle,hmax,hsz,hx⟩
  ·simp at h0;rw[h0] at hne;exact absurd rfl hne
  refine ⟨g,0,rfl,hF g hbg (Array.getElem?_eq_some_iff.1 hg).1,fun i hi j u hu=> ?_⟩
  rw[List.length_map,List.length_map] at hi
  cases j with
  |succ j=>simp[Value.cells,rv] at hu
  | zero=>
   have hg1:q[i]?=some (q.getD i (none,0,[])):=by rw[List.getD_eq_getElem?_getD,List.getElem?_eq_getElem hi];rfl
   simp[Value.cells,rv] at hu
   subst hu
   have:=hx i (rv (q.getD i (none,0,[]))) (by rw[List.getElem?_map,hg1];rfl)
   rw[show 0+i * 1+0=i by omega]
   have hc:w.cell? ⟨g,i,none⟩=some (rv (q.getD i (none,0,[]))):=by simp only[World.cell?,hg];simpa using this
   exact hc) (fun i x hx=>by
  rw[List.getElem?_map,Option.map_eq_some_iff] at hx
  obtain ⟨z,hz,rfl⟩:=hx
  exact ⟨rfl,rfl⟩) (fun i x hx=>by
  rw[List.getElem?_map,Option.map_eq_some_iff] at hx
  obtain ⟨z,hz,rfl⟩:=hx
  rw[List.getElem?_map,Option.map_eq_some_iff] at hz
  obtain ⟨t,ht,rfl⟩:=hz
  rw[show q.getD i (none,0,[])=t by rw[List.getD_eq_getElem?_getD,ht];rfl]
  exact Zxj (h.own i t ht).1 hF)
 rw[List.length_map,List.length_map] at this
 exact this
end
end Go.Proofs.YtkgnjijonikchaaGreat
