import Derived.Test.YtjjobbamoeaogaaDoorOwn
import Derived.Test.YtjjobbamoeaogaaDoorData
import Derived.Test.YtjjobbamoeaogaaDoorMark
namespace Go.Proofs.YtjjobbamoeaogaaDoor
open Go.RowKit
set_option linter.unusedVariables false
set_option linter.unusedSimpArgs false
theorem ZtO {α:Type} {S:Sh α} {w:World} {base:Nat} {e:TypeId} {A:Option Addr} {c:Nat} {l:List α} (h:Own S w base e A c l):RSl S w (fun b=>blk A=some b) A l:=fun hne=>by
 obtain ⟨css,hr,hl,hx⟩:=h
 have hpos:0<l.length:=List.length_pos_iff.2 hne
 have hsz:∀cs∈css,cs.length=S.size:=fun cs hcs=>by
  obtain ⟨i,hi,rfl⟩:=List.getElem_of_mem hcs
  obtain ⟨x,hxi⟩:=ZV (l:=l) (k:=i) (by omega)
  exact S.len (hx i x _ hxi (List.getElem?_eq_getElem hi))
 rcases hr.2 with ⟨hv,hn⟩|⟨g,cap,cur,hv,hb,hh,hn,hm,hcs,htake⟩
 ·omega
 ·injection hv with hA h2 h3
  subst hA
  refine ⟨g,0,rfl,rfl,fun k x hk=> ?_⟩
  obtain ⟨cs,hcsk⟩:=ZV (l:=css) (k:=k) (by have:=Zae hk;omega)
  refine ⟨cs,S.keep (hx k x cs hk hcsk) (fun _ h=>h.elim) (fun _ h=>h.elim),fun j v hj=> ?_⟩
  have:=ZnA css hsz k j cs v hcsk hj
  have hc:=hr.cells (g:=g) (by simp[Value.ownBlock]) (k * S.size+j) v this
  rw[Nat.zero_add]
  rw[←hc]
  generalize k * S.size+j=q
  by_cases h0:q=0
  ·rw[h0];rfl
  ·simp[Addr.add,h0]
structure WHd where
 A:Option Addr
 c:Nat
 B:Option Addr
 d:Nat
def WHd.cells (h:WHd) (x:Wire):List Value:=[.string ⟨(x.name).toArray⟩,.int .i64 x.kind,.slice h.A (x.ins).length h.c,.slice h.B (x.cover).length h.d]
def WHd.has (h:WHd) (b:Nat):Prop:=blk h.A=some b∨blk h.B=some b
def Zqn (s:Sig):PV:=.agg [.str s.name,pI s.kind]
def Zqm (p:Pin):PV:=.agg [pI p.at_,pB p.not_]
def Zql (x:Wire):PV:=.agg [.str x.name,pI x.kind,.lst (x.ins.map Zqm),.lst (x.cover.map PV.str)]
structure NlIn (n:Nl):Prop where
 sig:∀s∈n.signals,s.name.length≤9223372036854775807∧InI s.kind
 wire:∀x∈n.wires,x.name.length≤9223372036854775807∧InI x.kind∧(∀p∈x.ins,InI p.at_)∧∀s∈x.cover,s.length≤9223372036854775807
theorem ZqT {w:World} {F:Nat→Prop} {a b:PV} {v:Value} (h:VR w F (.agg [a,b]) v):∃x y,v=.agg #[x,y]∧VR w F a x∧VR w F b y:=by
 cases h with
 | agg l cs k1 k2 k3=>
  obtain ⟨cs⟩:=cs
  match cs,k1 with
  |[x,y],_=>exact ⟨x,y,rfl,k3 0 _ rfl,k3 1 _ rfl⟩
theorem vrA4 {w:World} {F:Nat→Prop} {a b c d:PV} {v:Value} (h:VR w F (.agg [a,b,c,d]) v):∃x y z u,v=.agg #[x,y,z,u]∧VR w F a x∧VR w F b y∧VR w F c z∧VR w F d u:=by
 cases h with
 | agg l cs k1 k2 k3=>
  obtain ⟨cs⟩:=cs
  match cs,k1 with
  |[x,y,z,u],_=>exact ⟨x,y,z,u,rfl,k3 0 _ rfl,k3 1 _ rfl,k3 2 _ rfl,k3 3 _ rfl⟩
theorem Zs4 {x:Sig} (h:x.name.length≤9223372036854775807∧InI x.kind):ZlA Z1 Zqn x:=fun w w' F u hu=>by
 obtain ⟨a,b,rfl,a1,a2⟩:=ZqT hu
 cases a1;cases a2
 exact ⟨[_],[_],rfl,⟨rfl,h.1⟩,rfl,h.2⟩
theorem Zs5 {x:Sig} (h:x.name.length≤9223372036854775807∧InI x.kind):Zpn Z1 Zqn x:=fun w D u hu=>by
 obtain ⟨a,b,rfl,a1,a2⟩:=ZqT hu
 cases a1;cases a2
 exact ⟨[_],[_],rfl,⟨rfl,h.1⟩,rfl,h.2⟩
theorem ZqA {x:Pin} (h:InI x.at_):ZlA Zbr Zqm x:=fun w w' F u hu=>by
 obtain ⟨a,b,rfl,a1,a2⟩:=ZqT hu
 cases a1;cases a2
 exact ⟨[_],[_],rfl,⟨rfl,h⟩,rfl⟩
theorem Ztc {x:Pin} (h:InI x.at_):Zpn Zbr Zqm x:=fun w D u hu=>by
 obtain ⟨a,b,rfl,a1,a2⟩:=ZqT hu
 cases a1;cases a2
 exact ⟨[_],[_],rfl,⟨rfl,h⟩,rfl⟩
theorem Zq8 {x:Wire} (h:x.name.length≤9223372036854775807∧InI x.kind∧(∀p∈x.ins,InI p.at_)∧∀s∈x.cover,s.length≤9223372036854775807):Zpn Zau Zql x:=fun w D u hu=>by
 obtain ⟨a,b,c,d,rfl,a1,a2,a3,a4⟩:=vrA4 hu
 cases a1;cases a2
 obtain ⟨A,c1,rfl,r1,l1,m1⟩:=ZkX (S:=Zbr) (f:=Zqm) (fun p hp=>Ztc (h.2.2.1 p hp)) rfl a3
 obtain ⟨B,c2,rfl,r2,l2,m2⟩:=ZkX (S:=ZB) (f:=PV.str) (fun p hp=>Ztp (h.2.2.2 p hp)) rfl a4
 exact Zln h.1 h.2.1 l1 (by simpa[maxLen] using m1) r1 l2 (by simpa[maxLen] using m2) r2
theorem ZqS {α β:Type} {P:Nat→α→β→Prop} (l:List α) (h:∀(i:Nat) (x:α),l[i]?=some x→∃b,P i x b):∃bs:List β,bs.length=l.length∧∀(i:Nat) (x:α) (b:β),l[i]?=some x→bs[i]?=some b→P i x b:=by
 induction l generalizing P with
 |nil=>exact ⟨[],rfl,fun i x b hx=>by simp at hx⟩
 | cons a r ih=>
  obtain ⟨b0,h0⟩:=h 0 a rfl
  obtain ⟨bs,h1,h2⟩:=ih (P:=fun i=>P (i+1)) fun i x hx=>h (i+1) x (by simpa using hx)
  refine ⟨b0::bs,by simp[h1],fun i x b hx hb=> ?_⟩
  cases i with
  | zero=>
   simp at hx hb
   subst hx hb
   exact h0
  |succ i=>exact h2 i x b (by simpa using hx) (by simpa using hb)
theorem Zra {L:List (List Nat)} (hn:L.flatten.Nodup) {i j b:Nat} {l m:List Nat} (hij:i≠j) (hi:L[i]?=some l) (hj:L[j]?=some m) (h1:b∈l) (h2:b∈m):False:=by
 induction L generalizing i j with
 |nil=>simp at hi
 | cons a r ih=>
  simp only[List.flatten_cons] at hn
  obtain ⟨n1,n2,n3⟩:=List.nodup_append.1 hn
  have key:∀{k:Nat} {p:List Nat},r[k]?=some p→∀c,c∈p→c∈r.flatten:=fun hk c hc=>List.mem_flatten.2 ⟨_,List.mem_of_getElem? hk,hc⟩
  cases i with
  | zero=>
   cases j with
   |zero=>exact hij rfl
   | succ j=>
    simp at hi
    subst hi
    exact n3 b h1 b (key (by simpa using hj) b h2) rfl
  | succ i=>
   cases j with
   | zero=>
    simp at hj
    subst hj
    exact n3 b h2 b (key (by simpa using hi) b h1) rfl
   |succ j=>exact ih n2 (i:=i) (j:=j) (by omega) (by simpa using hi) (by simpa using hj)
theorem Zre {L:List (List Nat)} (hn:L.flatten.Nodup) {i:Nat} {l:List Nat} (hi:L[i]?=some l):l.Nodup:=by
 induction L generalizing i with
 |nil=>simp at hi
 | cons a r ih=>
  simp only[List.flatten_cons] at hn
  obtain ⟨n1,n2,n3⟩:=List.nodup_append.1 hn
  cases i with
  | zero=>
   simp at hi
   subst hi
   exact n1
  |succ i=>exact ih n2 (by simpa using hi)
theorem Zqp {α:Type} {S:Sh α} {f:α→PV} {w:World} {F:Nat→Prop} {base:Nat} {e:TypeId} {A:Option Addr} {c:Nat} {l:List α}
 (H:∀x∈l,∀cs,S.rep w (fun _=>False) cs x→(f x).width=S.size∧f x≠.undef∧∃u:Value,VR w F (f x) u∧u.cells.toList=cs) (h:Own S w base e A c l):
 ∃fp,Zfh w F true e S.size (l.map f) (.slice A l.length c) fp∧fp.Nodup∧(∀b,b∈fp↔blk A=some b)∧∀b∈fp,base≤b∧b<w.heap.size:=by
 have hlt:=h.lt
 obtain ⟨css,⟨hlen,hrow⟩,hcl,hcx⟩:=h
 rcases hrow with ⟨hv,hl⟩|⟨g,cap,cur,hv,hbg,hg,hle,hmax,hsz,htk⟩
 ·obtain rfl:l=[]:=List.eq_nil_of_length_eq_zero hl
  injection hv with h1 h2 h3
  subst h1
  exact ⟨[],.inl ⟨by rw[h3];rfl,rfl,rfl⟩,List.nodup_nil,by simp[blk],by simp⟩
 ·injection hv with h1 h2 h3
  subst h1 h3
  refine ⟨[g],.inr ⟨g,c,cur,(0,0),by simp,rfl,hg,fun _=>rfl,.inl (Nat.le_refl _),by simpa using hle,hmax,hsz,fun i x hx=> ?_⟩,by simp,by simp[blk,eq_comm],fun b hb=> ?_⟩
  ·rw[List.getElem?_map,Option.map_eq_some_iff] at hx
   obtain ⟨z,hz,rfl⟩:=hx
   have hzl:i<l.length:=(List.getElem?_eq_some_iff.1 hz).1
   obtain ⟨cs,hcs⟩:∃cs,css[i]?=some cs:=⟨css[i]'(by omega),List.getElem?_eq_getElem (by omega)⟩
   obtain ⟨h1,h2,u,h3,h4⟩:=H z (List.mem_of_getElem? hz) cs (hcx i z cs hz hcs)
   refine ⟨h1,h2,u,h3,fun j v hj=> ?_⟩
   have hf:css.flatten[i * S.size+j]?=some v:=ZnA css (fun cs hcs=>by
    obtain ⟨k,hk⟩:=List.getElem?_of_mem hcs
    have hkl:=(List.getElem?_eq_some_iff.1 hk).1
    obtain ⟨y,hy⟩:∃y,l[k]?=some y:=⟨l[k]'(by omega),List.getElem?_eq_getElem (by omega)⟩
    exact S.len (hcx k y cs hy hk)) i j cs v hcs (by rw[←h4,Array.getElem?_toList];exact hj)
   rw[←htk,List.getElem?_take] at hf
   split at hf
   ·rw[Array.getElem?_toList] at hf;exact hf
   ·cases hf
  ·rw[List.mem_singleton] at hb;subst hb
   exact hlt b rfl
theorem pinVR {w:World} {F:Nat→Prop} (p:Pin):VR w F (Zqm p) (.agg #[.int .i64 p.at_,.bool p.not_]):=by
 refine VR.of_cells rfl fun i y hy=> ?_
 match i with
 |0=>simp[Zqm] at hy;subst hy;exact ⟨rfl,.int _ _⟩
 |1=>simp[Zqm] at hy;subst hy;exact ⟨rfl,.bool _⟩
 |i+2=>simp at hy
theorem sigVR {w:World} {F:Nat→Prop} (s:Sig):VR w F (Zqn s) (.agg #[.string ⟨s.name.toArray⟩,.int .i64 s.kind]):=by
 refine VR.of_cells rfl fun i y hy=> ?_
 match i with
 |0=>simp[Zqn] at hy;subst hy;exact ⟨rfl,.str _⟩
 |1=>simp[Zqn] at hy;subst hy;exact ⟨rfl,.int _ _⟩
 |i+2=>simp at hy
section
variable {w w':World} {F:Nat→Prop} {base:Nat} {t tp ts:TypeId} {A:Option Addr} {g c:Nat}
theorem ZqC {l:List Pin} (h:Own Zbr w base tp A c l):∃fp,Zfh w F true tp 2 (l.map Zqm) (.slice A l.length c) fp∧fp.Nodup∧(∀b,b∈fp↔blk A=some b)∧∀b∈fp,base≤b∧b<w.heap.size:=
 Zqp (S:=Zbr) (fun x _ cs hr=>by
  obtain ⟨rfl,_⟩:=Zq0 hr
  exact ⟨rfl,by simp[Zqm],_,pinVR x,rfl⟩) h
theorem Ztd {l:List Sig} (h:Own Z1 w base tp A c l):∃fp,Zfh w F true tp 2 (l.map Zqn) (.slice A l.length c) fp∧fp.Nodup∧(∀b,b∈fp↔blk A=some b)∧∀b∈fp,base≤b∧b<w.heap.size:=
 Zqp (S:=Z1) (fun x _ cs hr=>by
  obtain ⟨rfl,_⟩:=ZqX hr
  exact ⟨rfl,by simp[Zqn],_,sigVR x,rfl⟩) h
theorem Ztf {l:List (List UInt8)} (h:Own ZB w base tp A c l):∃fp,Zfh w F true tp 1 (l.map PV.str) (.slice A l.length c) fp∧fp.Nodup∧(∀b,b∈fp↔blk A=some b)∧∀b∈fp,base≤b∧b<w.heap.size:=
 Zqp (S:=ZB) (fun x _ cs hr=>by
  obtain ⟨rfl,_⟩:cs=[.string ⟨x.toArray⟩]∧_:=hr
  exact ⟨rfl,by simp,_,.str x,rfl⟩) h
theorem Own.pin_cell {l:List Pin} (h:Own Zbr w base tp A c l) {j:Nat} {p:Pin} (hj:l[j]?=some p):
 ∃g,A=some ⟨g,0,none⟩∧base≤g∧g<w.heap.size∧w.cell? ⟨g,j * 2,none⟩=some (.int .i64 p.at_)∧w.frozen? ⟨g,j * 2,none⟩=false∧InI p.at_:=by
 have hlt:=h.lt
 obtain ⟨b,off,e,hb,d0,d1,hI⟩:=h.rsl.Pin_at hj
 obtain ⟨fp,hr,_,hbl,_⟩:=ZqC (F:=fun _=>False) h
 rcases hr with ⟨hv,_,_⟩|⟨g,cap,cur,fr,hv,_,hh,hfr,_⟩
 ·injection hv with h1
  rw[h1] at e;cases e
 ·injection hv with h1
  subst h1
  injection e with e
  injection e with e1 e2
  subst e1 e2
  rw[Nat.zero_add] at d0
  refine ⟨g,rfl,(hlt g rfl).1,(hlt g rfl).2,d0, ?_,hI⟩
  simp[World.frozen?,hh,hfr rfl]
theorem Own.pin_put {l:List Pin} (h:Own Zbr w base tp (some ⟨g,0,none⟩) c l) {j:Nat} {p:Pin} (hj:l[j]?=some p) {z:Int} (hz:InI z):
 Own Zbr (w.setCell ⟨g,j * 2,none⟩ (.int .i64 z)) base tp (some ⟨g,0,none⟩) c (l.set j ⟨z,p.not_⟩):=by
 have hpin:∀x∈l,InI x.at_:=fun x hx=>by
  obtain ⟨i,hi⟩:=List.getElem?_of_mem hx
  exact (h.pin_cell hi).choose_spec.2.2.2.2.2
 have hbase:=(h.lt g rfl).1
 obtain ⟨fp,hr,_,hbl,_⟩:=ZqC (F:=fun _=>False) h
 rcases hr with ⟨hv,_,_⟩|⟨g',cap,cur,fr,hv,rfl,hh,hfr,_,hle,hmax,hsz,hel⟩
 ·cases hv
 ·injection hv with h1 h2 h3
  injection h1 with h1
  injection h1 with h1
  subst h1 h3
  rw[List.length_map] at hle
  have hjl:=Zae hj
  have hrow:Zfh (w.setCell ⟨g,j * 2,none⟩ (.int .i64 z)) (fun _=>False) true tp 2 ((l.set j ⟨z,p.not_⟩).map Zqm) (.slice (some ⟨g,0,none⟩) (l.set j ⟨z,p.not_⟩).length c) [g]:=by
   refine .inr ⟨g,c,cur.setIfInBounds (j * 2) (.int .i64 z),fr,by rw[List.length_map],rfl, ?_,hfr,by rw[hfr rfl];exact .inl (Nat.le_refl _),by simpa using hle,hmax,by simpa using hsz,fun i x hx=> ?_⟩
   ·simp[World.setCell,Array.getElem?_modify,hh]
   ·rw [List.getElem?_map,Option.map_eq_some_iff] at hx
    obtain ⟨y,hy,rfl⟩:=hx
    refine ⟨rfl,by simp[Zqm],_,pinVR y,fun q v hq=> ?_⟩
    have hq2:q<2:=by
     have:=(Array.getElem?_eq_some_iff.1 hq).1
     simpa[Value.cells] using this
    by_cases hij:i=j
    ·subst hij
     rw[List.getElem?_set_self hjl] at hy
     cases hy
     match q,hq2 with
     | 0,_=>
      simp[Value.cells] at hq
      subst hq
      rw[Nat.add_zero,Array.getElem?_setIfInBounds_self_of_lt (by omega)]
     | 1,_=>
      simp[Value.cells] at hq
      subst hq
      rw[Array.getElem?_setIfInBounds_ne (by omega)]
      obtain ⟨_,_,u,hu,hc⟩:=hel i (Zqm p) (by rw[List.getElem?_map,hj];rfl)
      obtain ⟨a,b,rfl,a1,a2⟩:=ZqT hu
      cases a1;cases a2
      exact hc 1 _ rfl
    ·rw[List.getElem?_set_ne (fun e=>hij e.symm)] at hy
     obtain ⟨_,_,u,hu,hc⟩:=hel i (Zqm y) (by rw[List.getElem?_map,hy];rfl)
     obtain ⟨a,b,rfl,a1,a2⟩:=ZqT hu
     cases a1;cases a2
     rw[Array.getElem?_setIfInBounds_ne (by omega)]
     exact hc q v hq
  obtain ⟨A',c',hv',ho⟩:=Zoi (S:=Zbr) (f:=Zqm) (base:=base) (fun x hx=>ZqA (by
   rcases List.mem_or_eq_of_mem_set hx with hx|rfl
   ·exact hpin x hx
   ·exact hz)) ((Zr (Zaa (by decide))).2 hrow) (fun b hb=>by rw[List.mem_singleton] at hb;subst hb;exact hbase)
  injection hv' with h1 h2 h3
  subst h1 h3
  exact ho
end
structure WRow (w:World) (base:Nat) (t tp ts:TypeId) (g c:Nat) (l:List Wire) (hs:List WHd):Prop where
 ge:base≤g
 row:∃L:List Value,w.heap[g]?=some (.cells L.toArray t (0,0))∧L.length=c * 4∧∀(i:Nat) (x:Wire) (h:WHd),l[i]?=some x→hs[i]?=some h→∀(q:Nat) (v:Value),(h.cells x)[q]?=some v→L[i * 4+q]?=some v
 cap:l.length≤c∧c≤maxLen
 len:hs.length=l.length
 ins:∀(i:Nat) (x:Wire) (h:WHd),l[i]?=some x→hs[i]?=some h→Own Zbr w base tp h.A h.c x.ins
 cov:∀(i:Nat) (x:Wire) (h:WHd),l[i]?=some x→hs[i]?=some h→Own ZB w base ts h.B h.d x.cover
 out:∀(i:Nat) (h:WHd) (b:Nat),hs[i]?=some h→h.has b→b≠g
 dj1:∀(i:Nat) (h:WHd) (b:Nat),hs[i]?=some h→blk h.A=some b→blk h.B=some b→False
 dj2:∀(i j:Nat) (h h':WHd) (b:Nat),i≠j→hs[i]?=some h→hs[j]?=some h'→h.has b→h'.has b→False
def gB (g:Nat) (hs:List WHd) (b:Nat):Prop:=b=g∨∃(i:Nat) (h:WHd),hs[i]?=some h∧h.has b
section
variable {w w':World} {F:Nat→Prop} {base:Nat} {t tp ts:TypeId} {g c:Nat} {l:List Wire} {hs:List WHd}
theorem WRow.hd (ho:WRow w base t tp ts g c l hs) {i:Nat} {x:Wire} (hx:l[i]?=some x):∃h,hs[i]?=some h:=ZV (by rw[ho.len];exact Zae hx)
theorem WRow.el (ho:WRow w base t tp ts g c l hs) {i:Nat} {h:WHd} (hh:hs[i]?=some h):∃x,l[i]?=some x:=ZV (by rw[←ho.len];exact Zae hh)
theorem WRow.glt (ho:WRow w base t tp ts g c l hs):g<w.heap.size:=by
 obtain ⟨L,h1,_⟩:=ho.row
 exact (Array.getElem?_eq_some_iff.1 h1).1
theorem WRow.lt (ho:WRow w base t tp ts g c l hs) {b:Nat} (hb:gB g hs b):base≤b∧b<w.heap.size:=by
 rcases hb with rfl|⟨i,h,hh,hb⟩
 ·exact ⟨ho.ge,ho.glt⟩
 ·obtain ⟨x,hx⟩:=ho.el hh
  rcases hb with hb|hb
  ·exact (ho.ins i x h hx hh).lt b hb
  ·exact (ho.cov i x h hx hh).lt b hb
theorem WRow.keep (ho:WRow w base t tp ts g c l hs) (hk:∀b,gB g hs b→w'.heap[b]?=w.heap[b]?):WRow w' base t tp ts g c l hs:=by
 obtain ⟨L,h1,h2,h3⟩:=ho.row
 exact ⟨ho.ge,⟨L,(hk g (.inl rfl)).trans h1,h2,h3⟩,ho.cap,ho.len,fun i x h hx hh=>(ho.ins i x h hx hh).keep fun k hk'=>hk k (.inr ⟨i,h,hh,.inl hk'⟩),fun i x h hx hh=>(ho.cov i x h hx hh).keep fun k hk'=>hk k (.inr ⟨i,h,hh,.inr hk'⟩),ho.out,ho.dj1,ho.dj2⟩
theorem WRow.to (ho:WRow w base t tp ts g c l hs) (hb:Below w.heap.size w w'):WRow w' base t tp ts g c l hs:=ho.keep fun b h=>hb.block b (ho.lt h).2
theorem WRow.lower {B:Nat} (ho:WRow w base t tp ts g c l hs) (hB:B≤base):WRow w B t tp ts g c l hs:=
 ⟨Nat.le_trans hB ho.ge,ho.row,ho.cap,ho.len,fun i x h hx hh=>(ho.ins i x h hx hh).lower hB,fun i x h hx hh=>(ho.cov i x h hx hh).lower hB,ho.out,ho.dj1,ho.dj2⟩
theorem WRow.past (ho:WRow w base t tp ts g c l hs) {p:Addr} (hp:p.block<base) (v:Value):WRow (w.setCell p v) base t tp ts g c l hs:=
 ho.keep fun b h=>Below.heap_setCell _ _ _ _ (fun e=>by have:=(ho.lt h).1;omega)
theorem WRow.cell (ho:WRow w base t tp ts g c l hs) {i:Nat} {x:Wire} {h:WHd} (hx:l[i]?=some x) (hh:hs[i]?=some h) {q:Nat} {v:Value} (hv:(h.cells x)[q]?=some v):w.cell? ⟨g,i * 4+q,none⟩=some v:=by
 obtain ⟨L,h1,h2,h3⟩:=ho.row
 have:=h3 i x h hx hh q v hv
 simp[World.cell?,h1,this]
theorem WRow.frozen (ho:WRow w base t tp ts g c l hs) (o:Nat):w.frozen? ⟨g,o,none⟩=false:=by
 obtain ⟨L,h1,h2,h3⟩:=ho.row
 simp[World.frozen?,h1]
theorem Zqo {α:Type} {l:List α} {k i:Nat} {x y:α} (h:(l.set k y)[i]?=some x):(i=k∧x=y)∨(i≠k∧l[i]?=some x):=by
 by_cases hik:i=k
 ·subst hik
  left
  have hl:i<l.length:=by
   have:=Zae h
   simpa using this
  rw[List.getElem?_set_self hl] at h
  exact ⟨rfl,(Option.some.inj h).symm⟩
 ·right
  rw[List.getElem?_set_ne (fun e=>hik e.symm)] at h
  exact ⟨hik,h⟩
theorem WRow.pin (ho:WRow w base t tp ts g c l hs) {i:Nat} {x:Wire} {h:WHd} (hx:l[i]?=some x) (hh:hs[i]?=some h) {gi:Nat} (hA:h.A=some ⟨gi,0,none⟩) {j:Nat} {p:Pin} (hj:x.ins[j]?=some p) {z:Int} (hz:InI z):
 WRow (w.setCell ⟨gi,j * 2,none⟩ (.int .i64 z)) base t tp ts g c (l.set i {x with ins:=x.ins.set j ⟨z,p.not_⟩}) hs:=by
 have hgi:h.has gi:=.inl (by rw[hA];rfl)
 have hold:∀b,b≠gi→(w.setCell ⟨gi,j * 2,none⟩ (.int .i64 z)).heap[b]?=w.heap[b]?:=fun b hb=>Below.heap_setCell _ _ _ _ (fun e=>hb (by simpa using e))
 obtain ⟨L,h1,h2,h3⟩:=ho.row
 refine ⟨ho.ge,⟨L,(hold g (fun e=>ho.out i h gi hh hgi e.symm)).trans h1,h2,fun i' x' h' hx' hh' q v hv=> ?_⟩,by rw[List.length_set];exact ho.cap,by rw[List.length_set];exact ho.len,fun i' x' h' hx' hh'=> ?_,fun i' x' h' hx' hh'=> ?_,ho.out,ho.dj1,ho.dj2⟩
 ·rcases Zqo hx' with ⟨rfl,rfl⟩|⟨_,hx'⟩
  ·rw[hh] at hh';cases hh'
   exact h3 i' x h hx hh q v (by simpa[WHd.cells] using hv)
  ·exact h3 i' x' h' hx' hh' q v hv
 ·rcases Zqo hx' with ⟨rfl,rfl⟩|⟨hne,hx'⟩
  ·rw[hh] at hh';cases hh'
   have:=ho.ins i' x h hx hh
   rw[hA] at this⊢
   exact this.pin_put hj hz
  ·exact (ho.ins i' x' h' hx' hh').keep fun b hb=>hold b fun e=>ho.dj2 i' i h' h gi hne hh' hh (.inl (e▸hb)) hgi
 ·rcases Zqo hx' with ⟨rfl,rfl⟩|⟨hne,hx'⟩
  ·rw[hh] at hh';cases hh'
   exact (ho.cov i' x h hx hh).keep fun b hb=>hold b fun e=>ho.dj1 i' h gi hh (by rw[hA];rfl) (e▸hb)
  ·exact (ho.cov i' x' h' hx' hh').keep fun b hb=>hold b fun e=>ho.dj2 i' i h' h gi hne hh' hh (.inr (e▸hb)) hgi
theorem WRow.setIns (ho:WRow w base t tp ts g c l hs) {k:Nat} {x:Wire} {h:WHd} (hx:l[k]?=some x) (hh:hs[k]?=some h) {A:Option Addr} {ca:Nat} {ps:List Pin} (hown:Own Zbr w base tp A ca ps)
 (hap:∀b,blk A=some b→b≠g∧blk h.B≠some b∧∀j h',j≠k→hs[j]?=some h'→¬h'.has b):
 WRow (w.setCell ⟨g,k * 4+2,none⟩ (.slice A ps.length ca)) base t tp ts g c (l.set k {x with ins:=ps}) (hs.set k {h with A:=A,c:=ca}):=by
 obtain ⟨L,h1,h2,h3⟩:=ho.row
 have hkl:=Zae hx
 have hkh:=Zae hh
 have hcap:=ho.cap
 have hold:∀b,b≠g→(w.setCell ⟨g,k * 4+2,none⟩ (.slice A ps.length ca)).heap[b]?=w.heap[b]?:=fun b hb=>Below.heap_setCell _ _ _ _ (fun e=>hb (by simpa using e))
 have hhas:∀{i h' b},(hs.set k {h with A:=A,c:=ca})[i]?=some h'→h'.has b→(i=k∧(blk A=some b∨blk h.B=some b))∨(i≠k∧hs[i]?=some h'∧h'.has b):=fun hi hb=>by
  rcases Zqo hi with ⟨rfl,rfl⟩|⟨hne,hi⟩
  ·exact .inl ⟨rfl,hb⟩
  ·exact .inr ⟨hne,hi,hb⟩
 refine ⟨ho.ge,⟨L.set (k * 4+2) (.slice A ps.length ca),by simp[World.setCell,Array.getElem?_modify,h1],by rw[List.length_set];exact h2,fun i' x' h' hx' hh' q v hv=> ?_⟩,by rw[List.length_set];exact ho.cap,by rw[List.length_set,List.length_set];exact ho.len,fun i' x' h' hx' hh'=> ?_,fun i' x' h' hx' hh'=> ?_,fun i h' b hi hb=> ?_,fun i h' b hi e1 e2=> ?_,fun i j h1' h2' b hij hi hj e1 e2=> ?_⟩
 ·rcases Zqo hx' with ⟨rfl,rfl⟩|⟨hne,hx'⟩
  ·rw[List.getElem?_set_self hkh] at hh';cases hh'
   by_cases hq:q=2
   ·subst hq
    simp[WHd.cells] at hv
    subst hv
    rw[List.getElem?_set_self (by omega)]
   ·rw[List.getElem?_set_ne (by omega)]
    refine h3 i' x h hx hh q v ?_
    match q,hq with
    |0,_=>simpa[WHd.cells] using hv
    |1,_=>simpa[WHd.cells] using hv
    |3,_=>simpa[WHd.cells] using hv
    |q+4,_=>simp[WHd.cells] at hv
  ·rw[List.getElem?_set_ne (fun e=>hne e.symm)] at hh'
   have hq4:q<4:=by
    have:=Zae hv
    simpa[WHd.cells] using this
   rw[List.getElem?_set_ne (by omega)]
   exact h3 i' x' h' hx' hh' q v hv
 ·rcases Zqo hx' with ⟨rfl,rfl⟩|⟨hne,hx'⟩
  ·rw[List.getElem?_set_self hkh] at hh';cases hh'
   exact hown.keep fun b hb=>hold b (hap b hb).1
  ·rw[List.getElem?_set_ne (fun e=>hne e.symm)] at hh'
   exact (ho.ins i' x' h' hx' hh').keep fun b hb=>hold b (ho.out i' h' b hh' (.inl hb))
 ·rcases Zqo hx' with ⟨rfl,rfl⟩|⟨hne,hx'⟩
  ·rw[List.getElem?_set_self hkh] at hh';cases hh'
   exact (ho.cov i' x h hx hh).keep fun b hb=>hold b (ho.out i' h b hh (.inr hb))
  ·rw[List.getElem?_set_ne (fun e=>hne e.symm)] at hh'
   exact (ho.cov i' x' h' hx' hh').keep fun b hb=>hold b (ho.out i' h' b hh' (.inr hb))
 ·rcases hhas hi hb with ⟨_,hb|hb⟩|⟨_,hi,hb⟩
  ·exact (hap b hb).1
  ·exact ho.out k h b hh (.inr hb)
  ·exact ho.out i h' b hi hb
 ·rcases Zqo hi with ⟨rfl,rfl⟩|⟨_,hi⟩
  ·exact (hap b e1).2.1 e2
  ·exact ho.dj1 i h' b hi e1 e2
 ·rcases hhas hi e1 with ⟨ek,hb|hb⟩|⟨hni,hi',hb⟩
  ·rcases hhas hj e2 with ⟨ej,_⟩|⟨hnj,hj',hb2⟩
   ·exact hij (ek.trans ej.symm)
   ·exact (hap b hb).2.2 j h2' hnj hj' hb2
  ·rcases hhas hj e2 with ⟨ej,_⟩|⟨hnj,hj',hb2⟩
   ·exact hij (ek.trans ej.symm)
   ·exact ho.dj2 k j h h2' b (fun e=>hij (ek.trans e)) hh hj' (.inr hb) hb2
  ·rcases hhas hj e2 with ⟨ej,hb2|hb2⟩|⟨hnj,hj',hb2⟩
   ·exact (hap b hb2).2.2 i h1' hni hi' hb
   ·exact ho.dj2 i k h1' h b (fun e=>hij (e.trans ej.symm)) hi' hh hb (.inr hb2)
   ·exact ho.dj2 i j h1' h2' b hij hi' hj' hb hb2
theorem WRow.ofDeep {v:Value} {fp:List Nat} (H:∀x∈l,(∀p∈x.ins,InI p.at_)∧∀s∈x.cover,s.length≤9223372036854775807)
 (hr:Za4 w F t [none,none,some (tp,2),some (ts,1)] (l.map Zql) v fp) (hne:l≠[]) (hn:fp.Nodup) (hb:∀b∈fp,base≤b):∃g c hs,v=.slice (some ⟨g,0,none⟩) l.length c∧WRow w base t tp ts g c l hs∧∀q,gB g hs q→q∈fp:=by
 rcases hr with ⟨rfl,hl,_⟩|⟨g,cap,cur,fpss,rfl,rfl,hh,hle,hmax,hsz,hfl,hel⟩
 ·exact absurd (by simpa using hl) hne
 ·rw [List.length_map] at hle hfl⊢
  obtain ⟨n1,n2⟩:=List.nodup_cons.1 hn
  obtain ⟨hs,h1,h2⟩:=ZqS (P:=fun i x (h:WHd)=>∃lb1 lb2,fpss[i]?=some [[],[],lb1,lb2]∧Own Zbr w base tp h.A h.c x.ins∧Own ZB w base ts h.B h.d x.cover∧(∀q,blk h.A=some q→q∈lb1)∧(∀q,blk h.B=some q→q∈lb2)∧
   ∀(q:Nat) (u:Value),(h.cells x)[q]?=some u→cur[i * 4+q]?=some u) l fun i x hx=>by
   obtain ⟨u,fps,k1,k2,k3⟩:=hel i (Zql x) (by rw[List.getElem?_map,hx];rfl)
   have hin:∀b∈fps.flatten,base≤b:=fun b hb'=>hb b (List.mem_cons_of_mem _ (Zft k1 hb'))
   have hx':=H x (List.mem_of_getElem? hx)
   rcases k2 with ⟨xs,cs,e1,e2,e3⟩|⟨e1,_⟩
   case inr=>cases e1
   cases e1
   obtain ⟨cl⟩:=cs
   subst e2
   dsimp only at e3
   cases e3 with
   | val v0 _ e3=>
    cases e3 with
    | val v1 _ e3=>
     cases e3 with
     | row r1 e3=>
      cases e3 with
      | row r2 e3=>
       cases e3
       cases v0
       cases v1
       obtain ⟨A,c,rfl,o1,q1⟩:=Zfk (S:=Zbr) (f:=Zqm) (base:=base) (fun p hp=>ZqA (hx'.1 p hp)) ((Zr (Zaa (by decide))).2 r1) (fun b hb'=>hin b (by simp[hb']))
       obtain ⟨B,d,rfl,o2,q2⟩:=Zfk (S:=ZB) (f:=PV.str) (base:=base) (fun p hp=>Zrf (hx'.2 p hp)) ((Zr (Zaa (by decide))).2 r2) (fun b hb'=>hin b (by simp[hb']))
       exact ⟨⟨A,c,B,d⟩,_,_,k1,o1,o2,q1,q2,fun q u hu=>k3 q u (by simpa[Value.cells,WHd.cells] using hu)⟩
  have hd:∀(i:Nat) (h:WHd),hs[i]?=some h→∃x lb1 lb2,l[i]?=some x∧fpss[i]?=some [[],[],lb1,lb2]∧(∀q,blk h.A=some q→q∈lb1)∧(∀q,blk h.B=some q→q∈lb2):=fun i h hi=>by
   obtain ⟨x,hx⟩:=ZV (l:=l) (k:=i) (by have:=Zae hi;omega)
   obtain ⟨lb1,lb2,p1,_,_,p4,p5,_⟩:=h2 i x h hx hi
   exact ⟨x,lb1,lb2,hx,p1,p4,p5⟩
  have hfl1:∀(i:Nat) (fps:List (List Nat)),fpss[i]?=some fps→(fpss.map List.flatten)[i]?=some fps.flatten:=fun i fps h=>by rw[List.getElem?_map,h];rfl
  have hhas:∀(i:Nat) (h:WHd) (b:Nat),hs[i]?=some h→h.has b→∃fps,fpss[i]?=some fps∧b∈fps.flatten:=fun i h b hi hb'=>by
   obtain ⟨x,lb1,lb2,_,p1,p4,p5⟩:=hd i h hi
   refine ⟨_,p1, ?_⟩
   rcases hb' with hb'|hb'
   ·simp[p4 b hb']
   ·simp[p5 b hb']
  have hin:∀(i:Nat) (h:WHd) (b:Nat),hs[i]?=some h→h.has b→b∈(fpss.map List.flatten).flatten:=fun i h b hi hb'=>by
   obtain ⟨fps,p1,p2⟩:=hhas i h b hi hb'
   exact Zft p1 p2
  refine ⟨g,cap,hs,rfl,⟨hb g (by simp),⟨cur.toList,by simpa using hh,by simpa using hsz,fun i x h hx hi q u hu=> ?_⟩,⟨hle,hmax⟩,h1,fun i x h hx hi=> ?_,fun i x h hx hi=> ?_,fun i h b hi hb' hg=> ?_,fun i h b hi e1 e2=> ?_,fun i j h h' b hij hi hj e1 e2=> ?_⟩,fun q hq=> ?_⟩
  ·obtain ⟨_,_,_,_,_,_,_,p6⟩:=h2 i x h hx hi
   rw[Array.getElem?_toList]
   exact p6 q u hu
  ·obtain ⟨_,_,_,p2,_⟩:=h2 i x h hx hi
   exact p2
  ·obtain ⟨_,_,_,_,p3,_⟩:=h2 i x h hx hi
   exact p3
  ·subst hg
   exact n1 (hin i h b hi hb')
  ·obtain ⟨x,lb1,lb2,_,p1,p4,p5⟩:=hd i h hi
   have hnd:=Zre n2 (hfl1 i _ p1)
   simp only[List.flatten_cons,List.flatten_nil,List.nil_append,List.append_nil] at hnd
   exact (List.nodup_append.1 hnd).2.2 b (p4 b e1) b (p5 b e2) rfl
  ·obtain ⟨f1,p1,p2⟩:=hhas i h b hi e1
   obtain ⟨f2,p3,p4⟩:=hhas j h' b hj e2
   exact Zra n2 hij (hfl1 i _ p1) (hfl1 j _ p3) p2 p4
  ·rcases hq with rfl|⟨i,h,hi,hq⟩
   ·exact List.mem_cons_self
   ·exact List.mem_cons_of_mem _ (hin i h q hi hq)
theorem WRow.deep (ho:WRow w base t tp ts g c l hs):∃fp,Za4 w F t [none,none,some (tp,2),some (ts,1)] (l.map Zql) (.slice (some ⟨g,0,none⟩) l.length c) fp∧fp.Nodup∧∀b∈fp,gB g hs b:=by
 obtain ⟨L,r1,r2,r3⟩:=ho.row
 obtain ⟨fpss,h1,h2⟩:=ZqS (P:=fun i x (fps:List (List Nat))=>∃h fp1 fp2,hs[i]?=some h∧fps=[[],[],fp1,fp2]∧Zfh w F true tp 2 (x.ins.map Zqm) (.slice h.A x.ins.length h.c) fp1∧Zfh w F true ts 1 (x.cover.map PV.str) (.slice h.B x.cover.length h.d) fp2∧fp1.Nodup∧fp2.Nodup∧(∀b,b∈fp1↔blk h.A=some b)∧(∀b,b∈fp2↔blk h.B=some b)) l fun i x hx=>by
  obtain ⟨h,hh⟩:=ho.hd hx
  obtain ⟨fp1,a1,a2,a3,_⟩:=ZqC (F:=F) (ho.ins i x h hx hh)
  obtain ⟨fp2,b1,b2,b3,_⟩:=Ztf (F:=F) (ho.cov i x h hx hh)
  exact ⟨_,h,fp1,fp2,hh,rfl,a1,b1,a2,b2,a3,b3⟩
 have hmem:∀(i:Nat) (fps:List (List Nat)),fpss[i]?=some fps→∃h,hs[i]?=some h∧fps.flatten.Nodup∧∀b∈fps.flatten,h.has b:=fun i fps hi=>by
  obtain ⟨x,hx⟩:=ZV (l:=l) (k:=i) (by have:=Zae hi;omega)
  obtain ⟨h,fp1,fp2,hh,rfl,_,_,n1,n2,m1,m2⟩:=h2 i x fps hx hi
  refine ⟨h,hh, ?_,fun b hb=> ?_⟩
  ·simp only[List.flatten_cons,List.flatten_nil,List.nil_append,List.append_nil]
   exact List.nodup_append.2 ⟨n1,n2,fun a ha b hb e=>by subst e;exact ho.dj1 i h a hh ((m1 a).1 ha) ((m2 a).1 hb)⟩
  ·simp only[List.flatten_cons,List.flatten_nil,List.nil_append,List.append_nil,List.mem_append] at hb
   rcases hb with hb|hb
   ·exact .inl ((m1 b).1 hb)
   ·exact .inr ((m2 b).1 hb)
 refine ⟨g::(fpss.map List.flatten).flatten,.inr ⟨g,c,L.toArray,fpss,by rw[List.length_map],rfl,r1,by rw[List.length_map];exact ho.cap.1,ho.cap.2,by simpa using r2,by rw[List.length_map];exact h1,fun i y hy=> ?_⟩,List.nodup_cons.2 ⟨fun hg=> ?_, ?_⟩,fun b hb=> ?_⟩
 ·rw[List.getElem?_map,Option.map_eq_some_iff] at hy
  obtain ⟨x,hx,rfl⟩:=hy
  obtain ⟨fps,hf⟩:=ZV (l:=fpss) (k:=i) (by have:=Zae hx;omega)
  obtain ⟨h,fp1,fp2,hh,rfl,a1,b1,_⟩:=h2 i x fps hx hf
  refine ⟨.agg #[.string ⟨x.name.toArray⟩,.int .i64 x.kind,.slice h.A x.ins.length h.c,.slice h.B x.cover.length h.d],_,hf,.inl ⟨_,_,rfl,rfl,.val (.str _) rfl (.val (.int _ _) rfl (.row a1 (.row b1 .nil)))⟩,fun q u hu=> ?_⟩
  have:=r3 i x h hx hh q u (by simpa[Value.cells,WHd.cells] using hu)
  simpa using this
 ·obtain ⟨l',hl',hg'⟩:=List.mem_flatten.1 hg
  obtain ⟨fps,hf,rfl⟩:=List.mem_map.1 hl'
  obtain ⟨i,hi⟩:=List.getElem?_of_mem hf
  obtain ⟨h,hh,_,hb⟩:=hmem i fps hi
  exact ho.out i h g hh (hb g hg') rfl
 ·refine List.pairwise_flatten.2 ⟨fun l' hl'=> ?_, ?_⟩
  ·obtain ⟨fps,hf,rfl⟩:=List.mem_map.1 hl'
   obtain ⟨i,hi⟩:=List.getElem?_of_mem hf
   exact (hmem i fps hi).choose_spec.2.1
  ·rw[List.pairwise_iff_getElem]
   intro i j hi hj hij a ha b hb e
   subst e
   rw[List.length_map] at hi hj
   rw[List.getElem_map] at ha hb
   obtain ⟨h,hh,_,m1⟩:=hmem i _ (List.getElem?_eq_getElem hi)
   obtain ⟨h',hh',_,m2⟩:=hmem j _ (List.getElem?_eq_getElem hj)
   exact ho.dj2 i j h h' a (by omega) hh hh' (m1 a ha) (m2 a hb)
 ·rcases List.mem_cons.1 hb with rfl|hb
  ·exact .inl rfl
  ·obtain ⟨l',hl',hb'⟩:=List.mem_flatten.1 hb
   obtain ⟨fps,hf,rfl⟩:=List.mem_map.1 hl'
   obtain ⟨i,hi⟩:=List.getElem?_of_mem hf
   obtain ⟨h,hh,_,m1⟩:=hmem i fps hi
   exact .inr ⟨i,h,hh,m1 b hb'⟩
theorem Zqt {α:Type} {l:List α} {k i:Nat} {y x:α} (hk:k≤l.length) (h:(l.take k++y::l.drop k)[i]?=some x):(i<k∧l[i]?=some x)∨(i=k∧x=y)∨(k<i∧l[i - 1]?=some x):=by
 rw[List.getElem?_append,List.length_take,Nat.min_eq_left hk] at h
 split at h
 ·rename_i hi
  rw[List.getElem?_take,if_pos hi] at h
  exact .inl ⟨hi,h⟩
 ·rename_i hi
  right
  cases hq:i - k with
  | zero=>
   rw[hq,List.getElem?_cons_zero] at h
   exact .inl ⟨by omega,(Option.some.inj h).symm⟩
  | succ m=>
   rw[hq,List.getElem?_cons_succ,List.getElem?_drop] at h
   exact .inr ⟨by omega,by rwa[show i - 1=k+m by omega]⟩
theorem WRow.insert (ho:WRow w base t tp ts g c l hs) {k:Nat} (hk:k<l.length) {x:Wire} {h:WHd} (hi:Own Zbr w base tp h.A h.c x.ins) (hc:Own ZB w base ts h.B h.d x.cover) (hap:∀b,h.has b→b≠g∧(∀(j:Nat) (h':WHd),hs[j]?=some h'→¬h'.has b)) (hdj:∀b,blk h.A=some b→blk h.B=some b→False)
 {L L':List Value} (hL1:L.length=c * 4) (hL2:∀(i:Nat) (x:Wire) (h:WHd),l[i]?=some x→hs[i]?=some h→∀(q:Nat) (v:Value),(h.cells x)[q]?=some v→L[i * 4+q]?=some v) {g' c':Nat} (hc1:l.length+1≤c') (hc2:c'≤maxLen) (hg:g'=g∨w.heap.size≤g') (hg2:w'.heap[g']?=some (.cells L'.toArray t (0,0))) (hL3:L'.length=c' * 4)
 (hL4:L'.take ((l.length+1) * 4)=L.take (k * 4)++(h.cells x++(L.drop (k * 4)).take ((l.length - k) * 4))) (ht:Touch (fun b=>b=g) w w'):
 WRow w' base t tp ts g' c' (l.take k++x::l.drop k) (hs.take k++h::hs.drop k):=by
 have hlen:(l.take k++x::l.drop k).length=l.length+1:=by simp only[List.length_append,List.length_take,List.length_cons,List.length_drop];omega
 have hkh:k≤hs.length:=by rw[ho.len];omega
 have hcl:∀(h:WHd) (x:Wire),(h.cells x).length=4:=fun h x=>rfl
 have hsz:=ht.size
 have hcap:=ho.cap
 have hglt:=ho.glt
 have hhlt:∀b,h.has b→base≤b∧b<w.heap.size:=fun b hb=>by
  rcases hb with hb|hb
  ·exact hi.lt b hb
  ·exact hc.lt b hb
 have hold:∀(i:Nat) (h':WHd),hs[i]?=some h'→∀b,h'.has b→w'.heap[b]?=w.heap[b]?:=fun i h' hh b hb=>ht.block b (ho.lt (.inr ⟨i,h',hh,hb⟩)).2 (ho.out i h' b hh hb)
 have hnew:∀b,h.has b→w'.heap[b]?=w.heap[b]?:=fun b hb=>ht.block b (hhlt b hb).2 (hap b hb).1
 have hall:∀i h',(hs.take k++h::hs.drop k)[i]?=some h'→(i=k∧h'=h)∨(i≠k∧∃j,(j=if i<k then i else i - 1)∧hs[j]?=some h'):=fun i h' hh=>by
  rcases Zqt hkh hh with ⟨a,b⟩|⟨a,b⟩|⟨a,b⟩
  ·exact .inr ⟨by omega,i,by rw[if_pos a],b⟩
  ·exact .inl ⟨a,b⟩
  ·exact .inr ⟨by omega,i - 1,by rw[if_neg (by omega)],b⟩
 have hboth:∀i x' h',(l.take k++x::l.drop k)[i]?=some x'→(hs.take k++h::hs.drop k)[i]?=some h'→(i=k∧x'=x∧h'=h)∨(i≠k∧∃j,(j=if i<k then i else i - 1)∧l[j]?=some x'∧hs[j]?=some h'):=fun i x' h' hx hh=>by
  rcases Zqt (by omega) hx with ⟨a,b⟩|⟨a,b⟩|⟨a,b⟩
  ·rcases Zqt hkh hh with ⟨_,d⟩|⟨e,_⟩|⟨e,_⟩
   ·exact .inr ⟨by omega,i,by rw[if_pos a],b,d⟩
   ·omega
   ·omega
  ·rcases Zqt hkh hh with ⟨e,d⟩|⟨_,d⟩|⟨e,_⟩
   ·omega
   ·exact .inl ⟨a,b,d⟩
   ·omega
  ·rcases Zqt hkh hh with ⟨e,d⟩|⟨e,_⟩|⟨_,d⟩
   ·omega
   ·omega
   ·exact .inr ⟨by omega,i - 1,by rw[if_neg (by omega)],b,d⟩
 refine ⟨?_,⟨L',hg2,hL3,fun i x' h' hx hh q v hv=> ?_⟩,by rw[hlen];exact ⟨hc1,hc2⟩, ?_,fun i x' h' hx hh=> ?_,fun i x' h' hx hh=> ?_,fun i h' b hh hb=> ?_,fun i h' b hh e1 e2=> ?_,fun i j h1 h2 b hij hi' hj e1 e2=> ?_⟩
 ·rcases hg with rfl|hg
  ·exact ho.ge
  ·have:=(ho.lt (.inl rfl)).1
   omega
 ·have hq4:q<4:=by have:=Zae hv;rw[hcl] at this;exact this
  have hin:i<l.length+1:=by have:=Zae hx;rw[hlen] at this;exact this
  have e0:L'[i * 4+q]?=(L'.take ((l.length+1) * 4))[i * 4+q]?:=by rw[List.getElem?_take,if_pos (by omega)]
  have hTl:(L.take (k * 4)).length=k * 4:=by rw[List.length_take];omega
  rw[e0,hL4,List.getElem?_append,hTl]
  rcases hboth i x' h' hx hh with ⟨rfl,rfl,rfl⟩|⟨hne,j,hj,b,d⟩
  ·rw[if_neg (by omega),show i * 4+q - i * 4=q by omega,List.getElem?_append_left (by rw[hcl];exact hq4)]
   exact hv
  ·have h3:=hL2 j x' h' b d q v hv
   by_cases hik:i<k
   ·rw[if_pos hik] at hj
    subst hj
    rw[if_pos (by omega),List.getElem?_take,if_pos (by omega)]
    exact h3
   ·rw[if_neg hik] at hj
    subst hj
    rw[if_neg (by omega),List.getElem?_append_right (by rw[hcl];omega),hcl,List.getElem?_take,if_pos (by omega),List.getElem?_drop,show k * 4+(i * 4+q - k * 4 - 4)=(i - 1) * 4+q by omega]
    exact h3
 ·simp only[List.length_append,List.length_take,List.length_cons,List.length_drop,ho.len]
 ·rcases hboth i x' h' hx hh with ⟨_,rfl,rfl⟩|⟨_,j,_,b,d⟩
  ·exact hi.keep fun q hq=>hnew q (.inl hq)
  ·exact (ho.ins j x' h' b d).keep fun q hq=>hold j h' d q (.inl hq)
 ·rcases hboth i x' h' hx hh with ⟨_,rfl,rfl⟩|⟨_,j,_,b,d⟩
  ·exact hc.keep fun q hq=>hnew q (.inr hq)
  ·exact (ho.cov j x' h' b d).keep fun q hq=>hold j h' d q (.inr hq)
 ·have h1:b≠g∧b<w.heap.size:=by
   rcases hall i h' hh with ⟨_,rfl⟩|⟨_,j,_,d⟩
   ·exact ⟨(hap b hb).1,(hhlt b hb).2⟩
   ·exact ⟨ho.out j h' b d hb,(ho.lt (.inr ⟨j,h',d,hb⟩)).2⟩
  rcases hg with rfl|hg
  ·exact h1.1
  ·omega
 ·rcases hall i h' hh with ⟨_,rfl⟩|⟨_,j,_,d⟩
  ·exact hdj b e1 e2
  ·exact ho.dj1 j h' b d e1 e2
 ·rcases hall i h1 hi' with ⟨r1,rfl⟩|⟨n1,p,hp,d⟩
  ·rcases hall j h2 hj with ⟨r2,_⟩|⟨n2,p',hp',d'⟩
   ·exact hij (r1.trans r2.symm)
   ·exact (hap b e1).2 p' h2 d' e2
  ·rcases hall j h2 hj with ⟨r2,rfl⟩|⟨n2,p',hp',d'⟩
   ·exact (hap b e2).2 p h1 d e1
   ·refine ho.dj2 p p' h1 h2 b (fun e=> ?_) d d' e1 e2
    rw[hp,hp'] at e
    split at e<;>split at e<;>omega
theorem WRow.one (ho:WRow w base t tp ts g c l hs) {L:List Value} (hL:∀(i:Nat) (x:Wire) (h:WHd),l[i]?=some x→hs[i]?=some h→∀(q:Nat) (v:Value),(h.cells x)[q]?=some v→L[i * 4+q]?=some v):∀v∈L.take (l.length * 4),v.oneCell'=true:=fun v hv=>by
 obtain ⟨i,hi⟩:=List.getElem?_of_mem hv
 rw[List.getElem?_take] at hi
 split at hi
 case isFalse=>cases hi
 rename_i hil
 obtain ⟨x,hx⟩:=ZV (l:=l) (k:=i / 4) (by omega)
 obtain ⟨h,hh⟩:=ho.hd hx
 have hq:i % 4<4:=by omega
 obtain ⟨u,hu⟩:∃u,(h.cells x)[i % 4]?=some u:=ZV (l:=h.cells x) hq
 have h1:=hL _ x h hx hh _ u hu
 rw[show i / 4 * 4+i % 4=i by omega,hi] at h1
 cases h1
 match hq':i % 4,hq with
 |0,_=>rw[hq'] at hu;simp[WHd.cells] at hu;subst hu;rfl
 |1,_=>rw[hq'] at hu;simp[WHd.cells] at hu;subst hu;rfl
 |2,_=>rw[hq'] at hu;simp[WHd.cells] at hu;subst hu;rfl
 |3,_=>rw[hq'] at hu;simp[WHd.cells] at hu;subst hu;rfl
theorem Zt1 {a b:PV} {u v:Value} (ha:a.one=true) (hb:b.one=true) (h1:VR w F a u) (h2:VR w F b v):VR w F (.agg [a,b]) (.agg #[u,v]):=by
 refine VR.of_cells rfl fun i y hy=> ?_
 match i with
 |0=>simp at hy;subst hy;exact ⟨ha,h1⟩
 |1=>simp at hy;subst hy;exact ⟨hb,h2⟩
 |i+2=>simp at hy
theorem vr_net {base2:Nat} {tS:TypeId} {As:Option Addr} {cs:Nat} {sg:List Sig} (hS:Own Z1 w base2 tS As cs sg) (ho:WRow w base t tp ts g c l hs):VR w (fun b=>b<w.heap.size) (.agg [.lst (sg.map Zqn),.lst (l.map Zql)]) (.agg #[.slice As sg.length cs,.slice (some ⟨g,0,none⟩) l.length c]):=by
 obtain ⟨f1,a1,_,_,a4⟩:=Ztd (F:=fun _=>False) hS
 obtain ⟨f2,b1,_,b3⟩:=ho.deep (F:=fun _=>False)
 exact Zt1 rfl rfl (a1.vr (fun b hb=>(a4 b hb).2) (fun _ h=>h.elim)) (b1.vr (fun b hb=>(ho.lt (b3 b hb)).2) (fun _ h=>h.elim))
end
end Go.Proofs.YtjjobbamoeaogaaDoor
