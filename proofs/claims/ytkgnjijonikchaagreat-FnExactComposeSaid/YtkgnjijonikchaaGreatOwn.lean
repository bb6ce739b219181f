import Derived.Test.YtkgnjijonikchaaGreatJoin
import Derived.Test.YtkgnjijonikchaaGreatBase3
import Derived.Test.YtkgnjijonikchaaGreatMark
namespace Go.Proofs.YtkgnjijonikchaaGreat
open Go.RowKit
set_option linter.unusedVariables false
set_option linter.unusedSimpArgs false
theorem Zrx {β:Type} (s:Nat) (L:List β):∀n,((List.range n).map fun i=>(L.drop (i * s)).take s).flatten=L.take (n * s)
 |0=>by simp
 | n+1=>by
  rw[List.range_succ,List.map_append,List.flatten_append,Zrx s L n,Nat.succ_mul,List.take_add]
  simp
def ZfS {α:Type} (S:Sh α) (f:α→PV) (x:α):Prop:=∀(w w':World) (F:Nat→Prop) (u:Value),VR w F (f x) u→S.rep w' (fun _=>False) u.cells.toList x
theorem Zry {α:Type} {S:Sh α} {f:α→PV} {w:World} {F:Nat→Prop} {base:Nat} {e:TypeId} {l:List α} {v:Value} {fp:List Nat} (H:∀x∈l,ZfS S f x)
 (hr:ZbV w F true e S.size (l.map f) v fp) (hb:∀b∈fp,base≤b):∃A c,v=.slice A l.length c∧Own S w base e A c l:=by
 rcases hr with ⟨rfl,hl,_⟩|⟨g,cap,cur,fr,rfl,rfl,hh,hfr,_,hle,hmax,hsz,hel⟩
 ·obtain rfl:l=[]:=by simpa using hl
  exact ⟨none,0,rfl,Own.nil_⟩
 ·have hle':l.length≤cap:=by simpa using hle
  refine ⟨some ⟨g,0,none⟩,cap,by simp,(List.range l.length).map fun i=>(cur.toList.drop (i * S.size)).take S.size,⟨?_,.inr ⟨g,cap,cur,by simp,hb g (by simp),by rw[hh,hfr rfl],hle',hmax,hsz, ?_⟩⟩,by simp, ?_⟩
  ·rw[Zrx,List.length_take]
   simp only[Array.length_toList,hsz]
   exact Nat.min_eq_left (Nat.mul_le_mul_right _ hle')
  ·rw[Zrx]
  ·intro k x cs hk hcs
   have hkl:k<l.length:=(List.getElem?_eq_some_iff.1 hk).1
   obtain ⟨h1,h2,u,h3,h4⟩:=hel k (f x) (by rw[List.getElem?_map,hk];rfl)
   have hrep:=H x (List.mem_of_getElem? hk) w w F u h3
   have hlen:=S.len hrep
   have:cs=u.cells.toList:=by
    rw[List.getElem?_map,List.getElem?_range hkl] at hcs
    simp only[Option.map_some,Option.some.injEq] at hcs
    subst hcs
    have hroom:(k+1) * S.size≤cur.size:=by rw[hsz];exact Nat.mul_le_mul_right _ (by omega)
    rw[Nat.succ_mul] at hroom
    apply List.ext_getElem?
    intro j
    by_cases hj:j<S.size
    ·rw[List.getElem?_take_of_lt hj,List.getElem?_drop]
     have hju:j<u.cells.toList.length:=by rw[hlen];exact hj
     have hu:u.cells[j]?=some (u.cells.toList[j]):=by simp[←Array.getElem?_toList,List.getElem?_eq_getElem hju]
     have:=h4 j _ hu
     rw[Array.getElem?_toList,this,List.getElem?_eq_getElem hju]
    ·rw[List.getElem?_eq_none (by rw[List.length_take];omega),List.getElem?_eq_none (by omega)]
   rw[this]
   exact S.keep hrep (fun _ h=>h.elim) (fun _ h=>h)
theorem Zg5 {α:Type} {S:Sh α} {f:α→PV} {w:World} {F:Nat→Prop} {base:Nat} {e:TypeId} {l:List α} {v:Value} {fp:List Nat} (H:∀x∈l,ZfS S f x)
 (hr:ZbV w F true e S.size (l.map f) v fp) (hb:∀b∈fp,base≤b):∃A c,v=.slice A l.length c∧Own S w base e A c l∧∀q,blk A=some q→q∈fp:=by
 obtain ⟨A,c,rfl,ho⟩:=Zry H hr hb
 refine ⟨A,c,rfl,ho,fun q hq=> ?_⟩
 rcases hr with ⟨hv,_,_⟩|⟨g,cap,cur,fr,hv,rfl,_⟩
 ·simp only[Value.slice.injEq] at hv
  obtain ⟨rfl,_,_⟩:=hv
  simp[blk] at hq
 ·simp only[Value.slice.injEq] at hv
  obtain ⟨rfl,_,_⟩:=hv
  simp[blk] at hq
  simp[hq]
def ZdJ {α:Type} (S:Sh α) (f:α→PV) (x:α):Prop:=∀(w:World) (D:Nat→Prop) (u:Value),VR w D (f x) u→S.rep w D u.cells.toList x
theorem Zu0 {n:Int} (h:InI n):ZdJ Zx pI n:=fun w D u hu=>by cases hu;exact ⟨rfl,h⟩
theorem ZhS {α:Type} {S:Sh α} {f:α→PV} {l:List α} (H:∀x∈l,ZdJ S f x) {w:World} {D:Nat→Prop} {x:PV} {v:Value} (hx:x=.lst (l.map f)) (h:VR w D x v):
 ∃A c,v=.slice A l.length c∧RSl S w D A l∧l.length≤c∧c≤maxLen:=by
 cases h with
 | lst l0 A c sz vs h1 h2 h3 h4 h5=>
  cases hx
  refine ⟨A,c,by simp,fun hne=> ?_,by simpa using h1,h2⟩
  obtain ⟨b,off,hA,hD,hc⟩:=h3 (by simpa using hne)
  refine ⟨b,off,hA,hD,fun k y hk=> ?_⟩
  have hk':(l.map f)[k]?=some (f y):=by rw[List.getElem?_map,hk];rfl
  have hrep:=H y (List.mem_of_getElem? hk) w D _ (h5 k _ hk')
  have hsz:sz=S.size:=by rw[←(h4 k _ hk').2,←S.len hrep];simp
  refine ⟨(vs k).cells.toList,hrep,fun j u hu=> ?_⟩
  have:=hc k (by rw[List.length_map];exact (List.getElem?_eq_some_iff.1 hk).1) j u (by simpa using hu)
  rw[←hsz]
  exact this
 |_=>cases hx
variable {P :Program}
theorem FnOk.rows3Bool {α β γ:Type} {S:Sh α} {f:α→PV} {S2:Sh β} {f2:β→PV} {S3:Sh γ} {f3:γ→PV} {e:Ent} (he:FnOk P e) {t t2 t3:TypeId} {sz sz2 sz3:Nat} (hrk:e.rk=.tgr [some 3,none] [.own true t sz,.own true t2 sz2,.own true t3 sz3,.val]) (hsz:sz=S.size) (hsz2:sz2=S2.size) (hsz3:sz3=S3.size) {w:World} {xs:List PV} {vs:List Value} {l:List α} {l2:List β} {l3:List γ} {b:Bool}
 (hps:e.ps=List.replicate xs.length (.ck .val)) (hx:VRs w (fun b=>b<w.heap.size) xs vs) (hs:e.spec xs=some (.tup [.agg [.lst (l.map f),.lst (l2.map f2),.lst (l3.map f3)],pB b])) (H:∀x∈l,ZfS S f x) (H2:∀x∈l2,ZfS S2 f2 x) (H3:∀x∈l3,ZfS S3 f3 x) (hg:GOk w (fun b=>b<w.heap.size):=by first|exact gok0|assumption):
 Calls P e.f vs.toArray w fun en w'=>∃A c A2 c2 A3 c3,en=.returned (.tuple #[.agg #[.slice A l.length c,.slice A2 l2.length c2,.slice A3 l3.length c3],.bool b])∧Own S w' w.heap.size t A c l∧Own S2 w' w.heap.size t2 A2 c2 l2∧Own S3 w' w.heap.size t3 A3 c3 l3∧(∀q,blk A=some q→blk A2=some q→False)∧(∀q,blk A=some q→blk A3=some q→False)∧(∀q,blk A2=some q→blk A3=some q→False)∧Below w.heap.size w w':=by
 subst hsz hsz2 hsz3
 refine (he.call w (fun b=>b<w.heap.size) xs vs _ ⟨fun _ h=>h,hg⟩ (by rw[hps];exact Zjj hx) hs).mono ?_
 rintro en w' ⟨v,F',l',rfl,ha,hnd,hsr,hfresh,_⟩
 rw[hrk] at hsr
 obtain ⟨cs,ys,fps,rfl,hy,hsh,hg,hfp⟩:=hsr
 simp only[PV.tup.injEq] at hy
 subst hy
 subst hfp
 obtain ⟨cl⟩:=cs
 dsimp only at hsh hg
 obtain _|⟨u1,_|⟨u2,_|⟨u3,r⟩⟩⟩:=cl
 ·exact hsh.elim
 ·exact hsh.2.elim
 case cons.cons.cons=>exact hsh.2.2.2.elim
 obtain ⟨⟨la,ca,e1,rfl,k1,k2⟩,h1,h2,_⟩:=hsh
 have ev:ZdV [.agg ca,u2]=ca.toList++[u2]:=by
  show ca.toList++(u2.cells.toList++[])=_
  rw[h2];rfl
 rw[ev] at hg
 simp only[Zdv,List.flatMap_cons,List.flatMap_nil,List.append_nil,PV.cells] at hg
 obtain ⟨ca⟩:=ca
 simp only[List.size_toArray] at k2
 dsimp only at hg
 obtain ⟨z1,z2,z3,rfl⟩:∃z1 z2 z3,ca=[z1,z2,z3]:=by
  match ca,k2 with
  |[z1,z2,z3],_=>exact ⟨z1,z2,z3,rfl⟩
 simp only[List.cons_append,List.nil_append] at hg
 cases hg with
 | cons g0 _ tx=>
  cases tx with
  | cons g1 _ tx=>
   cases tx with
   | cons g2 _ tx=>
    cases tx with
    | cons g3 _ tx=>
     cases tx
     obtain ⟨l0,h0,g0⟩:=g0
     cases h0
     obtain ⟨l0,h0,g1⟩:=g1
     cases h0
     obtain ⟨l0,h0,g2⟩:=g2
     cases h0
     obtain ⟨g3,rfl⟩:=g3
     cases g3
     obtain ⟨A,c,rfl,ho,hq⟩:=Zg5 (base:=w.heap.size) H g0 (fun b hb=>(hfresh b (by simp[hb])).1)
     obtain ⟨A2,c2,rfl,ho2,hq2⟩:=Zg5 (base:=w.heap.size) H2 g1 (fun b hb=>(hfresh b (by simp[hb])).1)
     obtain ⟨A3,c3,rfl,ho3,hq3⟩:=Zg5 (base:=w.heap.size) H3 g2 (fun b hb=>(hfresh b (by simp[hb])).1)
     simp only[List.flatten_cons,List.flatten_nil,List.append_nil] at hnd
     have n1:=List.nodup_append.1 hnd
     have n2:=List.nodup_append.1 n1.2.1
     exact ⟨A,c,A2,c2,A3,c3,rfl,ho,ho2,ho3,fun q e1 e2=>n1.2.2 q (hq q e1) q (List.mem_append_left _ (hq2 q e2)) rfl,fun q e1 e2=>n1.2.2 q (hq q e1) q (List.mem_append_right _ (hq3 q e2)) rfl,fun q e1 e2=>n2.2.2 q (hq2 q e1) q (hq3 q e2) rfl,ha.below⟩
end Go.Proofs.YtkgnjijonikchaaGreat
