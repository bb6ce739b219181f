import Derived.Test.YtenddofcogldfaaGreatDoorIr3
import Derived.Test.YtenddofcogldfaaGreatDoorBase
namespace Go.Proofs.YtenddofcogldfaaGreatDoor
open Go.RowKit
set_option linter.unusedVariables false
set_option linter.unusedSimpArgs false
structure EncOk {α:Type} (S:Sh α) (enc:α→List PV):Prop where
 len:∀x,(enc x).length=S.size
 one:∀(x:α) (i:Nat) (p:PV),(enc x)[i]?=some p→p.one=true
 vr:∀{w:World} {D:Nat→Prop} {cs:List Value} {x:α},S.rep w D cs x→∀(i:Nat) (p:PV) (c:Value),(enc x)[i]?=some p→cs[i]?=some c→VR w D p c
theorem ZiF :EncOk ZB (fun n=>[pI n]) where
 len:=fun _=>rfl
 one:=fun x i p h=>by cases i<;>simp at h;subst h;rfl
 vr:=fun h i p c hp hc=>by
  rw[h.1] at hc
  cases i<;>simp at hp hc
  subst hp hc
  exact .int _ _
theorem ZsY :EncOk Zhp (fun b=>[pB b]) where
 len:=fun _=>rfl
 one:=fun x i p h=>by cases i<;>simp at h;subst h;rfl
 vr:=fun h i p c hp hc=>by
  rw[h] at hc
  cases i<;>simp at hp hc
  subst hp hc
  exact .bool _
theorem Zoc :EncOk Zn (fun s=>[.str s]) where
 len:=fun _=>rfl
 one:=fun x i p h=>by cases i<;>simp at h;subst h;rfl
 vr:=fun h i p c hp hc=>by
  rw[h.1] at hc
  cases i<;>simp at hp hc
  subst hp hc
  exact .str _
theorem Zfx {α β:Type} {S:Sh α} {T:Sh β} {f:α→List PV} {g:β→List PV} (hf:EncOk S f) (hg:EncOk T g):EncOk (ZJ S T) (fun x=>f x.1++g x.2) where
 len:=fun x=>by rw[List.length_append,hf.len,hg.len];rfl
 one:=fun x i p h=>by
  rw[List.getElem?_append] at h
  split at h
  ·exact hf.one _ _ _ h
  ·exact hg.one _ _ _ h
 vr :=fun {w D cs x} h i p c hp hc=>by
  obtain ⟨c1,c2,rfl,h1,h2⟩:=h
  have e1:c1.length=(f x.1).length:=by rw[S.len h1,hf.len]
  rw[List.getElem?_append] at hp hc
  rw[e1] at hc
  split at hp
  ·rename_i hi
   rw[if_pos hi] at hc
   exact hf.vr h1 _ _ _ hp hc
  ·rename_i hi
   rw[if_neg hi] at hc
   exact hg.vr h2 _ _ _ hp hc
theorem Zlr {α β:Type} {S:Sh β} {v:α→β} {f:β→List PV} (hf:EncOk S f):EncOk (Sh.via S v) (fun x=>f (v x)) where
 len:=fun x=>hf.len _
 one:=fun x=>hf.one _
 vr:=fun h=>hf.vr h
theorem RSl.pick {α:Type} {S:Sh α} {w:World} {D:Nat→Prop} {A:Option Addr} {l:List α} (h:RSl S w D A l) (hn:l≠[]):
 ∃(b off:Nat) (cs:Nat→List Value),A=some ⟨b,off,none⟩∧D b∧∀k x,l[k]?=some x→S.rep w D (cs k) x∧∀j v,(cs k)[j]?=some v→w.cell? ⟨b,off+k * S.size+j,none⟩=some v:=by
 obtain ⟨b,off,hA,hD,hk⟩:=h hn
 have hex:∀k,∃cs:List Value,∀x,l[k]?=some x→S.rep w D cs x∧∀j v,cs[j]?=some v→w.cell? ⟨b,off+k * S.size+j,none⟩=some v:=by
  intro k
  cases hx:l[k]? with
  |none=>exact ⟨[],fun x h=>by cases h⟩
  | some x=>
   obtain ⟨cs,h1,h2⟩:=hk k x hx
   exact ⟨cs,fun y hy=>by cases hy;exact ⟨h1,h2⟩⟩
 exact ⟨b,off,fun k=>(hex k).choose,hA,hD,fun k=>(hex k).choose_spec⟩
theorem rowAgg {α:Type} {S:Sh α} {f:α→List PV} (hf:EncOk S f) {w:World} {D:Nat→Prop} {A:Option Addr} {l:List α} {c:Nat} (h:RSl S w D A l) (h1:l.length≤c) (h2:c≤9223372036854775807):VR w D (.lst (l.map fun x=>.agg (f x))) (.slice A l.length c):=by
 rw[show l.length=(l.map fun x=>PV.agg (f x)).length by simp]
 by_cases hn:l=[]
 ·subst hn
  exact .lst _ A c S.size (fun _=>Go.undef) (by simp) h2 (by simp) (by simp) (by simp)
 ·obtain ⟨b,off,cs,hA,hD,hk⟩:=h.pick hn
  refine .lst _ A c S.size (fun i=>.agg (cs i).toArray) (by simpa using h1) h2 (fun _=>⟨b,off,hA,hD,fun i hi j u hu=> ?_⟩) (fun i x hx=> ?_) (fun i x hx=> ?_)
  ·have hi':i<l.length:=by simpa using hi
   exact (hk i _ (List.getElem?_eq_getElem hi')).2 j u (by simpa[Value.cells] using hu)
  ·rw[List.getElem?_map] at hx
   obtain ⟨y,hy,rfl⟩:=Option.map_eq_some_iff.1 hx
   exact ⟨hf.len y,by have:=S.len (hk i y hy).1;simpa[Value.cells] using this⟩
  ·rw[List.getElem?_map] at hx
   obtain ⟨y,hy,rfl⟩:=Option.map_eq_some_iff.1 hx
   have hr:=(hk i y hy).1
   have hl:(f y).length=(cs i).length:=by rw[hf.len,S.len hr]
   refine .agg _ _ (by simpa using hl) (fun j p hp=>hf.one y j p hp) (fun j p hp=> ?_)
   have hj:j<(cs i).length:=by rw[←hl];exact (List.getElem?_eq_some_iff.1 hp).1
   have hc:(cs i)[j]?=some ((cs i)[j]):=List.getElem?_eq_getElem hj
   have e:(cs i).toArray.getD j Go.undef=(cs i)[j]:=by simp[Array.getD_eq_getD_getElem?,hj]
   rw[e]
   exact hf.vr hr j p _ hp hc
theorem VR.cells_one {w:World} {D:Nat→Prop} {x:PV} {v:Value} (h:VR w D x v) (ho:x.one=true):v.cells= #[v]∧x.width=1:=by
 cases h<;>first|exact ⟨rfl,rfl⟩|exact absurd ho (by simp[PV.one])
theorem Zod {α:Type} {S:Sh α} {e:α→PV} (hf:EncOk S (fun x=>[e x])) (hs:S.size=1) {w:World} {D:Nat→Prop} {A:Option Addr} {l:List α} {c:Nat} (h:RSl S w D A l) (h1:l.length≤c) (h2:c≤9223372036854775807):VR w D (.lst (l.map e)) (.slice A l.length c):=by
 rw[show l.length=(l.map e).length by simp]
 by_cases hn:l=[]
 ·subst hn
  exact .lst _ A c S.size (fun _=>Go.undef) (by simp) h2 (by simp) (by simp) (by simp)
 ·obtain ⟨b,off,cs,hA,hD,hk⟩:=h.pick hn
  have key:∀(i:Nat) (y:α),l[i]?=some y→∃v,(cs i)[0]?=some v∧(cs i).headD Go.undef=v∧VR w D (e y) v∧v.cells= #[v]∧(e y).width=1:=fun i y hy=>by
   have hr:=(hk i y hy).1
   have hl:(cs i).length=1:=by rw[S.len hr,hs]
   obtain ⟨v,hv⟩:∃v,cs i=[v]:=List.length_eq_one_iff.1 hl
   have hvr:=hf.vr hr 0 (e y) v rfl (by rw[hv];rfl)
   have hc:=hvr.cells_one (hf.one y 0 _ rfl)
   exact ⟨v,by rw[hv];rfl,by rw[hv];rfl,hvr,hc⟩
  refine .lst _ A c S.size (fun i=>(cs i).headD Go.undef) (by simpa using h1) h2 (fun _=>⟨b,off,hA,hD,fun i hi j u hu=> ?_⟩) (fun i x hx=> ?_) (fun i x hx=> ?_)
  ·have hi':i<l.length:=by simpa using hi
   obtain ⟨v,e1,e2,e3,e4,e5⟩:=key i _ (List.getElem?_eq_getElem hi')
   try dsimp only at hu
   rw[e2,e4] at hu
   cases j with
   |zero=>simp at hu;subst hu;exact (hk i _ (List.getElem?_eq_getElem hi')).2 0 v e1
   |succ j=>simp at hu
  ·rw[List.getElem?_map] at hx
   obtain ⟨y,hy,rfl⟩:=Option.map_eq_some_iff.1 hx
   obtain ⟨v,e1,e2,e3,e4,e5⟩:=key i y hy
   try dsimp only
   rw[e2,e4,e5,hs]
   exact ⟨rfl,rfl⟩
  ·rw[List.getElem?_map] at hx
   obtain ⟨y,hy,rfl⟩:=Option.map_eq_some_iff.1 hx
   obtain ⟨v,e1,e2,e3,e4,e5⟩:=key i y hy
   try dsimp only
   rw[e2]
   exact e3
theorem ZiG {α:Type} {S:Sh α} {f:α→List PV} (hf:EncOk S f):EncOk (Zcq S) (fun l=>[.lst (l.map fun x=>.agg (f x))]) where
 len:=fun _=>rfl
 one:=fun x i p h=>by cases i<;>simp at h;subst h;rfl
 vr:=fun h i p c hp hc=>by
  obtain ⟨A,c',rfl,h1,h2,h3⟩:=h
  cases i<;>simp at hp hc
  subst hp hc
  exact rowAgg hf h3 h1 h2
theorem Zre {α:Type} {S:Sh α} {e:α→PV} (hf:EncOk S (fun x=>[e x])) (hs:S.size=1):EncOk (Zcq S) (fun l=>[.lst (l.map e)]) where
 len:=fun _=>rfl
 one:=fun x i p h=>by cases i<;>simp at h;subst h;rfl
 vr:=fun h i p c hp hc=>by
  obtain ⟨A,c',rfl,h1,h2,h3⟩:=h
  cases i<;>simp at hp hc
  subst hp hc
  exact Zod hf hs h3 h1 h2
structure BdOk {α:Type} (S:Sh α) (Q:α→Prop):Prop where
 out:∀{w:World} {D:Nat→Prop} {cs:List Value} {x:α},S.rep w D cs x→Q x
theorem BdOk.mono {α:Type} {S:Sh α} {Q Q':α→Prop} (h:BdOk S Q) (hq:∀x,Q x→Q' x):BdOk S Q':=⟨fun hr=>hq _ (h.out hr)⟩
theorem Zoe {α:Type} {S:Sh α}:BdOk S (fun _=>True):=⟨fun _=>trivial⟩
theorem Zrf :BdOk Zn (fun s=>s.length≤9223372036854775807):=⟨fun h=>h.2⟩
theorem ZiH {α β:Type} {S:Sh α} {T:Sh β} {Q:α→Prop} {R:β→Prop} (hq:BdOk S Q) (hr:BdOk T R):BdOk (ZJ S T) (fun x=>Q x.1∧R x.2):=⟨fun h=>by
 obtain ⟨_,_,_,h1,h2⟩:=h
 exact ⟨hq.out h1,hr.out h2⟩⟩
theorem Zrg {α β:Type} {S:Sh β} {v:α→β} {Q:β→Prop} (hq:BdOk S Q):BdOk (Sh.via S v) (fun x=>Q (v x)):=⟨fun h=>hq.out h⟩
theorem RSl.rep_mem {α:Type} {S:Sh α} {w:World} {D:Nat→Prop} {A:Option Addr} {l:List α} (h:RSl S w D A l) {x:α} (hx:x∈l):∃cs,S.rep w D cs x:=by
 obtain ⟨b,off,_,_,hk⟩:=h (by rintro rfl;cases hx)
 obtain ⟨k,hk'⟩:=List.getElem?_of_mem hx
 obtain ⟨cs,h1,_⟩:=hk k x hk'
 exact ⟨cs,h1⟩
theorem bdSl {α:Type} {S:Sh α} {Q:α→Prop} (hq:BdOk S Q):BdOk (Zcq S) (fun l=>l.length≤9223372036854775807∧∀x∈l,Q x):=⟨fun h=>by
 obtain ⟨_,_,_,h3,h4,h5⟩:=h
 refine ⟨Nat.le_trans h3 h4,fun x hx=> ?_⟩
 obtain ⟨_,hr⟩:=h5.rep_mem hx
 exact hq.out hr⟩
theorem EncOk.vrAgg {α:Type} {S:Sh α} {f:α→List PV} (hf:EncOk S f) {w:World} {D:Nat→Prop} {cs:List Value} {x:α} (h:S.rep w D cs x):VR w D (.agg (f x)) (.agg cs.toArray):=by
 have hl:=S.len h
 refine .agg _ _ (by simp[hl,hf.len]) (fun j p hp=>hf.one x j p hp) (fun j p hp=> ?_)
 have hj:j<cs.length:=by
  have:=(List.getElem?_eq_some_iff.1 hp).1
  rw[hl,←hf.len x]
  exact this
 have e:cs.toArray.getD j Go.undef=cs[j]:=by simp[Array.getD_eq_getD_getElem?,hj]
 rw[e]
 exact hf.vr h j p _ hp (List.getElem?_eq_getElem hj)
theorem Adds.below {w w':World} {F F':Nat→Prop} (h:Adds w F w' F'):Below w.heap.size w w':=
 {os:=h.os,tape:=h.tape,output:=h.output,size:=h.size,block:=h.block}
inductive VRs (w:World) (F:Nat→Prop):List PV→List Value→Prop
 |nil:VRs w F [] []
 |cons {x:PV} {v:Value} {xs:List PV} {vs:List Value} (h:VR w F x v) (t:VRs w F xs vs):VRs w F (x::xs) (v::vs)
theorem Zek {w:World} {F:Nat→Prop}:∀{xs:List PV} {vs:List Value},VRs w F xs vs→ArgsR w F (List.replicate xs.length (.ck .val)) xs vs
 |_,_,.nil=>.nil
 |_,_,.cons h t=>.cons ⟨h,rfl⟩ (by intro h;cases h) (Zek t)
variable {P :Program}
theorem FnOk.bool {e:Ent} (he:FnOk P e) (hrk:e.rk=.ck .val) {w:World} {xs:List PV} {vs:List Value} {b:Bool} (hps:e.ps=List.replicate xs.length (.ck .val)) (hx:VRs w (fun b=>b<w.heap.size) xs vs) (hs:e.spec xs=some (pB b)) (hg:GOk w (fun b=>b<w.heap.size):=by first|exact gok0|assumption):
 Calls P e.f vs.toArray w fun en w'=>en=.returned (.bool b)∧Below w.heap.size w w':=by
 refine (he.call w (fun b=>b<w.heap.size) xs vs _ ⟨fun _ h=>h,hg⟩ (by rw[hps];exact Zek hx) hs).mono ?_
 rintro en w' ⟨v,F',l,rfl,ha,_,hsr,_⟩
 rw[hrk] at hsr
 obtain ⟨hv,_⟩:=hsr
 cases hv
 exact ⟨rfl,ha.below⟩
theorem FnOk.bool2 {e:Ent} (he:FnOk P e) (hrk:e.rk=.grp true [.val,.val]) {w:World} {xs:List PV} {vs:List Value} {a b:Bool} (hps:e.ps=List.replicate xs.length (.ck .val)) (hx:VRs w (fun b=>b<w.heap.size) xs vs) (hs:e.spec xs=some (.tup [pB a,pB b])) (hg:GOk w (fun b=>b<w.heap.size):=by first|exact gok0|assumption):
 Calls P e.f vs.toArray w fun en w'=>en=.returned (.tuple #[.bool a,.bool b])∧Below w.heap.size w w':=by
 refine (he.call w (fun b=>b<w.heap.size) xs vs _ ⟨fun _ h=>h,hg⟩ (by rw[hps];exact Zek hx) hs).mono ?_
 rintro en w' ⟨v,F',l,rfl,ha,_,hsr,_⟩
 rw[hrk] at hsr
 obtain ⟨cs,ys,fps,hv,hy,hg,_⟩:=hsr
 simp only[if_true,PV.tup.injEq] at hv hy
 subst hy
 obtain ⟨cl⟩:=cs
 subst hv
 dsimp only at hg
 cases hg with
 | cons h1 _ t=>
  cases t with
  | cons h2 _ t=>
   cases t
   obtain ⟨h1,_⟩:=h1
   obtain ⟨h2,_⟩:=h2
   cases h1
   cases h2
   exact ⟨rfl,ha.below⟩
end Go.Proofs.YtenddofcogldfaaGreatDoor
