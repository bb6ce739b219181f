import Derived.Test.YtjjobbamoeaogaaDoorIr3
import Derived.Test.YtjjobbamoeaogaaDoorBase
namespace Go.Proofs.YtjjobbamoeaogaaDoor
open Go.RowKit
set_option linter.unusedVariables false
set_option linter.unusedSimpArgs false
theorem RSl.pick {α:Type} {S:Sh α} {w:World} {D:Nat→Prop} {A:Option Addr} {l:List α} (h:RSl S w D A l) (hn:l≠[]):
 ∃(b off:Nat) (cs:Nat→List Value),A=some ⟨b,off,none⟩∧D b∧∀k x,l[k]?=some x→S.rep w D (cs k) x∧∀j v,(cs k)[j]?=some v→w.cell? ⟨b,off+k * S.size+j,none⟩=some v:=by
 obtain ⟨b,off,hA,hD,hk⟩:=h hn
 have hex:∀k,∃cs:List Value,∀x,l[k]?=some x→S.rep w D cs x∧∀j v,cs[j]?=some v→w.cell? ⟨b,off+k * S.size+j,none⟩=some v:=by
  intro k
  cases hx:l[k]? with
  |none=>exact ⟨[],fun x h=>by cases h⟩
  | some x=>
   obtain ⟨cs,h1,h2⟩:=hk k x hx
   exact ⟨cs,fun y hy=>by cases hy;exact ⟨h1,h2⟩⟩
 exact ⟨b,off,fun k=>(hex k).choose,hA,hD,fun k=>(hex k).choose_spec⟩
structure BdOk {α:Type} (S:Sh α) (Q:α→Prop):Prop where
 out:∀{w:World} {D:Nat→Prop} {cs:List Value} {x:α},S.rep w D cs x→Q x
theorem BdOk.mono {α:Type} {S:Sh α} {Q Q':α→Prop} (h:BdOk S Q) (hq:∀x,Q x→Q' x):BdOk S Q':=⟨fun hr=>hq _ (h.out hr)⟩
theorem Adds.below {w w':World} {F F':Nat→Prop} (h:Adds w F w' F'):Below w.heap.size w w':=
 {os:=h.os,tape:=h.tape,output:=h.output,size:=h.size,block:=h.block}
inductive VRs (w:World) (F:Nat→Prop):List PV→List Value→Prop
 |nil:VRs w F [] []
 |cons {x:PV} {v:Value} {xs:List PV} {vs:List Value} (h:VR w F x v) (t:VRs w F xs vs):VRs w F (x::xs) (v::vs)
theorem ZiS {w:World} {F:Nat→Prop}:∀{xs:List PV} {vs:List Value},VRs w F xs vs→ArgsR w F (List.replicate xs.length (.ck .val)) xs vs
 |_,_,.nil=>.nil
 |_,_,.cons h t=>.cons ⟨h,rfl⟩ (by intro h;cases h) (ZiS t)
variable {P :Program}
theorem FnOk.bool {e:Ent} (he:FnOk P e) (hrk:e.rk=.ck .val) {w:World} {xs:List PV} {vs:List Value} {b:Bool} (hps:e.ps=List.replicate xs.length (.ck .val)) (hx:VRs w (fun b=>b<w.heap.size) xs vs) (hs:e.spec xs=some (pB b)) (hg:GOk w (fun b=>b<w.heap.size):=by first|exact gok0|assumption):
 Calls P e.f vs.toArray w fun en w'=>en=.returned (.bool b)∧Below w.heap.size w w':=by
 refine (he.call w (fun b=>b<w.heap.size) xs vs _ ⟨fun _ h=>h,hg⟩ (by rw[hps];exact ZiS hx) hs).mono ?_
 rintro en w' ⟨v,F',l,rfl,ha,_,hsr,_⟩
 rw[hrk] at hsr
 obtain ⟨hv,_⟩:=hsr
 cases hv
 exact ⟨rfl,ha.below⟩
end Go.Proofs.YtjjobbamoeaogaaDoor
