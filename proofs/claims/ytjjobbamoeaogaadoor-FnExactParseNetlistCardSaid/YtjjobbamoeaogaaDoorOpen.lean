import Derived.Test.YtjjobbamoeaogaaDoorBase
import Derived.ProofKit
import Derived.Carry
import Derived.ChangeArms
namespace Go.Proofs.YtjjobbamoeaogaaDoor
open Go.RowKit Go.ChangeShapes Go.WideShapes Go.ChangeAt
set_option linter.unusedVariables false
structure Opens {α:Type} (P:Program) (S:Sh α) (t:TypeId):Prop where
 out:∀{H:Type} {enc:TypeId×Value→H} {W:World} {fuel:Nat} {cs:List Value} {x:DataW H×List MemPlace},DataW.trod enc P W 0 (fun _=>true) true fuel t cs=some x→∃a:α,S.rep W (fun b=>b<W.heap.size) cs a
theorem Zqk {P:Program} {t:TypeId} (ht:P.underlying t=some .string):Opens P ZB t:=⟨fun h=>by
 obtain ⟨s,rfl,_,hs⟩:=DataW.trod_string ht h
 refine ⟨s.data.toList,by simp, ?_⟩
 simp only[maxLen] at hs
 simpa using hs⟩
theorem arg_of {α:Type} {P:Program} {S:Sh α} {t:TypeId} (h:Opens P S t) {H:Type} {enc:TypeId×Value→H} {W:World} {v:Value} {d:DataW H} {p:List MemPlace} (hv:DataW.Trod enc P W 0 (fun _=>true) true t v d p):
 ∃a:α,S.rep W (fun b=>b<W.heap.size) v.cells.toList a:=by
 obtain ⟨fuel,hf⟩:=hv
 exact h.out hf
theorem Zs1 {P:Program} {t:TypeId} (ht:P.underlying t=some .string) {H:Type} {enc:TypeId×Value→H} {W:World} {v:Value} {d:DataW H} {p:List MemPlace} {r:Reach} {b0:Nat}
 (hok:Value.okWide P W r b0 t v) (hv:DataW.Trod enc P W 0 (fun _=>true) true t v d p):∃s:List UInt8,v=.string ⟨s.toArray⟩∧s.length≤9223372036854775807:=by
 obtain ⟨n,rfl⟩:=okWide_string ht hok
 obtain ⟨m,h1,h2⟩:=arg_of (Zqk ht) hv
 simp only[Value.cells,List.cons.injEq,Value.string.injEq,and_true] at h1
 subst h1
 exact ⟨m,rfl,h2⟩
theorem Zef {H:Type} {enc:TypeId×Value→H} {P:Program} (hl:laidOutB P=true) {W W':World} (hb:Below W.heap.size W W'):
 ∀ {ts:List TypeId} {vs:List Value} {ds:List (DataW H)} {ps:List MemPlace},(∀t∈ts,P.readableRec t=true∧t<P.types.size)→DataW.TrodAll enc P W 0 (fun _=>true) true ts vs ds ps→(∀x∈ps,x.block<W.heap.size)→
  DataW.TrodAll enc P W' 0 (fun b=>decide (b<W.heap.size)) true ts vs ds ps
 |[],[],[],_,_,h,_=>h
 | t::ts,v::vs,d::ds,_,hr,⟨p,q,h1,h2,e⟩,hlt=>by
  subst e
  exact ⟨p,q,Below.trod hl (hr t (by simp)).1 (hr t (by simp)).2 h1 hb (fun x hx=>hlt x (by simp[hx])),Zef hl hb (fun t' ht'=>hr t' (by simp[ht'])) h2 (fun x hx=>hlt x (by simp[hx])),rfl⟩
 |[],[],_::_,_,_,h,_=>h.elim
 |[],_::_,_,_,_,h,_=>h.elim
 |_::_,[],_,_,_,h,_=>h.elim
 |_::_,_::_,[],_,_,h,_=>h.elim
theorem law_post {H:Type} {enc:TypeId×Value→H} {P:Program} {f:Func} {s:ChangeSpec} {W W':World} {args:Array Value} {ds:List (DataW H)} {p:List MemPlace} {tb:TypeId} (hl:laidOutB P=true) (hvars:s.vars=[])
 (hread:f.params.toList.all (fun t=>P.readableRec t&&decide (t<P.types.size))=true) (hres:f.resultTypes= #[tb]) (hbool:P.underlying tb=some .bool)
 (hW:DataW.Whole enc P f.params.toList s.vars false W args.toList ds [] p) (hA:DataW.TrodAll enc P W 0 (fun _=>true) true f.params.toList args.toList ds p)
 (hfn:s.fn H (ds++[])={results:=[.lit (.bool true)],args:=ds}) (hb:Below W.heap.size W W'):
 s.post enc P f false true false false W args (.bool true) W':=by
 refine ⟨ds,[],p,[],p,[],hW, ?_, ?_, ?_,hb.frame _,fun h=>by cases h⟩
 ·rw[hfn,hres]
  exact trodAll_mk1 (shut_bool hbool true)
 ·rw[hfn]
  refine Zef hl hb (fun t ht=> ?_) hA (fun x hx=>by simpa using hW.lt x hx)
  have:=List.all_eq_true.1 hread t ht
  simpa using this
 ·rw[hfn,hvars]
  rfl
end Go.Proofs.YtjjobbamoeaogaaDoor
