import Derived.Test.YtenddofcogldfaaGreatDoorBase
import Derived.ProofKit
import Derived.Carry
import Derived.ChangeArms
namespace Go.Proofs.YtenddofcogldfaaGreatDoor
open Go.RowKit Go.ChangeShapes Go.WideShapes Go.ChangeAt
set_option linter.unusedVariables false
structure Opens {α:Type} (P:Program) (S:Sh α) (t:TypeId):Prop where
 out:∀{H:Type} {enc:TypeId×Value→H} {W:World} {fuel:Nat} {cs:List Value} {x:DataW H×List MemPlace},DataW.trod enc P W 0 (fun _=>true) true fuel t cs=some x→∃a:α,S.rep W (fun b=>b<W.heap.size) cs a
theorem Zqf {n:Int} (h:(Lit.int .i64 n).wf=true):InI n:=by
 simp only[Lit.wf,IntKind.min,IntKind.max,IntKind.signed,IntKind.bits,Bool.and_eq_true,decide_eq_true_eq] at h
 unfold InI
 simp at h
 omega
theorem Zd2 {P:Program} {t:TypeId} (ht:P.underlying t=some (.int .i64)):Opens P ZB t:=⟨fun h=>by
 obtain ⟨n,rfl,_,hw⟩:=DataW.trod_int ht h
 exact ⟨n,rfl,Zqf hw⟩⟩
theorem Zn8 {P:Program} {t:TypeId} (ht:P.underlying t=some .bool):Opens P Zhp t:=⟨fun h=>by
 obtain ⟨b,rfl,_⟩:=DataW.trod_bool ht h
 exact ⟨b,rfl⟩⟩
theorem Zhn {P:Program} {t:TypeId} (ht:P.underlying t=some .string):Opens P Zn t:=⟨fun h=>by
 obtain ⟨s,rfl,_,hs⟩:=DataW.trod_string ht h
 refine ⟨s.data.toList,by simp, ?_⟩
 simp only[maxLen] at hs
 simpa using hs⟩
theorem Zfw {α β:Type} {P:Program} {S:Sh β} {t:TypeId} (h:Opens P S t) (f:α→β) (g:β→α) (hfg:∀b,f (g b)=b):Opens P (S.via f) t:=⟨fun hx=>by
 obtain ⟨b,hb⟩:=h.out hx
 exact ⟨g b,by show S.rep _ _ _ (f (g b));rw[hfg];exact hb⟩⟩
theorem Zho {w:World} {a:Addr} {v:Value} (h:w.cell? a=some v):a.block<w.heap.size:=by
 rcases Nat.lt_or_ge a.block w.heap.size with hlt|hge
 ·exact hlt
 ·unfold World.cell? at h
  rw[Array.getElem?_eq_none hge] at h
  cases h
theorem Zgx {α:Type} {Q:Nat→α→Prop}:∀{n:Nat},(∀i,i<n→∃y,Q i y)→∃l:List α,l.length=n∧∀i y,l[i]?=some y→Q i y
 |0,_=>⟨[],rfl,fun i y hy=>by simp at hy⟩
 | n +1,h=>by
  obtain ⟨l,hll,hle⟩:=Zgx (n:=n) (fun i hi=>h i (by omega))
  obtain ⟨y,hy⟩:=h n (by omega)
  refine ⟨l++[y],by simp[hll],fun i z hz=> ?_⟩
  by_cases hik:i<l.length
  ·rw[List.getElem?_append_left hik] at hz
   exact hle i z hz
  ·rw[List.getElem?_append_right (by omega)] at hz
   have hi0:i - l.length=0:=by
    rcases Nat.eq_zero_or_pos (i - l.length) with h0|h0
    ·exact h0
    ·rw[List.getElem?_eq_none (by simp;omega)] at hz;cases hz
   rw[hi0] at hz
   simp at hz
   subst hz
   have:i=n:=by omega
   subst this
   exact hy
theorem ZcS {α:Type} {P:Program} {S:Sh α} {t e:TypeId} (ht:P.underlying t=some (.slice e)) (hs:P.cellsOf e=S.size) (hpos:0<S.size) (h:Opens P S e):Opens P (Zcq S) t:=⟨fun {H enc W fuel cs x} hx=>by
 rcases Go.Deep.open_slice ht hx with ⟨rfl,_⟩|⟨a,len,cap,m,n,D,Pl,rfl,_,hl,hm,hmm,_,hi⟩
 ·exact ⟨[],none,0,rfl,Nat.le_refl _,by omega,RSl.nil⟩
 ·have hm':cap≤9223372036854775807:=by simp only[maxLen] at hm;omega
  have hlm:len≤m:=by rw[hmm];simp;omega
  have hel:∀i,i<len→∃y:α,∃cs',S.rep W (fun b=>b<W.heap.size) cs' y∧∀j v,cs'[j]?=some v→W.cell? (a.add (i * S.size+j))=some v:=by
   intro i hilt
   obtain ⟨cs',hc,ht'⟩:=hi i (by omega)
   obtain ⟨y,hy⟩:=h.out ht'
   obtain ⟨_,hlen,hcell⟩:=World.cells?_some hc
   refine ⟨y,cs',hy,fun j v hj=> ?_⟩
   have hjl:j<P.cellsOf e:=by rw[←hlen];exact Zh hj
   have:=hcell j hjl
   rw[hs] at this
   rw[Go.Deep.add_add] at this
   rw[this,hj]
  have hyl:=Zgx hel
  obtain ⟨l,hll,hle⟩:=hyl
  subst hll
  refine ⟨l,some a,cap,rfl,hl,hm',fun hne=> ?_⟩
  have hlpos:0<l.length:=List.length_pos_iff.2 hne
  obtain ⟨y0,hy0⟩:=Zg hlpos
  obtain ⟨cs0,hr0,hc0⟩:=hle 0 y0 hy0
  have hl0:0<cs0.length:=by rw[S.len hr0];exact hpos
  have hcell0:=hc0 0 cs0[0] (List.getElem?_eq_getElem hl0)
  have ea:a.add (0 * S.size+0)=a:=by simp[Addr.add]
  rw[ea] at hcell0
  obtain ⟨b,off,spot⟩:=a
  have hspot:spot=none:=by simpa using World.cell?_spot hcell0
  subst hspot
  refine ⟨b,off,rfl,Zho hcell0,fun k y hk=> ?_⟩
  obtain ⟨cs',hr',hc'⟩:=hle k y hk
  refine ⟨cs',hr',fun j v hj=> ?_⟩
  have:=hc' j v hj
  rwa[add_plain,←Nat.add_assoc] at this⟩
structure OpensFs {α:Type} (P:Program) (S:Sh α) (fs:List Field) (off:Nat):Prop where
 out:∀{H:Type} {enc:TypeId×Value→H} {W:World} {fuel:Nat} {cs:List Value},cs.length=off+S.size→
  (∀f∈fs,∃x,DataW.trod enc P W 0 (fun _=>true) true fuel f.type ((cs.drop f.offset).take (P.cellsOf f.type))=some x)→∃a:α,S.rep W (fun b=>b<W.heap.size) (cs.drop off) a
theorem Zdv {α:Type} {P:Program} {S:Sh α} {f:Field} {off:Nat} (ho:f.offset=off) (hc:P.cellsOf f.type=S.size) (h:Opens P S f.type):OpensFs P S [f] off:=⟨fun hl hx=>by
 obtain ⟨x,hx⟩:=hx f (by simp)
 rw[ho,hc,List.take_of_length_le (by simp;omega)] at hx
 exact h.out hx⟩
theorem Zbu {α β:Type} {P:Program} {S:Sh α} {T:Sh β} {f:Field} {fs:List Field} {off:Nat} (ho:f.offset=off) (hc:P.cellsOf f.type=S.size) (h:Opens P S f.type) (ht:OpensFs P T fs (off+S.size)):OpensFs P (ZJ S T) (f::fs) off:=⟨fun {H enc W fuel cs} hl hx=>by
 obtain ⟨x,hx1⟩:=hx f (by simp)
 rw[ho,hc] at hx1
 obtain ⟨a,ha⟩:=h.out hx1
 obtain ⟨b,hb⟩:=ht.out (cs:=cs) (by rw[hl];show off+(S.size+T.size)=_;omega) (fun f' hf'=>hx f' (by simp[hf']))
 refine ⟨(a,b),(cs.drop off).take S.size,cs.drop (off+S.size), ?_,ha,hb⟩
 rw[←List.drop_drop,List.take_append_drop]⟩
theorem Zc4 {α:Type} {P:Program} {S:Sh α} {t:TypeId} {fs:List Field} (ht:P.underlying t=some (.struct fs.toArray)) (hc:P.cellsOf t=S.size) (h:OpensFs P S fs 0):Opens P S t:=⟨fun {H enc W fuel cs x} hx=>by
 obtain ⟨xs,n,_,_,hlen,hxl,hf⟩:=DataW.trod_struct ht hx
 have:=h.out (W:=W) (enc:=enc) (fuel:=n) (cs:=cs) (by rw[hlen,hc];omega) (fun f hfm=>by
  obtain ⟨i,hi,rfl⟩:=List.getElem_of_mem hfm
  have h1:=hf i fs[i] (by simp[List.getElem?_eq_getElem hi])
  have hi':i<fs.toArray.size:=by simpa using hi
  have h2:xs[i]?=some (xs[i]'(by omega)):=List.getElem?_eq_getElem (by omega)
  exact ⟨_,by simpa using h1.trans h2⟩)
 simpa using this⟩
theorem Zn9 {α:Type} {P:Program} {S:Sh α} {t:TypeId} (h:Opens P S t) {H:Type} {enc:TypeId×Value→H} {W:World} {v:Value} {d:DataW H} {p:List MemPlace} (hv:DataW.Trod enc P W 0 (fun _=>true) true t v d p):
 ∃a:α,S.rep W (fun b=>b<W.heap.size) v.cells.toList a:=by
 obtain ⟨fuel,hf⟩:=hv
 exact h.out hf
theorem Zqg {α:Type} {P:Program} {S:Sh α} {t e:TypeId} (ht:P.underlying t=some (.slice e)) (h:Opens P (Zcq S) t) {H:Type} {enc:TypeId×Value→H} {W:World} {v:Value} {d:DataW H} {p:List MemPlace} {r:Reach} {b0:Nat}
 (hok:Value.okWide P W r b0 t v) (hv:DataW.Trod enc P W 0 (fun _=>true) true t v d p):∃(A:Option Addr) (c:Nat) (l:List α),v=.slice A l.length c∧l.length≤c∧c≤9223372036854775807∧RA S W A l:=by
 obtain ⟨a,len,cap,rfl⟩:=okWide_slice ht hok
 obtain ⟨l,A,c,h1,h2,h3,h4⟩:=Zn9 h hv
 simp only[Value.cells,List.cons.injEq,Value.slice.injEq,and_true] at h1
 obtain ⟨rfl,rfl,rfl⟩:=h1
 exact ⟨a,cap,l,rfl,h2,h3,h4⟩
theorem ZsX {P:Program} {t:TypeId} (ht:P.underlying t=some (.int .i64)) {H:Type} {enc:TypeId×Value→H} {W:World} {v:Value} {d:DataW H} {p:List MemPlace} {r:Reach} {b0:Nat}
 (hok:Value.okWide P W r b0 t v) (hv:DataW.Trod enc P W 0 (fun _=>true) true t v d p):∃n:Int,v=.int .i64 n∧InI n:=by
 obtain ⟨n,rfl⟩:=okWide_int ht hok
 obtain ⟨m,h1,h2⟩:=Zn9 (Zd2 ht) hv
 simp only[Value.cells,List.cons.injEq,Value.int.injEq,and_true,true_and] at h1
 subst h1
 exact ⟨n,rfl,h2⟩
theorem Zoa {α:Type} {P:Program} {S:Sh α} {t:TypeId} {fs:Array Field} (ht:P.underlying t=some (.struct fs)) (h:Opens P S t) {H:Type} {enc:TypeId×Value→H} {W:World} {v:Value} {d:DataW H} {p:List MemPlace} {r:Reach} {b0:Nat}
 (hok:Value.okWide P W r b0 t v) (hv:DataW.Trod enc P W 0 (fun _=>true) true t v d p):∃(cs:List Value) (x:α),v=.agg cs.toArray∧S.rep W (fun b=>b<W.heap.size) cs x:=by
 obtain ⟨cs,rfl,_⟩:=okWide_struct ht hok
 obtain ⟨x,hx⟩:=Zn9 h hv
 exact ⟨cs.toList,x,by simp,hx⟩
theorem ZfS {H:Type} {enc:TypeId×Value→H} {P:Program} (hl:laidOutB P=true) {W W':World} (hb:Below W.heap.size W W'):
 ∀ {ts:List TypeId} {vs:List Value} {ds:List (DataW H)} {ps:List MemPlace},(∀t∈ts,P.readableRec t=true∧t<P.types.size)→DataW.TrodAll enc P W 0 (fun _=>true) true ts vs ds ps→(∀x∈ps,x.block<W.heap.size)→
  DataW.TrodAll enc P W' 0 (fun b=>decide (b<W.heap.size)) true ts vs ds ps
 |[],[],[],_,_,h,_=>h
 | t::ts,v::vs,d::ds,_,hr,⟨p,q,h1,h2,e⟩,hlt=>by
  subst e
  exact ⟨p,q,Below.trod hl (hr t (by simp)).1 (hr t (by simp)).2 h1 hb (fun x hx=>hlt x (by simp[hx])),ZfS hl hb (fun t' ht'=>hr t' (by simp[ht'])) h2 (fun x hx=>hlt x (by simp[hx])),rfl⟩
 |[],[],_::_,_,_,h,_=>h.elim
 |[],_::_,_,_,_,h,_=>h.elim
 |_::_,[],_,_,_,h,_=>h.elim
 |_::_,_::_,[],_,_,h,_=>h.elim
theorem Zrb {H:Type} {enc:TypeId×Value→H} {P:Program} {f:Func} {s:ChangeSpec} {W W':World} {args:Array Value} {ds:List (DataW H)} {p:List MemPlace} {tb:TypeId} (hl:laidOutB P=true) (hvars:s.vars=[])
 (hread:f.params.toList.all (fun t=>P.readableRec t&&decide (t<P.types.size))=true) (hres:f.resultTypes= #[tb]) (hbool:P.underlying tb=some .bool)
 (hW:DataW.Whole enc P f.params.toList s.vars false W args.toList ds [] p) (hA:DataW.TrodAll enc P W 0 (fun _=>true) true f.params.toList args.toList ds p)
 (hfn:s.fn H (ds++[])={results:=[.lit (.bool true)],args:=ds}) (hb:Below W.heap.size W W'):
 s.post enc P f false true false false W args (.bool true) W':=by
 refine ⟨ds,[],p,[],p,[],hW, ?_, ?_, ?_,hb.frame _,fun h=>by cases h⟩
 ·rw[hfn,hres]
  exact trodAll_mk1 (shut_bool hbool true)
 ·rw[hfn]
  refine ZfS hl hb (fun t ht=> ?_) hA (fun x hx=>by simpa using hW.lt x hx)
  have:=List.all_eq_true.1 hread t ht
  simpa using this
 ·rw[hfn,hvars]
  rfl
end Go.Proofs.YtenddofcogldfaaGreatDoor
