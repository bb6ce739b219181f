import Derived.Test.YtkgnjijonikchaaDoorHnd
import Derived.Test.YtkgnjijonikchaaDoorIpr
namespace Go.Proofs.YtkgnjijonikchaaDoor
open Go.RowKit
set_option linter.unusedVariables false
set_option linter.unusedSimpArgs false
theorem ZlQ {zs:List (List UInt8)} {w:World} {F:Nat→Prop} {base:Nat} {e:TypeId} {v:Value} (h:w.ownsRow base e 1 v zs.length (zs.map fun s=>Value.string ⟨s.toArray⟩)):
 ∃fp,Zaa w F true e 1 (zs.map PV.str) v fp∧fp.Nodup∧∀b∈fp,base≤b∧b<w.heap.size:=by
 obtain ⟨hlen,hrow⟩:=h
 rcases hrow with ⟨hv,hl⟩|⟨g,cap,cur,hv,hbg,hg,hle,hmax,hsz,htk⟩
 ·obtain rfl:zs=[]:=List.eq_nil_of_length_eq_zero hl
  exact ⟨[],(Zt (Z3 (by decide))).2<| .inl ⟨by rw[hv],rfl,rfl⟩,List.nodup_nil,by simp⟩
 ·refine ⟨[g],(Zt (Z3 (by decide))).2<| .inr ⟨g,cap,cur,(0,0),by rw[hv];simp,rfl,hg,fun _=>rfl,.inl (Nat.le_refl _),by simpa using hle,hmax,hsz,fun i x hx=> ?_⟩,by simp,fun b hb=> ?_⟩
  ·rw[List.getElem?_map,Option.map_eq_some_iff] at hx
   obtain ⟨z,hz,rfl⟩:=hx
   refine ⟨rfl,by simp,.string ⟨z.toArray⟩,.str _,fun j c hj=> ?_⟩
   have hj0:j=0:=by
    obtain ⟨h1,_⟩:=Array.getElem?_eq_some_iff.1 hj
    have:(Value.string ⟨z.toArray⟩).cells.size=1:=rfl
    omega
   subst hj0
   have hc:c=.string ⟨z.toArray⟩:=by
    have:(Value.string ⟨z.toArray⟩).cells[0]?=some (.string ⟨z.toArray⟩):=rfl
    rw[this] at hj;exact (Option.some.inj hj).symm
   subst hc
   have hf:(zs.map fun s=>Value.string ⟨s.toArray⟩)[i]?=some (.string ⟨z.toArray⟩):=by rw[List.getElem?_map,hz];rfl
   rw[←htk,List.getElem?_take] at hf
   split at hf
   ·simpa using hf
   ·cases hf
  ·simp only[List.mem_singleton] at hb
   subst hb
   refine ⟨hbg, ?_⟩
   rcases Nat.lt_or_ge b w.heap.size with hlt|hge
   ·exact hlt
   ·rw[Array.getElem?_eq_none hge] at hg;cases hg
noncomputable def clnS :List PV→Option PV
 | [.lst l]=>match ZgI l with
  |some zs=>if zs.length≤1048576 then some (.lst (zs.map PV.str)) else none
  |none=>none
 |_=>none
theorem clnOk {P:Program} {f:FuncId} {fn:Func} (hf:P.funcs[f]?=some fn) (hname:(fn.name== "runtime.NumGoroutine")=false) (hb:fn.body.isSome=true) (t:TypeId)
 (C:∀(b off n c:Nat) (zs:List ByteArray) (w:World),n≤zs.length→n * 16≤140737488355328→(∀j,j<zs.length→w.cell? ⟨b,off+j,none⟩=some (.string (zs.getD j ByteArray.empty)))→
  Calls P f #[.slice (some ⟨b,off,none⟩) n c] w fun e w'=>∃v',e=.returned v'∧w'.ownsRow w.heap.size t 1 v' n ((zs.take n).map (Value.string))∧v'≠.slice none 0 0∧Below w.heap.size w w')
 (C0:∀(n c:Nat) (w:World),Calls P f #[.slice none n c] w fun e w'=>e=.returned (.slice none 0 0)∧w'=w)
 (Cz:∀(a:Addr) (c:Nat) (w:World),Calls P f #[.slice (some a) 0 c] w fun e w'=>∃v',e=.returned v'∧w'.ownsRow w.heap.size t 1 v' 0 []∧v'≠.slice none 0 0∧Below w.heap.size w w'):
 FnOk P ⟨f,[.ck .val],.ck (.own true t 1),false,clnS⟩:=by
 refine ⟨fun args w=> ?_,rfl,fun w F xs vs r hF hargs hr=> ?_,fun _ _ _ _ hc=>(by cases hc),fun _ _ _ hc=>(by cases hc),fun _ _ hK hc=>(by cases hc;cases hK),fun hc=>(by cases hc)⟩
 ·have h1:fn.name≠ "runtime.NumGoroutine":=by simpa using hname
  have h2:fn.body≠none:=fun e=>by rw[e] at hb;cases hb
  simp[callFunc,hf,h1,h2]
 ·replace hr:clnS xs=some r:=hr
  have fin:∀(zs:List (List UInt8)) (v':Value) (w':World),w'.ownsRow w.heap.size t 1 v' zs.length (zs.map fun s=>Value.string ⟨s.toArray⟩)→Below w.heap.size w w'→r=.lst (zs.map PV.str)→
   ∃(v:Value) (F':Nat→Prop) (l:List Nat),Ending.returned v'=.returned v∧Adds w F w' F'∧l.Nodup∧SR w' F' (.ck (.own true t 1)) r v l∧(∀b∈l,w.heap.size≤b∧b<w'.heap.size∧¬F' b)∧(false=true→∀G:Nat→Prop,SR w' G (.ck (.own true t 1)) r v l):=by
   intro zs v' w' ho hbl hrr
   subst hrr
   obtain ⟨fp,h1,h2,h3⟩:=ZlQ (F:=F) ho
   exact ⟨_,F,fp,rfl,⟨hbl.os,hbl.tape,hbl.output,hbl.size,hbl.block,fun _ h=>h,fun _ h=>.inl h,fun b h=>Nat.lt_of_lt_of_le (hF b h) hbl.size⟩,h2,⟨_,rfl,h1⟩,fun b hb=>⟨(h3 b hb).1,(h3 b hb).2,fun hF'=>by have:=hF b hF';have:=(h3 b hb).1;omega⟩,fun h=>by cases h⟩
  cases hargs with
  | cons h _ ht=>
   cases ht
   unfold clnS at hr
   split at hr
   case h_2=>cases hr
   rename_i l e1
   simp only[List.cons.injEq,and_true] at e1
   subst e1
   split at hr
   case h_2=>cases hr
   rename_i zs hz
   split at hr
   case isFalse=>cases hr
   rename_i hl
   cases hr
   obtain rfl:=Zh7 _ _ hz
   obtain ⟨A,c,rfl,ha,hc⟩:=ZjU h.1
   by_cases hne:zs=[]
   ·subst hne
    cases A with
    | none=>
     refine (C0 0 c w).mono fun e w' he=> ?_
     obtain ⟨rfl,rfl⟩:=he
     exact fin [] _ w' ⟨by simp,.inl ⟨rfl,rfl⟩⟩ (Below.refl _ _) rfl
    | some a=>
     refine (Cz a c w).mono fun e w' he=> ?_
     obtain ⟨v',rfl,ho,_,hbl⟩:=he
     exact fin [] v' w' ho hbl rfl
   ·obtain ⟨b,off,rfl,hb,hcell⟩:=ha hne
    refine (C b off zs.length c (zs.map fun s=>⟨s.toArray⟩) w (by simp) (by omega) fun j hj=> ?_).mono fun e w' he=> ?_
    ·rw[List.length_map] at hj
     rw[hcell j _ (List.getElem?_eq_getElem hj)]
     simp[List.getD_eq_getElem?_getD,hj]
    ·obtain ⟨v',rfl,ho,_,hbl⟩:=he
     refine fin zs v' w' ?_ hbl rfl
     have e:((zs.map fun s=>(⟨s.toArray⟩:ByteArray)).take zs.length).map Value.string=zs.map fun s=>Value.string ⟨s.toArray⟩:=by
      rw[List.take_of_length_le (by simp),List.map_map]
      rfl
     rw[e] at ho
     exact ho
end Go.Proofs.YtkgnjijonikchaaDoor
