import Derived.Test.YtenddofcogldfaaGreatDoorBase3
import Derived.Test.YtenddofcogldfaaGreatDoorHnd
import Derived.Test.YtenddofcogldfaaGreatDoorProg
import Derived.Laws.ResultCell
namespace Go.Proofs.YtenddofcogldfaaGreatDoor
open Go.RowKit
set_option linter.unusedVariables false
theorem Zj3 (b:Bool) (A1 A2:Option Addr) (n1 c1 n2 c2:Nat) (w:World)
 (hac:∀w',Below w.heap.size w w'→Calls Tryz.prog 19 #[.agg #[.slice A1 n1 c1,.slice A2 n2 c2]] w' fun e w2=>e=.returned (.bool b)∧Below w'.heap.size w' w2):
 Calls Tryz.prog 50 #[.agg #[.slice A1 n1 c1,.slice A2 n2 c2]] w fun e w'=>e=.returned (.tuple #[if b=true then .agg #[.slice A1 n1 c1,.slice A2 n2 c2] else .agg #[.slice none 0 0,.slice none 0 0],.bool b])∧Below w.heap.size w w':=by
 have HAC:=Ze hac;clear hac
 go_enter Tryz.func50,Tryz.ntmps50
 go_wp2_with fail
 refine (HAC.out _ (by (repeat' (first|(with_reducible first|exact Below.refl _ _|assumption|refine Zl ?_ _|refine Below.drew ?_|refine Below.alloc ?_ ?_ _|refine Below.setCell ?_ ?_ _|refine Below.then_ ?_ (by assumption) ?_)|go_size)))).mono ?_
 rintro e w1 ⟨rfl,hb1⟩
 have hbw:Below w.heap.size w w1:=Below.trans (by (repeat' (first|(with_reducible first|exact Below.refl _ _|assumption|refine Zl ?_ _|refine Below.drew ?_|refine Below.alloc ?_ ?_ _|refine Below.setCell ?_ ?_ _|refine Below.then_ ?_ (by assumption) ?_)|go_size))) (hb1.mono (by simp;try omega))
 obtain ⟨hc,hf⟩:=Zai hb1
 have hz:=hb1.size
 simp only[World.size_alloc] at hz
 have e0:w1.cell? ⟨w.heap.size,0,none⟩=some (.slice A1 n1 c1):=by rw[hc _ _ (by simp only[World.size_alloc];omega)];simp[go_sem]
 have e1:w1.cell? ⟨w.heap.size,1,none⟩=some (.slice A2 n2 c2):=by rw[hc _ _ (by simp only[World.size_alloc];omega)];simp[go_sem]
 have d0:w1.cell? ⟨w.heap.size+1,0,none⟩=some (.slice none 0 0):=by rw[hc _ _ (by simp only[World.size_alloc];omega)];simp[go_sem]
 have d1:w1.cell? ⟨w.heap.size+1,1,none⟩=some (.slice none 0 0):=by rw[hc _ _ (by simp only[World.size_alloc];omega)];simp[go_sem]
 have f0:w1.frozen? ⟨w.heap.size+1,0,none⟩=false:=by rw[hf _ _ (by simp only[World.size_alloc];omega)];simp[go_sem]
 have f1:w1.frozen? ⟨w.heap.size+1,1,none⟩=false:=by rw[hf _ _ (by simp only[World.size_alloc];omega)];simp[go_sem]
 have HBW:=Ze hbw
 clear hc hf hb1 hbw
 cases b
 ·go_wp2_with fail
  try simp only[Exit.inBlock,Exit.then]
  refine bodyPost_ret (v:=.tuple #[.agg #[.slice none 0 0,.slice none 0 0],.bool false]) ((results_cell_tmp rfl _ _ _).trans (by go_simp)) rfl ⟨rfl, ?_⟩
  have:=HBW.out
  (repeat' (first|(with_reducible first|exact Below.refl _ _|assumption|refine Zl ?_ _|refine Below.drew ?_|refine Below.alloc ?_ ?_ _|refine Below.setCell ?_ ?_ _|refine Below.then_ ?_ (by assumption) ?_)|go_size))
 ·go_wp2_with fail
  try simp only[Exit.inBlock,Exit.then]
  refine bodyPost_ret (v:=.tuple #[.agg #[.slice A1 n1 c1,.slice A2 n2 c2],.bool true]) ((results_cell_tmp rfl _ _ _).trans (by go_simp)) rfl ⟨rfl, ?_⟩
  have:=HBW.out
  (repeat' (first|(with_reducible first|exact Below.refl _ _|assumption|refine Zl ?_ _|refine Below.drew ?_|refine Below.alloc ?_ ?_ _|refine Below.setCell ?_ ?_ _|refine Below.then_ ?_ (by assumption) ?_)|go_size))
theorem nifOk {P:Program} {f fv:FuncId} {fn:Func} (hf:P.funcs[f]?=some fn) (hname:(fn.name== "runtime.NumGoroutine")=false) (hb:fn.body.isSome=true) (t1 t2:TypeId) (z1 z2:Nat) (spec vs:List PV→Option PV)
 (hspec:∀xs r,spec xs=some r→∃(sg wr:List PV) (b:Bool),xs=[.agg [.lst sg,.lst wr]]∧vs xs=some (.bool b)∧r=.tup [if b=true then .agg [.lst sg,.lst wr] else .agg [.lst [],.lst []],.bool b])
 (hv:∀(w:World) (x:PV) (v:Value) (b:Bool),VR w (fun b=>b<w.heap.size) x v→vs [x]=some (.bool b)→GOk w (fun b=>b<w.heap.size)→Calls P fv #[v] w fun e w'=>e=.returned (.bool b)∧Below w.heap.size w w')
 (C:∀(b:Bool) (A1 A2:Option Addr) (n1 c1 n2 c2:Nat) (w:World),(∀w',Below w.heap.size w w'→Calls P fv #[.agg #[.slice A1 n1 c1,.slice A2 n2 c2]] w' fun e w2=>e=.returned (.bool b)∧Below w'.heap.size w' w2)→
  Calls P f #[.agg #[.slice A1 n1 c1,.slice A2 n2 c2]] w fun e w'=>e=.returned (.tuple #[if b=true then .agg #[.slice A1 n1 c1,.slice A2 n2 c2] else .agg #[.slice none 0 0,.slice none 0 0],.bool b])∧Below w.heap.size w w'):
 FnOk P ⟨f,[.grp false [.own true t1 z1,.own true t2 z2]],.tgr [some 2,none] [.own true t1 z1,.own true t2 z2,.val],false,spec⟩:=by
 have key:∀(w:World) (F:Nat→Prop) (x:PV) (v0:Value) (l0:List Nat) (r:PV),FOk w F→l0.Nodup→(∀b∈l0,b<w.heap.size)→SR w F (.grp false [.own true t1 z1,.own true t2 z2]) x v0 l0→spec [x]=some r→
  Calls P f #[v0] w fun e w'=>∃v l,e=.returned v∧Below w.heap.size w w'∧l.Nodup∧(∀b∈l,b∈l0)∧SR w' F (.tgr [some 2,none] [.own true t1 z1,.own true t2 z2,.val]) r v l:=by
  intro w F x v0 l0 r hF hn0 hl0 hx hr
  obtain ⟨sg,wr,b,e1,hb,rfl⟩:=hspec _ _ hr
  simp only[List.cons.injEq,and_true] at e1
  subst e1
  obtain ⟨cs,xs,fps,hv0,hxs,hg,rfl⟩:=hx
  simp only[Bool.false_eq_true,if_false,PV.agg.injEq] at hv0 hxs
  subst hxs
  obtain ⟨cl⟩:=cs
  subst hv0
  have hg0:=hg
  dsimp only at hg
  cases hg with
  | cons g1 o1 tx=>
   cases tx with
   | cons g2 o2 tx=>
    cases tx
    obtain ⟨k1,h1,r1⟩:=g1
    obtain ⟨k2,h2,r2⟩:=g2
    cases h1
    cases h2
    obtain ⟨A1,c1,rfl⟩:=r1.slice_eq
    obtain ⟨A2,c2,rfl⟩:=r2.slice_eq
    have hvr:VR w (fun b=>b<w.heap.size) (.agg [.lst sg,.lst wr]) (.agg #[.slice A1 sg.length c1,.slice A2 wr.length c2]):=Zoz hg0 hl0 (fun b hb=>hF b hb) (by simp)
    refine (C b A1 A2 sg.length c1 wr.length c2 w fun w' hw=>hv w' _ _ b (hvr.keep ⟨fun b hb=>Nat.lt_of_lt_of_le hb hw.size,fun b hb=>hw.block b hb⟩) hb (hF.gk.keep ⟨fun b hb=>Nat.lt_of_lt_of_le (hF b hb) hw.size,fun b hb=>hw.block b (hF b hb)⟩)).mono fun e w' he=> ?_
    obtain ⟨rfl,hw⟩:=he
    have hs:Stays w F w' F:=⟨fun _ h=>h,fun b hb=>hw.block b (hF b hb)⟩
    cases b
    ·exact ⟨_,[],rfl,hw,List.nodup_nil,by simp,_,_,[[],[],[]],rfl,rfl,⟨⟨_,_,rfl,rfl,rfl,rfl⟩,rfl,rfl,trivial⟩,.cons ⟨[],rfl,Zam.nil_⟩ (fun _=>rfl) (.cons ⟨[],rfl,Zam.nil_⟩ (fun _=>rfl) (.cons ⟨.bool _,rfl⟩ (fun _=>rfl) .nil)),rfl⟩
    ·skip
     have hk:=hg0.keep hs fun b hb=>hw.block b (hl0 b hb)
     cases hk with
     | cons g1 o1 tx=>
      cases tx with
      | cons g2 o2 tx=>
       cases tx
       exact ⟨_,_,rfl,hw,hn0,fun _ h=>h,_,_,_,rfl,rfl,⟨⟨_,_,rfl,rfl,rfl,rfl⟩,rfl,rfl,trivial⟩,.cons g1 o1 (.cons g2 o2 (.cons ⟨.bool _,rfl⟩ (fun _=>rfl) .nil)),by simp⟩
 refine ⟨fun args w=> ?_,rfl,fun w F xs vs r hF hargs hr=> ?_,fun _ _ _ hc=>(by cases hc),fun _ _ _ hc=>(by cases hc),fun K rest hK hps _ w F x0 v0 l0 xs vs r hF hn0 hp0 hx0 hargs hr=> ?_,fun hc=>(by cases hc)⟩
 ·have h1:fn.name≠ "runtime.NumGoroutine":=by simpa using hname
  have h2:fn.body≠none:=fun e=>by rw[e] at hb;cases hb
  simp[callFunc,hf,h1,h2]
 ·cases hargs with
  | cons h _ ht=>
   cases ht
   refine (key w F _ _ [] r hF List.nodup_nil (by simp) h hr).mono fun e w' he=> ?_
   obtain ⟨v,l,rfl,hw,hn,hl,hs⟩:=he
   have:l=[]:=List.eq_nil_iff_forall_not_mem.2 fun b hb=>by have:=hl b hb;simp at this
   subst this
   exact ⟨v,F,[],rfl,⟨hw.os,hw.tape,hw.output,hw.size,hw.block,fun _ h=>h,fun _ h=>.inl h,fun b h=>Nat.lt_of_lt_of_le (hF b h) hw.size⟩,List.nodup_nil,hs,by simp,fun hc=>by cases hc⟩
 ·simp only[List.cons.injEq] at hps
  obtain ⟨rfl,rfl⟩:=hps
  cases hargs
  refine (key w F x0 v0 l0 r hF hn0 (fun b hb=>(hp0 b hb).1) hx0 hr).mono fun e w' he=> ?_
  obtain ⟨v,l,rfl,hw,hn,hl,hs⟩:=he
  exact ⟨v,F,l,rfl,⟨hw.os,hw.tape,hw.output,hw.size⟩,fun b hb _=>hw.block b hb,fun _ h=>h,fun _ h=>.inl h,fun b hb=>Nat.lt_of_lt_of_le (hF b hb) hw.size,hn,hs,fun b hb=>⟨.inl (hl b hb),Nat.lt_of_lt_of_le (hp0 b (hl b hb)).1 hw.size,(hp0 b (hl b hb)).2⟩⟩
end Go.Proofs.YtenddofcogldfaaGreatDoor
