import Derived.Test.YtenddofcogldfaaGreatDoorProg
import Derived.Test.YtenddofcogldfaaGreatDoorBase3
import Derived.Test.YtenddofcogldfaaGreatDoorMark
import Derived.Laws.CopyOwn
import Derived.Lib.AppendZerosOnto
import Derived.Lib.Overlaps
import Derived.Laws.Append
import Derived.Shelf.RegionOpenPlain
import Derived.Laws.Externs
namespace Go.Proofs.YtenddofcogldfaaGreatDoor
open Go.RowKit
set_option linter.unusedVariables false
set_option linter.unusedSimpArgs false
theorem ZfM {P:Program} {w:World} {ty elem:TypeId} (dT sT:TypeId) (hu:P.underlying dT=some (.slice elem)) {sz:Nat} (hsz:(P.info? elem).map (·.size)=some sz)
 (g off dLen dCap:Nat) (a:Addr) (sLen sCap:Nat) (cur:List Value) (t:TypeId) (hg:w.heap[g]?=some (.cells cur.toArray t (0,0))) (cs:List Value) (hn:cs.length=Nat.min sLen dLen * sz)
 (hsrc:∀j v,cs[j]?=some v→w.cell? (a.add j)=some v) (hfit:off+cs.length≤cur.length) (h1:∀v∈cs,v.oneCell'=true):
 (Builtin.copy_ #[dT,sT] ty #[.slice (some ⟨g,off,none⟩) dLen dCap,.slice (some a) sLen sCap]).run P w=.ok (goInt (Nat.min sLen dLen)) (w.setRow g (Go.splice cur off cs).toArray):=by
 have hl:=run_loadCells_list (P:=P) w a cs hsrc
 have hst:=run_storeCells_at P g off t cs 0 cur.toArray w hg (by simpa using hfit) h1
 cases hq:P.info? elem with
 |none=>simp[hq] at hsz
 | some i=>
  have hi:i.size=sz:=by simpa[hq] using hsz
  simp[Builtin.copy_,run_underlying hu,Builtin.lenOf,Builtin.firstCells,sizeOf,typeInfo,hq,hi,←hn,hl,hst,Go.splice]
theorem Zhk {P:Program} (w:World) {ops:Array Oper} {rest:List Oper} {o:Oper} {a:Act} {Q:Exit→Act→World→Prop} (hgd:o.guard=none) (d s:Operand) (t t':TypeId)
 (ho:o.op=.call {callee:=.builtin .copy,args:= #[d,s],argTypes:= #[t,t']}) (v u:Value) (hd:a.eval d=v) (hs:a.eval s=u) {v':Value} {w':World}
 (hr:(Builtin.copy_ #[t,t'] o.type #[v,u]).run P w=.ok v' w') (h:wpList P ops Q rest (a.put o.dst v') w'):wpList P ops Q (o::rest) a w:=
 wpList_plain hgd fun K hK=>by
  have h2:=hK _ _ h
  unfold Oper.wp execOp
  simp only[ho,resolve,invoke,builtin,Sem.run_bind,Sem.run_pure,Result.andThen_ok,List.map_toArray,List.map_cons,List.map_nil,hd,hs,hr]
  exact h2
theorem Zj6 {P:Program} {ops:Array Oper} {o:Oper} {a:Act} {w:World} {K:Act→World→Prop} {Q:Exit→Act→World→Prop} {E:Prop}
 (hg:o.guard=none) (d x:Operand) (dT sT:TypeId) (hop:o.op=Op.call {callee:=Callee.builtin Builtin.copy,args:= #[d,x],argTypes:= #[dT,sT]})
 (v u:Value) (hd:a.eval d=v) (hx:a.eval x=u) {v':Value} {w':World} (hr:(Builtin.copy_ #[dT,sT] o.type #[v,u]).run P w=.ok v' w') (hK:K (a.put o.dst v') w'):
 if Region.wanted o (yielded ops a.tmps)=true then Oper.wp P o a w K Q else E:=by
 have hw:Region.wanted o (yielded ops a.tmps)=true:=by simp[Region.wanted,hg]
 rw[if_pos hw]
 unfold Oper.wp
 simp[execOp,hop,resolve,invoke,builtin,hd,hx,hr,Result.andThen]
 exact hK
def Zpi (L V:List Value) (n k:Nat):List Value:=L.take (k * 4)++(V++(L.drop (k * 4)).take ((n - k) * 4))
theorem ZsU {L V:List Value} {n k c:Nat} (hL:L.length=c * 4) (hV:V.length=4) (hk:k<n) (hc:n+1≤c):
 (Go.splice (Go.splice L ((k+1) * 4) ((L.drop (k * 4)).take ((n - k) * 4))) (k * 4) V).take ((n+1) * 4)=Zpi L V n k∧(Go.splice (Go.splice L ((k+1) * 4) ((L.drop (k * 4)).take ((n - k) * 4))) (k * 4) V).length=c * 4:=by
 obtain ⟨M,hM⟩:∃M,(L.drop (k * 4)).take ((n - k) * 4)=M:=⟨_,rfl⟩
 have hMl:M.length=(n - k) * 4:=by rw[←hM,List.length_take,List.length_drop];omega
 unfold Zpi
 rw[hM]
 unfold Go.splice
 constructor
 ·apply List.ext_getElem?
  intro j
  simp only[List.getElem?_take,List.getElem?_append,List.length_take,List.length_append,List.length_drop,List.getElem?_drop]
  rw[hL,hV,hMl]
  by_cases h1:j<k * 4
  ·have e1:j<(n+1) * 4:=by omega
   have e2:j<min (k * 4) (min ((k+1) * 4) (c * 4)+((n - k) * 4+(c * 4 - ((k+1) * 4+(n - k) * 4)))):=by omega
   have e3:j<min ((k+1) * 4) (c * 4):=by omega
   have e4:j<min (k * 4) (c * 4):=by omega
   have e5:j<(k+1) * 4:=by omega
   simp only[h1,e1,e2,e3,e4,e5,if_true]
  ·by_cases h2:j<k * 4+4
   ·have e1:j<(n+1) * 4:=by omega
    have e2:¬j<min (k * 4) (min ((k+1) * 4) (c * 4)+((n - k) * 4+(c * 4 - ((k+1) * 4+(n - k) * 4)))):=by omega
    have e3:j - min (k * 4) (min ((k+1) * 4) (c * 4)+((n - k) * 4+(c * 4 - ((k+1) * 4+(n - k) * 4))))<4:=by omega
    have e4:¬j<min (k * 4) (c * 4):=by omega
    have e5:j - min (k * 4) (c * 4)<4:=by omega
    have e6:j - min (k * 4) (min ((k+1) * 4) (c * 4)+((n - k) * 4+(c * 4 - ((k+1) * 4+(n - k) * 4))))=j - min (k * 4) (c * 4):=by omega
    simp only[e1,e2,e3,e4,e5,e6,if_true,if_false]
   ·by_cases h3:j<(n+1) * 4
    ·have e2:¬j<min (k * 4) (min ((k+1) * 4) (c * 4)+((n - k) * 4+(c * 4 - ((k+1) * 4+(n - k) * 4)))):=by omega
     have e3:¬j - min (k * 4) (min ((k+1) * 4) (c * 4)+((n - k) * 4+(c * 4 - ((k+1) * 4+(n - k) * 4))))<4:=by omega
     have e4:¬j<min (k * 4) (c * 4):=by omega
     have e5:¬j - min (k * 4) (c * 4)<4:=by omega
     obtain ⟨q,hq⟩:∃q,k * 4+4+(j - min (k * 4) (min ((k+1) * 4) (c * 4)+((n - k) * 4+(c * 4 - ((k+1) * 4+(n - k) * 4)))) - 4)=q:=⟨_,rfl⟩
     have hqj:q=j:=by omega
     have e6:¬j<min ((k+1) * 4) (c * 4):=by omega
     have e7:j - min ((k+1) * 4) (c * 4)<(n - k) * 4:=by omega
     have e8:j - min ((k+1) * 4) (c * 4)=j - min (k * 4) (c * 4) - 4:=by omega
     simp only[h3,e2,e3,e4,e5,if_true,if_false,hq]
     rw[hqj]
     have e9:j - min (k * 4) (c * 4) - 4<(n - k) * 4:=by omega
     simp only[e6,e7,e8,e9,if_true,if_false]
    ·rw[if_neg h3]
     have e4:¬j<min (k * 4) (c * 4):=by omega
     have e5:¬j - min (k * 4) (c * 4)<4:=by omega
     simp only[e4,e5,if_false]
     rw[List.getElem?_eq_none (by rw[hMl];omega)]
 ·simp only[List.length_append,List.length_take,List.length_drop]
  rw[hL,hV,hMl]
  omega
theorem ZsV {L V Z Z2:List Value} {n k c:Nat} (hL:L.length=c * 4) (hV:V.length=4) (hk:k<n) (hc:n≤c) (hZ:Z.length=(n+1 - k) * 4):
 (Go.splice (Go.splice (L.take (k * 4)++Z++Z2) (k * 4) V) ((k+1) * 4) ((L.drop (k * 4)).take ((n - k) * 4))).take ((n+1) * 4)=Zpi L V n k∧(Go.splice (Go.splice (L.take (k * 4)++Z++Z2) (k * 4) V) ((k+1) * 4) ((L.drop (k * 4)).take ((n - k) * 4))).length=(n+1) * 4+Z2.length:=by
 obtain ⟨M,hM⟩:∃M,(L.drop (k * 4)).take ((n - k) * 4)=M:=⟨_,rfl⟩
 have hMl:M.length=(n - k) * 4:=by rw[←hM,List.length_take,List.length_drop];omega
 have hTl:(L.take (k * 4)).length=k * 4:=by rw[List.length_take];omega
 unfold Zpi
 rw[hM]
 obtain ⟨T,hT⟩:∃T,L.take (k * 4)=T:=⟨_,rfl⟩
 rw[hT] at hTl⊢
 have e1:Go.splice (T++Z++Z2) (k * 4) V=T++(V++(T++Z++Z2).drop (k * 4+4)):=by
  unfold Go.splice
  rw[hV,List.append_assoc,List.take_left' hTl]
 obtain ⟨D,hD⟩:∃D,(T++Z++Z2).drop (k * 4+4)=D:=⟨_,rfl⟩
 have hDl:D.length=(n - k) * 4+Z2.length:=by
  rw[←hD]
  simp only[List.length_drop,List.length_append,hTl,hZ]
  omega
 rw[e1,hD]
 have hTV:(T++V).length=(k+1) * 4:=by rw[List.length_append,hTl,hV];omega
 have e2:Go.splice (T++(V++D)) ((k+1) * 4) M=T++V++(M++D.drop ((n - k) * 4)):=by
  unfold Go.splice
  rw[show T++(V++D)=(T++V)++D from (List.append_assoc _ _ _).symm,List.take_left' hTV,hMl,←List.drop_drop,List.drop_left' hTV]
 rw[e2]
 constructor
 ·have:(T++V++M).length=(n+1) * 4:=by rw[List.length_append,hTV,hMl];omega
  rw[←List.append_assoc,List.take_left' this,List.append_assoc]
 ·simp only[List.length_append,List.length_drop,hTl,hV,hMl,hDl]
  omega
theorem Zpj {w:World} {g vb:Nat} {L V:List Value} {T:TypeId} (hvb:vb≠g) (hL:0<L.length) (hg:w.heap[g]?=some (.cells L.toArray T (0,0))) (hv:w.heap[vb]?=some (.cells V.toArray T (0,0))) (off lb cb:Nat):
 (callFunc 76 #[.slice (some ⟨vb,0,none⟩) 1 1,.slice (some ⟨g,off,none⟩) lb cb]).run Tryz.prog w=.ok (.value (.bool false)) w:=by
 have hz:∀w,(Go.sizeOf 51).run Tryz.prog w=.ok 4 w:=fun w=>by
  have:(Tryz.prog.info? 51).map (·.size)=some 4:=by kernel_rfl
  cases hq:Tryz.prog.info? 51 with
  |none=>simp[hq] at this
  |some i=>simp[hq] at this;simp[sizeOf,typeInfo,hq,this]
 rw[run_callFunc_extern Tryz.func76 (by kernel_rfl) (by kernel_rfl) (by kernel_rfl) (e:=Extern.SlicesOverlaps.overlaps #[29,29] #[4]) (by kernel_rfl),
  Lib.run_overlaps_apart w 29 4 51 Tryz.underlying29 4 hz ⟨vb,0,none⟩ ⟨g,off,none⟩ 1 1 lb cb hvb T T V.length L.length (by simp[World.shape?,hv]) (by simp[World.shape?,hg]) (by omega) (by simp[World.frozen?,hv]) (by simp[World.frozen?,hv])]
 rfl
theorem Zeh {w:World} {g:Nat} {L:List Value} {e:TypeId} (h:w.heap[g]?=some (.cells L.toArray e (0,0))) (o:Nat) {j:Nat} {x:Value} (hx:L[o+j]?=some x):w.cell? ((⟨g,o,none⟩:Addr).add j)=some x:=by
 have:(⟨g,o,none⟩:Addr).add j=⟨g,o+j,none⟩:=by
  by_cases h0:j=0
  ·subst h0;rfl
  ·simp[Addr.add,h0]
 rw[this]
 simp[World.cell?,h,hx]
theorem Zhl {w:World} {D:Nat→Prop} {g:Nat} (hD:D g) (c:Array Value):Touch D w (w.setRow g c):=
 ⟨rfl,rfl,rfl,by simp[World.setRow],fun b hb hn=>by
  have:g≠b:=fun e=>hn (e▸hD)
  simp[World.setRow,Array.getElem?_modify,this]⟩
set_option maxRecDepth 20000 in
set_option maxHeartbeats 2000000 in
theorem Zn5 (g c n k vb:Nat) (L V:List Value) (w:World) (hk:k<n) (hc:n+1≤c) (hn63:n≤1000000) (hc63:c≤9223372036854775807) (hvb:vb≠g) (hL:L.length=c * 4) (hV:V.length=4) (hg:w.heap[g]?=some (.cells L.toArray 51 (0,0)))
 (hv:w.heap[vb]?=some (.cells V.toArray 51 (0,0))) (h1L:∀v∈L.take (n * 4),v.oneCell'=true) (h1V:∀v∈V,v.oneCell'=true):
 Calls Tryz.prog 49 #[.slice (some ⟨g,0,none⟩) n c,.int .i64 k,.slice (some ⟨vb,0,none⟩) 1 1] w fun e w'=>∃L':List Value,e=.returned (.slice (some ⟨g,0,none⟩) (n+1) c)∧w'.heap[g]?=some (.cells L'.toArray 51 (0,0))∧L'.length=c * 4∧L'.take ((n+1) * 4)=Zpi L V n k∧Touch (fun b=>b=g) w w':=by
 obtain ⟨M,hM⟩:∃M,(L.drop (k * 4)).take ((n - k) * 4)=M:=⟨_,rfl⟩
 have hMl:M.length=(n - k) * 4:=by rw[←hM,List.length_take,List.length_drop];omega
 have hMm:∀v∈M,v.oneCell'=true:=fun v hm=>h1L v (by rw[←hM,show (n - k) * 4=n * 4 - k * 4 by omega,←List.drop_take] at hm;exact List.mem_of_mem_drop hm)
 have hMc:∀j v,M[j]?=some v→L[k * 4+j]?=some v:=fun j v hj=>by
  rw[←hM,List.getElem?_take] at hj
  split at hj
  ·rwa[List.getElem?_drop] at hj
  ·cases hj
 obtain ⟨r1,r2⟩:=ZsU hL hV hk hc
 rw[hM] at r1 r2
 obtain ⟨L1,hL1⟩:∃L1,Go.splice L ((k+1) * 4) M=L1:=⟨_,rfl⟩
 rw[hL1] at r1 r2
 have hL1l:L1.length=c * 4:=by rw[←hL1];simp only[Go.splice,List.length_append,List.length_take,List.length_drop,hL,hMl];omega
 have hsz:(Tryz.prog.info? 51).map (·.size)=some 4:=by kernel_rfl
 have hcp1:∀(W:World) (ty:TypeId) (dc sc:Nat),W.heap[g]?=some (.cells L.toArray 51 (0,0))→(Builtin.copy_ #[29,29] ty #[.slice (some ⟨g,(k+1) * 4,none⟩) (n+1 - (k+1)) dc,.slice (some ⟨g,k * 4,none⟩) (n+1 - k) sc]).run Tryz.prog W=.ok (goInt (n - k:Nat)) (W.setRow g L1.toArray):=fun W ty dc sc hW=>by
  have h:=ZfM (P:=Tryz.prog) (w:=W) (ty:=ty) 29 29 Tryz.underlying29 hsz g ((k+1) * 4) (n+1 - (k+1)) dc ⟨g,k * 4,none⟩ (n+1 - k) sc L 51 hW M (by rw[hMl,show Nat.min (n+1 - k) (n+1 - (k+1))=n - k by show min _ _=_;omega]) (fun j v hj=>Zeh hW _ (hMc j v hj)) (by rw[hMl,hL];omega) hMm
  rw[hL1,show Nat.min (n+1 - k) (n+1 - (k+1))=n - k by show min _ _=_;omega] at h
  exact h
 have hcp2:∀(W:World) (ty:TypeId) (dc:Nat),W.heap[g]?=some (.cells L1.toArray 51 (0,0))→W.heap[vb]?=some (.cells V.toArray 51 (0,0))→(Builtin.copy_ #[29,29] ty #[.slice (some ⟨g,k * 4,none⟩) (n+1 - k) dc,.slice (some ⟨vb,0,none⟩) 1 1]).run Tryz.prog W=.ok (goInt (1:Nat)) (W.setRow g (Go.splice L1 (k * 4) V).toArray):=fun W ty dc hW hW2=>by
  have h:=ZfM (P:=Tryz.prog) (w:=W) (ty:=ty) 29 29 Tryz.underlying29 hsz g (k * 4) (n+1 - k) dc ⟨vb,0,none⟩ 1 1 L1 51 hW V (by rw[hV,show Nat.min 1 (n+1 - k)=1 by show min _ _=_;omega]) (fun j v hj=>Zeh hW2 0 (by rwa[Nat.zero_add])) (by rw[hV,hL1l];omega) h1V
  rw[show Nat.min 1 (n+1 - k)=1 by show min _ _=_;omega] at h
  exact h
 have HL:=Ze hL;have HV:=Ze hV;have HM:=Ze hM;have HMl:=Ze hMl;have HL1l:=Ze hL1l;have HR1:=Ze r1;have HR2:=Ze r2;have HL1:=Ze hL1;have HC1:=Ze hcp1;have HC2:=Ze hcp2;have HG:=Ze hg;have HVB:=Ze hv
 have hov:∀lb cb,(callFunc 76 #[.slice (some ⟨vb,0,none⟩) 1 1,.slice (some ⟨g,(k+1) * 4,none⟩) lb cb]).run Tryz.prog w=.ok (.value (.bool false)) w:=fun lb cb=>Zpj hvb (by rw[hL];omega) hg hv _ _ _
 clear hL hV hM hMl hMm hMc hL1l r1 r2 hL1 hcp1 hcp2 hg hv h1L h1V
 have hw1:IntKind.i64.wrap ((n:Int)+1)=(n:Int)+1:=by rw[IntKind.wrap_i64];omega
 have hw2:IntKind.i64.wrap ((k:Int)+1)=(k:Int)+1:=by rw[IntKind.wrap_i64];omega
 have hz2:¬((k:Int)=(n:Int)):=by omega
 have hn1:¬((c:Int)<(n:Int)+1):=by omega
 have hb1:(0:Int)≤(k:Int)+1:=by omega
 have hb2:¬(c=k+1):=by omega
 have hb3:¬(c=k):=by omega
 have hb4:k≤n:=by omega
 have hb5:k≤n+1:=by omega
 have hb6:(k:Int)≤(n:Int)+1:=by omega
 have mixed:Tryz.prog.follows .mixedOrders=true:=by kernel_rfl
 go_enter Tryz.func49,Tryz.ntmps49
 go_wp2_with (simp only[hov])
 have hrun1:=HC1.out w.drew 3 (c - (k+1)) (c - k) HG.out
 go_region_law_o (refine Zj6 rfl _ _ 29 29 rfl _ _ (by simp[Act.eval,Act.put];try rfl) (by simp[Act.eval,Act.put];try rfl) hrun1 ?_)
 have hg1:(w.drew.setRow g L1.toArray).heap[g]?=some (.cells L1.toArray 51 (0,0)):=setRow_heap w.drew g _ _ _ _ HG.out
 have hv1:(w.drew.setRow g L1.toArray).heap[vb]?=some (.cells V.toArray 51 (0,0)):=by
  have hne:g≠vb:=fun e=>hvb e.symm
  exact (show (w.drew.setRow g L1.toArray).heap[vb]?=w.heap[vb]? by unfold World.setRow;rw[Array.getElem?_modify,if_neg hne];rfl).trans HVB.out
 have hrun2:=HC2.out _ 3 (c - k) hg1 hv1
 have hg2:((w.drew.setRow g L1.toArray).setRow g (Go.splice L1 (k * 4) V).toArray).heap[g]?=some (.cells (Go.splice L1 (k * 4) V).toArray 51 (0,0)):=setRow_heap _ g _ _ _ _ hg1
 have ht:Touch (fun b=>b=g) w ((w.drew.setRow g L1.toArray).setRow g (Go.splice L1 (k * 4) V).toArray):=by
  have h1:=Zhl (w:=w.drew) (D:=fun b=>b=g) rfl L1.toArray
  have h2:=Zhl (w:=w.drew.setRow g L1.toArray) (D:=fun b=>b=g) rfl (Go.splice L1 (k * 4) V).toArray
  exact ⟨h2.os.trans h1.os,h2.tape.trans h1.tape,h2.output.trans h1.output,Nat.le_trans h1.size h2.size,fun b hb hn=>(h2.block b (Nat.lt_of_lt_of_le hb h1.size) hn).trans (h1.block b hb hn)⟩
 have HF:=Ze hg2;have HT:=Ze ht
 clear hg1 hv1 hg2 ht hrun1 hov
 go_wp2_with (at_builtin;refine Zhk _ rfl _ _ 29 29 rfl _ _ rfl rfl hrun2 ?_)
 go_ret
 exact ⟨_,rfl,HF.out,HR2.out,HR1.out,HT.out⟩
set_option maxRecDepth 20000 in
set_option maxHeartbeats 2000000 in
theorem Zn6 (g c n k vb:Nat) (L V:List Value) (w:World) (hk:k<n) (hnc:n≤c) (hc:c<n+1) (hn63:n≤1000000) (hc63:c≤9223372036854775807) (hvb:vb≠g) (hL:L.length=c * 4) (hV:V.length=4) (hg:w.heap[g]?=some (.cells L.toArray 51 (0,0)))
 (hv:w.heap[vb]?=some (.cells V.toArray 51 (0,0))) (h1L:∀v∈L.take (n * 4),v.oneCell'=true) (h1V:∀v∈V,v.oneCell'=true):
 Calls Tryz.prog 49 #[.slice (some ⟨g,0,none⟩) n c,.int .i64 k,.slice (some ⟨vb,0,none⟩) 1 1] w fun e w'=>∃(c':Nat) (L':List Value),e=.returned (.slice (some ⟨w.heap.size,0,none⟩) (n+1) c')∧n+1≤c'∧c'≤maxLen∧w'.heap[w.heap.size]?=some (.cells L'.toArray 51 (0,0))∧L'.length=c' * 4∧L'.take ((n+1) * 4)=Zpi L V n k∧Below w.heap.size w w':=by
 have hlg:g<w.heap.size:=(Array.getElem?_eq_some_iff.1 hg).1
 have hlv:vb<w.heap.size:=(Array.getElem?_eq_some_iff.1 hv).1
 obtain ⟨i0,hi0,hz0,hi1,hi2,hzc⟩:∃i,Tryz.prog.info? 51=some i∧(∃z,i.zero=some z∧z.cells.size=4)∧i.size=4∧i.bytes=72∧True:=by
  have h1:(Tryz.prog.info? 51).map (fun i=>(i.zero.map (fun z=>z.cells.size),i.size,i.bytes))=some (some 4,4,72):=by kernel_rfl
  obtain ⟨i,hi,h0⟩:=Option.map_eq_some_iff.1 h1
  simp only[Prod.mk.injEq] at h0
  obtain ⟨z,hz,hzs⟩:=Option.map_eq_some_iff.1 h0.1
  exact ⟨i,hi,⟨z,hz,hzs⟩,h0.2.1,h0.2.2,trivial⟩
 obtain ⟨z,hz0,hzs⟩:=hz0
 obtain ⟨M,hM⟩:∃M,(L.drop (k * 4)).take ((n - k) * 4)=M:=⟨_,rfl⟩
 have hMl:M.length=(n - k) * 4:=by rw[←hM,List.length_take,List.length_drop];omega
 have hMm:∀v∈M,v.oneCell'=true:=fun v hm=>h1L v (by rw[←hM,show (n - k) * 4=n * 4 - k * 4 by omega,←List.drop_take] at hm;exact List.mem_of_mem_drop hm)
 have hMc:∀j v,M[j]?=some v→L[k * 4+j]?=some v:=fun j v hj=>by
  rw[←hM,List.getElem?_take] at hj
  split at hj
  ·rwa[List.getElem?_drop] at hj
  ·cases hj
 have hsz:(Tryz.prog.info? 51).map (·.size)=some 4:=by kernel_rfl
 obtain ⟨G,hG⟩:∃G,G=grownCap w (n+1) c 51:=⟨_,rfl⟩
 have hGn:n+1≤G:=by rw[hG];exact grownCap_ge w _ _ _
 have hG63:G≤maxLen:=by rw[hG];exact grownCap_le_maxLen w _ _ _ (by unfold maxLen;omega)
 have hold:(Builtin.firstCells i0.size k (.slice (some ⟨g,0,none⟩) k c)).run Tryz.prog w.drew=.ok (L.take (k * 4)).toArray w.drew:=by
  have hl:=run_loadCells_list (P:=Tryz.prog) w.drew ⟨g,0,none⟩ (L.take (k * 4)) (fun j v hj=>Zeh (w:=w.drew) hg 0 (by
   rw[Nat.zero_add]
   rw[List.getElem?_take] at hj
   split at hj
   ·exact hj
   ·cases hj))
  rw[hi1]
  rw[show (L.take (k * 4)).length=k * 4 by rw[List.length_take];omega] at hl
  exact hl
 have hrz:∀ty,(Builtin.append_ #[29,3] ty #[.slice (some ⟨g,0,none⟩) k c,.int .i64 ((n:Int)+1 - (k:Int))]).run Tryz.prog w=
  .ok (.slice (some ⟨w.heap.size,0,none⟩) (n+1) G) (w.drew.alloc (.cells ((L.take (k * 4)).toArray++Builtin.zeroCells z.cells (n+1 - k)++Builtin.zeroCells z.cells (G - (n+1))) 51)):=fun ty=>by
  have h:=Lib.run_append_grow_zeros (P:=Tryz.prog) w 29 3 ty 51 i0 z .i64 .i64 Tryz.underlying29 Tryz.underlying3 hi0 hz0 (some ⟨g,0,none⟩) k c (L.take (k * 4)) hold (n+1 - k) (by omega) (by omega) (by omega) (by omega) (by rw[hi2];omega) (by rw[hi2,show k+(n+1 - k)=n+1 by omega];exact growslice_fits hc (by omega))
  rw[show k+(n+1 - k)=n+1 by omega,←hG,show ((n+1 - k:Nat):Int)=(n:Int)+1 - (k:Int) by omega] at h
  exact h
 obtain ⟨Z,hZ,hZl⟩:∃Z:List Value,Builtin.zeroCells z.cells (n+1 - k)=Z.toArray∧Z.length=(n+1 - k) * 4:=⟨(Builtin.zeroCells z.cells (n+1 - k)).toList,by simp,by simp[Builtin.zeroCells,hzs]⟩
 obtain ⟨Z2,hZ2,hZ2l⟩:∃Z:List Value,Builtin.zeroCells z.cells (G - (n+1))=Z.toArray∧Z.length=(G - (n+1)) * 4:=⟨(Builtin.zeroCells z.cells (G - (n+1))).toList,by simp,by simp[Builtin.zeroCells,hzs]⟩
 rw[hZ,hZ2] at hrz
 obtain ⟨r1,r2⟩:=ZsV (Z2:=Z2) hL hV hk hnc hZl
 rw[hM] at r1 r2
 obtain ⟨R,hR⟩:∃R,L.take (k * 4)++Z++Z2=R:=⟨_,rfl⟩
 have hRl:R.length=G * 4:=by rw[←hR];simp only[List.length_append,List.length_take,hL,hZl,hZ2l];omega
 rw[hR] at r1 r2
 have hRa:(L.take (k * 4)).toArray++Z.toArray++Z2.toArray=R.toArray:=by rw[←hR];simp
 rw[hRa] at hrz
 obtain ⟨R1,hR1⟩:∃R1,Go.splice R (k * 4) V=R1:=⟨_,rfl⟩
 have hR1l:R1.length=G * 4:=by rw[←hR1];simp only[Go.splice,List.length_append,List.length_take,List.length_drop,hRl,hV];omega
 rw[hR1] at r1 r2
 have hcp1:∀(W:World) (ty:TypeId) (dc:Nat),W.heap[w.heap.size]?=some (.cells R.toArray 51 (0,0))→W.heap[vb]?=some (.cells V.toArray 51 (0,0))→(Builtin.copy_ #[29,29] ty #[.slice (some ⟨w.heap.size,k * 4,none⟩) (n+1 - k) dc,.slice (some ⟨vb,0,none⟩) 1 1]).run Tryz.prog W=.ok (goInt (1:Nat)) (W.setRow w.heap.size R1.toArray):=fun W ty dc hW hW2=>by
  have h:=ZfM (P:=Tryz.prog) (w:=W) (ty:=ty) 29 29 Tryz.underlying29 hsz w.heap.size (k * 4) (n+1 - k) dc ⟨vb,0,none⟩ 1 1 R 51 hW V (by rw[hV,show Nat.min 1 (n+1 - k)=1 by show min _ _=_;omega]) (fun j v hj=>Zeh hW2 0 (by rwa[Nat.zero_add])) (by rw[hV,hRl];omega) h1V
  rw[show Nat.min 1 (n+1 - k)=1 by show min _ _=_;omega,hR1] at h
  exact h
 have hcp2:∀(W:World) (ty:TypeId) (dc sc:Nat),W.heap[w.heap.size]?=some (.cells R1.toArray 51 (0,0))→W.heap[g]?=some (.cells L.toArray 51 (0,0))→(Builtin.copy_ #[29,29] ty #[.slice (some ⟨w.heap.size,(k+1) * 4,none⟩) (n+1 - (k+1)) dc,.slice (some ⟨g,k * 4,none⟩) (n - k) sc]).run Tryz.prog W=.ok (goInt (n - k:Nat)) (W.setRow w.heap.size (Go.splice R1 ((k+1) * 4) M).toArray):=fun W ty dc sc hW hW2=>by
  have h:=ZfM (P:=Tryz.prog) (w:=W) (ty:=ty) 29 29 Tryz.underlying29 hsz w.heap.size ((k+1) * 4) (n+1 - (k+1)) dc ⟨g,k * 4,none⟩ (n - k) sc R1 51 hW M (by rw[hMl,show Nat.min (n - k) (n+1 - (k+1))=n - k by show min _ _=_;omega]) (fun j v hj=>Zeh hW2 _ (hMc j v hj)) (by rw[hMl,hR1l];omega) hMm
  rw[show Nat.min (n - k) (n+1 - (k+1))=n - k by show min _ _=_;omega] at h
  exact h
 obtain ⟨W1,hW1⟩:∃W1,W1=w.drew.alloc (.cells R.toArray 51):=⟨_,rfl⟩
 have q1:W1.heap[w.heap.size]?=some (.cells R.toArray 51 (0,0)):=by rw[hW1];exact heap_alloc_new w.drew _
 have q2:W1.heap[g]?=some (.cells L.toArray 51 (0,0)):=by rw[hW1];exact (heap_alloc_old w.drew _ hlg).trans hg
 have q3:W1.heap[vb]?=some (.cells V.toArray 51 (0,0)):=by rw[hW1];exact (heap_alloc_old w.drew _ hlv).trans hv
 have q0:Below w.heap.size w W1:=by rw[hW1];exact (Below.refl _ _).drew.alloc (Nat.le_refl _) _
 rw[←hW1] at hrz
 have hrun2:=hcp1 W1 3 (G - k) q1 q3
 have p1:(W1.setRow w.heap.size R1.toArray).heap[w.heap.size]?=some (.cells R1.toArray 51 (0,0)):=setRow_heap _ _ _ _ _ _ q1
 have p2:(W1.setRow w.heap.size R1.toArray).heap[g]?=some (.cells L.toArray 51 (0,0)):=by
  have hne:¬w.heap.size=g:=by omega
  exact (show (W1.setRow w.heap.size R1.toArray).heap[g]?=W1.heap[g]? by unfold World.setRow;rw[Array.getElem?_modify,if_neg hne]).trans q2
 have p0:Below w.heap.size w (W1.setRow w.heap.size R1.toArray):=Go.below_setRow q0 (Nat.le_refl _) _
 obtain ⟨W2,hW2⟩:∃W2,W2=W1.setRow w.heap.size R1.toArray:=⟨_,rfl⟩
 rw[←hW2] at hrun2 p0 p1 p2
 have hrun3:=hcp2 W2.drew 3 (G - (k+1)) (c - k) p1 p2
 have s1:(W2.drew.setRow w.heap.size (Go.splice R1 ((k+1) * 4) M).toArray).heap[w.heap.size]?=some (.cells (Go.splice R1 ((k+1) * 4) M).toArray 51 (0,0)):=setRow_heap W2.drew _ _ _ _ _ p1
 have s0:Below w.heap.size w (W2.drew.setRow w.heap.size (Go.splice R1 ((k+1) * 4) M).toArray):=Go.below_setRow p0.drew (Nat.le_refl _) _
 rw[hZ2l] at r2
 have r3:(Go.splice R1 ((k+1) * 4) M).length=G * 4:=by rw[r2];omega
 have HR1:=Ze r1;have HR3:=Ze r3;have HS0:=Ze s0;have HS1:=Ze s1
 clear hcp1 hcp2 q0 q1 q2 q3 p0 p1 p2 s0 s1 r1 r2 r3 hMc hMm hMl hM hZ hZl hZ2 hZ2l hR hRl hRa hR1 hR1l hold hi0 hz0 hzs hi1 hi2 hG hsz hL hV hg hv h1L h1V hW1 hW2
 have hw1:IntKind.i64.wrap ((n:Int)+1)=(n:Int)+1:=by rw[IntKind.wrap_i64];omega
 have hw2:IntKind.i64.wrap ((k:Int)+1)=(k:Int)+1:=by rw[IntKind.wrap_i64];omega
 have hw3:IntKind.i64.wrap ((n:Int)+1 - (k:Int))=(n:Int)+1 - (k:Int):=by rw[IntKind.wrap_i64];omega
 have hz2:¬((k:Int)=(n:Int)):=by omega
 have hn1:(c:Int)<(n:Int)+1:=by omega
 have hb1:(0:Int)≤(k:Int)+1:=by omega
 have hb2:¬(G=k+1):=by omega
 have hb3:¬(G=k):=by omega
 have hb7:¬(c=k):=by omega
 have hb4:k≤n:=by omega
 have hb8:k≤c:=by omega
 have hb5:k≤n+1:=by omega
 have hb6:(k:Int)≤(n:Int)+1:=by omega
 have mixed:Tryz.prog.follows .mixedOrders=true:=by kernel_rfl
 go_enter Tryz.func49,Tryz.ntmps49
 go_wp2_with (first
  |(at_builtin;refine Lib.wpList_append_run _ rfl _ _ _ _ rfl _ _ rfl rfl _ _ (hrz _) ?_)
  |(at_builtin;refine Zhk _ rfl _ _ 29 29 rfl _ _ rfl rfl hrun2 ?_))
 go_region_law_o (refine Zj6 rfl _ _ 29 29 rfl _ _ (by simp[Act.eval,Act.put];try rfl) (by simp[Act.eval,Act.put];try rfl) hrun3 ?_)
 clear hrz hrun2 hrun3
 go_wp2_with fail
 go_ret
 exact ⟨G,_,rfl,hGn,hG63,HS1.out,HR3.out,HR1.out,HS0.out⟩
theorem Zn7 (g c n k vb:Nat) (L V:List Value) (w:World) (hk:k<n) (hnc:n≤c) (hn63:n≤1000000) (hc63:c≤9223372036854775807) (hvb:vb≠g) (hL:L.length=c * 4) (hV:V.length=4) (hg:w.heap[g]?=some (.cells L.toArray 51 (0,0)))
 (hv:w.heap[vb]?=some (.cells V.toArray 51 (0,0))) (h1L:∀v∈L.take (n * 4),v.oneCell'=true) (h1V:∀v∈V,v.oneCell'=true):
 Calls Tryz.prog 49 #[.slice (some ⟨g,0,none⟩) n c,.int .i64 k,.slice (some ⟨vb,0,none⟩) 1 1] w fun e w'=>∃(g' c':Nat) (L':List Value),e=.returned (.slice (some ⟨g',0,none⟩) (n+1) c')∧n+1≤c'∧c'≤maxLen∧(g'=g∨w.heap.size≤g')∧w'.heap[g']?=some (.cells L'.toArray 51 (0,0))∧L'.length=c' * 4∧L'.take ((n+1) * 4)=Zpi L V n k∧Touch (fun b=>b=g) w w':=by
 rcases Nat.lt_or_ge c (n+1) with hc|hc
 ·refine (Zn6 g c n k vb L V w hk hnc hc hn63 hc63 hvb hL hV hg hv h1L h1V).mono fun e w' he=> ?_
  obtain ⟨c',L',rfl,e1,e2,e3,e4,e5,e6⟩:=he
  exact ⟨_,c',L',rfl,e1,e2,.inr (Nat.le_refl _),e3,e4,e5,⟨e6.os,e6.tape,e6.output,e6.size,fun b hb _=>e6.block b hb⟩⟩
 ·refine (Zn5 g c n k vb L V w hk hc hn63 hc63 hvb hL hV hg hv h1L h1V).mono fun e w' he=> ?_
  obtain ⟨L',rfl,e1,e2,e3,e4⟩:=he
  exact ⟨g,c,L',rfl,hc,by unfold maxLen;omega,.inl rfl,e1,e2,e3,e4⟩
end Go.Proofs.YtenddofcogldfaaGreatDoor
