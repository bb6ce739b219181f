import Derived.Test.YtkgnjijonikchaaDoorOwnWn
import Derived.Test.YtkgnjijonikchaaDoorLawCr
import Derived.Test.YtkgnjijonikchaaDoorBuildNetlistP
namespace Go.Proofs.YtkgnjijonikchaaDoor.Lw
open Go.RowKit
set_option linter.unusedVariables false
set_option linter.unusedSimpArgs false
theorem gok_to {w w':World} (h:GOk w fun b=>b<w.heap.size) (hb:Below w.heap.size w w'):GOk w' fun b=>b<w'.heap.size:=h.keep ⟨fun b hb'=>Nat.lt_of_lt_of_le hb' hb.size,fun b hb'=>hb.block b hb'⟩
def ofPW (w:PWire):Wire:=⟨w.name,w.kind,w.ins.map fun p=>⟨p.1,p.2⟩,w.cover⟩
def ofPN (n:PNet):Nl:=⟨n.signals.map fun s=>⟨s.1,s.2⟩,n.wires.map ofPW⟩
theorem ofPN_e (n:PNet):PV.agg [.lst ((ofPN n).signals.map eSigX),.lst ((ofPN n).wires.map eWireX)]=Z0 n:=by
 simp[ofPN,ofPW,eSigX,eWireX,ePinX,Z0,ZK,Zr,Zcu,List.map_map,Function.comp_def]
theorem ofPN_in {n:PNet} (h:NetIn n):NlIn (ofPN n):=by
 refine ⟨fun s hs=> ?_,fun x hx=> ?_⟩
 ·obtain ⟨t,ht,rfl⟩:=List.mem_map.1 hs
  have:=h.sig t ht
  exact ⟨show t.1.length≤_ by omega,show InI t.2 by constructor<;>omega⟩
 ·obtain ⟨w,hw,rfl⟩:=List.mem_map.1 hx
  obtain ⟨h1,h2,h3,h4,h5,h6⟩:=h.wire w hw
  refine ⟨show w.name.length≤_ by omega,show InI w.kind by constructor<;>omega,fun p hp=> ?_,fun s hs=> ?_⟩
  ·obtain ⟨q,hq,rfl⟩:=List.mem_map.1 hp
   have:=h4 q hq
   exact show InI q.1 by constructor<;>omega
  ·have:=h6 s hs
   omega
theorem wcosts_in :∀(l:List PWire),(∀w∈l,w.ins.length≤8∧w.cover.length≤60)→wcosts (l.map ofPW)≤100 * l.length
 |[],_=>by simp[wcosts]
 | w::r,h=>by
  have ih:=wcosts_in r fun w hw=>h w (List.mem_cons_of_mem _ hw)
  have:=h w List.mem_cons_self
  rw[List.map_cons,wcosts,List.length_cons]
  simp only[wcost,ofPW,List.length_map]
  omega
theorem ofPN_len {n:PNet} (h:NetIn n):(ofPN n).signals.length≤8∧(ofPN n).wires.length≤24∧wcosts (ofPN n).wires≤2400:=by
 have h1:=h.s8
 have h2:=h.w24
 have h3:=wcosts_in n.wires fun w hw=>⟨(h.wire w hw).2.2.1,(h.wire w hw).2.2.2.2.1⟩
 refine ⟨by simpa[ofPN] using h1,by simpa[ofPN] using h2, ?_⟩
 show wcosts (n.wires.map ofPW)≤2400
 omega
def toPGt (g:Gt):PGate:=⟨g.sig,g.kind,g.set,g.reset⟩
def toPC (c:Crc):PCirc:=⟨c.signals.map fun s=>(s.name,s.kind),c.gates.map toPGt⟩
theorem encSigX :EncOk Zo2 (fun s=>[.str s.name,pI s.kind]):=Znj (v:=fun x:Sig=>(x.name,x.kind)) (ZgM Zni Znh)
theorem encGtX :EncOk Zpc (fun g=>[pI g.sig,pI g.kind,.lst (g.set.map PV.str),.lst (g.reset.map PV.str)]):=
 Znj (v:=fun x:Gt=>(x.sig,(x.kind,(x.set,x.reset)))) (ZgM Znh (ZgM Znh (ZgM (ZlS Zni rfl) (ZlS Zni rfl))))
theorem encCrcX :EncOk Zrl (fun c=>[.lst (c.signals.map fun s=>.agg [.str s.name,pI s.kind]),.lst (c.gates.map fun g=>.agg [pI g.sig,pI g.kind,.lst (g.set.map PV.str),.lst (g.reset.map PV.str)])]):=
 Znj (v:=fun x:Crc=>(x.signals,x.gates)) (ZgM (ZlR encSigX) (ZlR encGtX))
theorem eCrc_to (c:Crc):PV.agg [.lst (c.signals.map fun s=>.agg [.str s.name,pI s.kind]),.lst (c.gates.map fun g=>.agg [pI g.sig,pI g.kind,.lst (g.set.map PV.str),.lst (g.reset.map PV.str)])]=Zc0 (toPC c):=by
 simp[Zc0,toPC,toPGt,ZK,ZaU,List.map_map,Function.comp_def]
theorem bdSigX :BdOk Zo2 (fun s=>s.name.length≤9223372036854775807):=BdOk.mono (ZpP (v:=fun x:Sig=>(x.name,x.kind)) (ZiI ZpO Znk)) (fun a h=>h.1)
theorem bdGtX :BdOk Zpc (fun g=>(toPGt g).Fit):=
 BdOk.mono (ZpP (v:=fun x:Gt=>(x.sig,(x.kind,(x.set,x.reset)))) (ZiI Znk (ZiI Znk (ZiI (bdSl ZpO) (bdSl ZpO))))) (fun a h=>⟨h.2.2.1.1,h.2.2.1.2,h.2.2.2.1,h.2.2.2.2⟩)
theorem bdCrcX :BdOk Zrl (fun c=>(toPC c).Fit):=
 BdOk.mono (ZpP (v:=fun x:Crc=>(x.signals,x.gates)) (ZiI (bdSl bdSigX) (bdSl bdGtX))) (fun a h=>⟨by simpa[Zae,toPC] using h.1.1,fun s hs=>by
  simp only[toPC,List.mem_map] at hs
  obtain ⟨x,hx,rfl⟩:=hs
  exact h.1.2 x hx,by simpa[Zae,toPC] using h.2.1,fun s hs=>by
  simp only[toPC,List.mem_map] at hs
  obtain ⟨x,hx,rfl⟩:=hs
  exact h.2.2 x hx⟩)
theorem wtL_len {α:Type} (f:α→Nat):∀(l:List α),l.length≤wtL f l
 |[]=>by simp[wtL]
 |x::r=>by have:=wtL_len f r;simp[wtL] at this⊢;try omega
def bnA (c:Crc):Nl×Bool:=(ofPN (bnP (toPC c)).1,(bnP (toPC c)).2)
theorem bnA_bound (c:Crc):(bnA c).1.signals.length≤8∧(bnA c).1.wires.length≤24∧wcosts (bnA c).1.wires≤2400:=ofPN_len (Zob _)
theorem impl_BuildNetlist (c:Crc) (A_c_signals:Option Addr) (c_c_signals:Nat) (A_c_gates:Option Addr) (c_c_gates:Nat) (w:World) (fc0:(c.signals).length≤c_c_signals) (fc1:c_c_signals≤9223372036854775807) (fc2:RA Zo2 w A_c_signals c.signals) (fc3:(c.gates).length≤c_c_gates) (fc4:c_c_gates≤9223372036854775807) (fc5:RA Zpc w A_c_gates c.gates) (hq:wtCrc c≤1048576) (hg:GOk w fun b=>b<w.heap.size):
 Calls Tryd.prog 8 #[.agg #[.slice A_c_signals (c.signals).length c_c_signals,.slice A_c_gates (c.gates).length c_c_gates]] w fun e w'=>∃A' c' A2' c2' hs',e=.returned (.tuple #[.agg #[.slice A' ((bnA c).1.signals).length c',.slice A2' ((bnA c).1.wires).length c2'],.bool (bnA c).2])∧Own Zo2 w' w.heap.size 48 A' c' (bnA c).1.signals∧OwnW w' w.heap.size 95 9 A2' c2' (bnA c).1.wires hs'∧(∀q,blk A'=some q→wB A2' hs' q→False)∧Below w.heap.size w w':=by
 have hr:=ZrW (w:=w) (D:=fun b=>b<w.heap.size) (x:=c) (by assumption) (by assumption) (by assumption) (by assumption) (by assumption) (by assumption)
 have hf:=bdCrcX.out hr
 have hv:=encCrcX.vrAgg hr
 rw[eCrc_to] at hv
 have hm:(toPC c).gates.length≤1048576:=by
  have:=wtL_len wtGt c.gates
  unfold wtCrc at hq
  simp only[toPC,List.length_map]
  omega
 have hs:ZbP.spec [Zc0 (toPC c)]=some (.tup [.agg [.lst ((bnA c).1.signals.map eSigX),.lst ((bnA c).1.wires.map eWireX)],pB (bnA c).2]):=by
  refine ((congrFun (show ZbP.spec=ZbQ from rfl) _).trans (Zhm _ hf hm)).trans ?_
  unfold bnA
  rw[ofPN_e]
 exact ownNet (sz:=1000000) Zhu rfl rfl rfl (.cons hv .nil) hs (ofPN_in (Zob _)) hg
theorem spec_BuildNetlist (c:Crc) (A_c_signals:Option Addr) (c_c_signals:Nat) (A_c_gates:Option Addr) (c_c_gates:Nat) (w:World) (fc0:(c.signals).length≤c_c_signals) (fc1:c_c_signals≤9223372036854775807) (fc2:RA Zo2 w A_c_signals c.signals) (fc3:(c.gates).length≤c_c_gates) (fc4:c_c_gates≤9223372036854775807) (fc5:RA Zpc w A_c_gates c.gates) (hg:GOk w fun b=>b<w.heap.size):
 Calls Tryd.prog 6 #[.agg #[.slice A_c_signals (c.signals).length c_c_signals,.slice A_c_gates (c.gates).length c_c_gates]] w fun e w'=>∃A' c' A2' c2',e=.returned (.tuple #[.agg #[.slice A' ((bnA c).1.signals).length c',.slice A2' ((bnA c).1.wires).length c2'],.bool (bnA c).2])∧Seen Zo2 w' w'.heap.size A' c' (bnA c).1.signals∧Seen Zo4 w' w'.heap.size A2' c2' (bnA c).1.wires∧Below w.heap.size w w':=by
 have hr:=ZrW (w:=w) (D:=fun b=>b<w.heap.size) (x:=c) (by assumption) (by assumption) (by assumption) (by assumption) (by assumption) (by assumption)
 have hf:=bdCrcX.out hr
 have hv:=encCrcX.vrAgg hr
 rw[eCrc_to] at hv
 have hs:ZbL.spec [Zc0 (toPC c)]=some (.tup [.agg [.lst ((bnA c).1.signals.map eSigX),.lst ((bnA c).1.wires.map eWireX)],pB (bnA c).2]):=by
  refine ((congrFun (show ZbL.spec=ZbM from rfl) _).trans (Zhl _ hf)).trans ?_
  unfold bnA
  rw[ofPN_e]
 exact seenNet Zho rfl rfl (.cons hv .nil) hs (ofPN_in (Zob _)) hg
end Go.Proofs.YtkgnjijonikchaaDoor.Lw
