import Derived.Test.YtpceleehbpnchaaGreatOwn
import Derived.Test.YtpceleehbpnchaaGreatLawCn
import Derived.Test.YtpceleehbpnchaaGreatMissingOutputsP
namespace Go.Proofs.YtpceleehbpnchaaGreat.Lw
open Go.RowKit
set_option linter.unusedVariables false
set_option linter.unusedSimpArgs false
def toPW (x:Wire):PWire:=⟨x.name,x.kind,x.ins.map fun p=>(p.at_,p.not_),x.cover⟩
def toPN (n:Nl):PNet:=⟨n.signals.map fun s=>(s.name,s.kind),n.wires.map toPW⟩
theorem encSigX :EncOk ZCu (fun s=>[.str s.name,pI s.kind]):=Zmh (v:=fun x:Sig=>(x.name,x.kind)) (ZdL Zrj Zmg)
theorem encPinX :EncOk ZC0 (fun p=>[pI p.at_,pB p.not_]):=Zmh (v:=fun x:Pin=>(x.at_,x.not_)) (ZdL Zmg ZwN)
theorem encWireX :EncOk ZCL (fun x=>[.str x.name,pI x.kind,.lst (x.ins.map fun p=>.agg [pI p.at_,pB p.not_]),.lst (x.cover.map PV.str)]):=
 Zmh (v:=fun x:Wire=>(x.name,(x.kind,(x.ins,x.cover)))) (ZdL Zrj (ZdL Zmg (ZdL (Zil encPinX) (ZsV Zrj rfl))))
theorem encNlX :EncOk shNl (fun n=>[.lst (n.signals.map fun s=>.agg [.str s.name,pI s.kind]),.lst (n.wires.map fun x=>.agg [.str x.name,pI x.kind,.lst (x.ins.map fun p=>.agg [pI p.at_,pB p.not_]),.lst (x.cover.map PV.str)])]):=
 Zmh (v:=fun x:Nl=>(x.signals,x.wires)) (ZdL (Zil encSigX) (Zil encWireX))
theorem eNet_to (n:Nl):PV.agg [.lst (n.signals.map fun s=>.agg [.str s.name,pI s.kind]),.lst (n.wires.map fun x=>.agg [.str x.name,pI x.kind,.lst (x.ins.map fun p=>.agg [pI p.at_,pB p.not_]),.lst (x.cover.map PV.str)])]=Zp (toPN n):=by
 simp[Zp,toPN,toPW,ZD,Zo,Zac,List.map_map,Function.comp_def]
theorem bdSigX :BdOk ZCu (fun s=>s.name.length≤9223372036854775807):=BdOk.mono (ZwP (v:=fun x:Sig=>(x.name,x.kind)) (Zki ZwO Zrk)) (fun a h=>h.1)
theorem bdWireX :BdOk ZCL (fun x=>(toPW x).Fit):=
 BdOk.mono (ZwP (v:=fun x:Wire=>(x.name,(x.kind,(x.ins,x.cover)))) (Zki ZwO (Zki Zrk (Zki (Zvf (S:=ZC0) Zrk) (Zvf ZwO))))) (fun a h=>⟨h.1,by simpa[ZA,toPW] using h.2.2.1.1,h.2.2.2.1,h.2.2.2.2⟩)
theorem bdNlX :BdOk shNl (fun n=>(toPN n).Fit):=
 BdOk.mono (ZwP (v:=fun x:Nl=>(x.signals,x.wires)) (Zki (Zvf bdSigX) (Zvf bdWireX))) (fun a h=>⟨by simpa[ZA,toPN] using h.1.1,fun s hs=>by
  simp only[toPN,List.mem_map] at hs
  obtain ⟨x,hx,rfl⟩:=hs
  exact h.1.2 x hx,by simpa[ZA,toPN] using h.2.1,fun s hs=>by
  simp only[toPN,List.mem_map] at hs
  obtain ⟨x,hx,rfl⟩:=hs
  exact h.2.2 x hx⟩)
def toPA (a:Ac):PArc:=⟨a.from_,a.sig,a.up,a.to_⟩
def toPG (c:SGr):PSG:=⟨c.signals.map fun s=>(s.name,s.kind),c.codes,c.arcs.map toPA⟩
theorem encAcX :EncOk ZCE (fun a=>[pI a.from_]++([pI a.sig]++([pB a.up]++[pI a.to_]))):=Zmh (v:=fun x:Ac=>(x.from_,(x.sig,(x.up,x.to_)))) (ZdL Zmg (ZdL Zmg (ZdL ZwN Zmg)))
theorem encSGrX :EncOk ZDj (fun c=>[.lst (c.signals.map fun s=>.agg [.str s.name,pI s.kind])]++([.lst (c.codes.map PV.str)]++[.lst (c.arcs.map fun a=>.agg ([pI a.from_]++([pI a.sig]++([pB a.up]++[pI a.to_]))))])):=
 Zmh (v:=fun x:SGr=>(x.signals,(x.codes,x.arcs))) (ZdL (Zil encSigX) (ZdL (ZsV Zrj rfl) (Zil encAcX)))
theorem eSG_to (c:SGr):PV.agg ([.lst (c.signals.map fun s=>.agg [.str s.name,pI s.kind])]++([.lst (c.codes.map PV.str)]++[.lst (c.arcs.map fun a=>.agg ([pI a.from_]++([pI a.sig]++([pB a.up]++[pI a.to_]))))]))=eSG (toPG c):=by
 simp[eSG,toPG,toPA,ZD,Z3,List.map_map,Function.comp_def]
theorem bdSGrX :BdOk ZDj (fun c=>SGFit (toPG c)):=
 BdOk.mono (ZwP (v:=fun x:SGr=>(x.signals,(x.codes,x.arcs))) (Zki (Zvf bdSigX) (Zki (Zvf ZwO) (Zvf (S:=ZCE) Zrk)))) (fun a h=>⟨by simpa[ZA,toPG] using h.1.1,fun s hs=>by
  simp only[toPG,List.mem_map] at hs
  obtain ⟨x,hx,rfl⟩:=hs
  exact h.1.2 x hx,by simpa[ZA,toPG] using h.2.1.1,fun x hx=>h.2.1.2 x hx,by simpa[ZA,toPG] using h.2.2.1⟩)
def moA (c:SGr) (n:Nl):List Int×Bool:=((moQ (toPG c) (toPN n)).1.map (fun k:Nat=>(k:Int)),(moQ (toPG c) (toPN n)).2)
theorem mo_cells {c:SGr} {n:Nl} (hc:SGFit (toPG c)) (hn:(toPN n).Fit):∀x∈(moA c n).1,ZCD ZI pI x:=fun x hx=>ZDu (by
 unfold moA at hx
 obtain ⟨k,hk,rfl⟩:=List.mem_map.1 hx
 have:=moQ_lt hc hn k hk
 constructor<;>omega)
theorem moA_len (c:SGr) (n:Nl) (hc:SGFit (toPG c)) (hn:(toPN n).Fit):(moA c n).1.length≤600:=by
 unfold moA
 rw[List.length_map]
 exact ZDQ hc hn
theorem mo_bound (c:SGr) (n:Nl) (A_c_signals:Option Addr) (c_c_signals:Nat) (A_c_codes:Option Addr) (c_c_codes:Nat) (A_c_arcs:Option Addr) (c_c_arcs:Nat) (A_n_signals:Option Addr) (c_n_signals:Nat) (A_n_wires:Option Addr) (c_n_wires:Nat) (w:World) (fc0:(c.signals).length≤c_c_signals) (fc1:c_c_signals≤9223372036854775807) (fc2:RA ZCu w A_c_signals c.signals) (fc3:(c.codes).length≤c_c_codes) (fc4:c_c_codes≤9223372036854775807) (fc5:RA Zlc w A_c_codes c.codes) (fc6:(c.arcs).length≤c_c_arcs) (fc7:c_c_arcs≤9223372036854775807) (fc8:RA ZCE w A_c_arcs c.arcs) (fn0:(n.signals).length≤c_n_signals) (fn1:c_n_signals≤9223372036854775807) (fn2:RA ZCu w A_n_signals n.signals) (fn3:(n.wires).length≤c_n_wires) (fn4:c_n_wires≤9223372036854775807) (fn5:RA ZCL w A_n_wires n.wires):(moA c n).1.length≤600:=
 moA_len c n (bdSGrX.out (ZDe (w:=w) (D:=fun b=>b<w.heap.size) (x:=c) (by assumption) (by assumption) (by assumption) (by assumption) (by assumption) (by assumption) (by assumption) (by assumption) (by assumption)))
  (bdNlX.out (ZDi (w:=w) (D:=fun b=>b<w.heap.size) (x:=n) (by assumption) (by assumption) (by assumption) (by assumption) (by assumption) (by assumption)))
theorem impl_MissingOutputs (c:SGr) (n:Nl) (A_c_signals:Option Addr) (c_c_signals:Nat) (A_c_codes:Option Addr) (c_c_codes:Nat) (A_c_arcs:Option Addr) (c_c_arcs:Nat) (A_n_signals:Option Addr) (c_n_signals:Nat) (A_n_wires:Option Addr) (c_n_wires:Nat) (w:World) (fc0:(c.signals).length≤c_c_signals) (fc1:c_c_signals≤9223372036854775807) (fc2:RA ZCu w A_c_signals c.signals) (fc3:(c.codes).length≤c_c_codes) (fc4:c_c_codes≤9223372036854775807) (fc5:RA Zlc w A_c_codes c.codes) (fc6:(c.arcs).length≤c_c_arcs) (fc7:c_c_arcs≤9223372036854775807) (fc8:RA ZCE w A_c_arcs c.arcs) (fn0:(n.signals).length≤c_n_signals) (fn1:c_n_signals≤9223372036854775807) (fn2:RA ZCu w A_n_signals n.signals) (fn3:(n.wires).length≤c_n_wires) (fn4:c_n_wires≤9223372036854775807) (fn5:RA ZCL w A_n_wires n.wires):
 Calls Tryz.prog 26 #[.agg #[.slice A_c_signals (c.signals).length c_c_signals,.slice A_c_codes (c.codes).length c_c_codes,.slice A_c_arcs (c.arcs).length c_c_arcs],.agg #[.slice A_n_signals (n.signals).length c_n_signals,.slice A_n_wires (n.wires).length c_n_wires]] w fun e w'=>∃A c',e=.returned (.tuple #[.slice A ((moA c n).1).length c',.bool (moA c n).2])∧Own ZI w' w.heap.size 3 A c' (moA c n).1∧Below w.heap.size w w':=by
 have hr:=ZDi (w:=w) (D:=fun b=>b<w.heap.size) (x:=n) (by assumption) (by assumption) (by assumption) (by assumption) (by assumption) (by assumption)
 have hr2:=ZDe (w:=w) (D:=fun b=>b<w.heap.size) (x:=c) (by assumption) (by assumption) (by assumption) (by assumption) (by assumption) (by assumption) (by assumption) (by assumption) (by assumption)
 have hf:=bdNlX.out hr
 have hf2:=bdSGrX.out hr2
 have hs:ZCV.spec [eSG (toPG c),Zp (toPN n)]=some (.tup [.lst ((moA c n).1.map pI),pB (moA c n).2]):=by
  refine ((congrFun (show ZCV.spec=ZCW from rfl) _).trans (ZC4 (toPG c) (toPN n) hf2 hf)).trans ?_
  unfold moA
  rw[List.map_map]
  rfl
 have hv:=encNlX.vrAgg hr
 rw[eNet_to] at hv
 have hv2:=encSGrX.vrAgg hr2
 rw[eSG_to] at hv2
 exact FnOk.ownBool (S:=ZI) ZC8 rfl rfl rfl (.cons hv2 (.cons hv .nil)) hs (fun x hx=>mo_cells hf2 hf x hx)
theorem spec_MissingOutputs (c:SGr) (n:Nl) (A_c_signals:Option Addr) (c_c_signals:Nat) (A_c_codes:Option Addr) (c_c_codes:Nat) (A_c_arcs:Option Addr) (c_c_arcs:Nat) (A_n_signals:Option Addr) (c_n_signals:Nat) (A_n_wires:Option Addr) (c_n_wires:Nat) (w:World) (fc0:(c.signals).length≤c_c_signals) (fc1:c_c_signals≤9223372036854775807) (fc2:RA ZCu w A_c_signals c.signals) (fc3:(c.codes).length≤c_c_codes) (fc4:c_c_codes≤9223372036854775807) (fc5:RA Zlc w A_c_codes c.codes) (fc6:(c.arcs).length≤c_c_arcs) (fc7:c_c_arcs≤9223372036854775807) (fc8:RA ZCE w A_c_arcs c.arcs) (fn0:(n.signals).length≤c_n_signals) (fn1:c_n_signals≤9223372036854775807) (fn2:RA ZCu w A_n_signals n.signals) (fn3:(n.wires).length≤c_n_wires) (fn4:c_n_wires≤9223372036854775807) (fn5:RA ZCL w A_n_wires n.wires):
 Calls Tryz.prog 25 #[.agg #[.slice A_c_signals (c.signals).length c_c_signals,.slice A_c_codes (c.codes).length c_c_codes,.slice A_c_arcs (c.arcs).length c_c_arcs],.agg #[.slice A_n_signals (n.signals).length c_n_signals,.slice A_n_wires (n.wires).length c_n_wires]] w fun e w'=>∃A c',e=.returned (.tuple #[.slice A ((moA c n).1).length c',.bool (moA c n).2])∧Own ZI w' w.heap.size 3 A c' (moA c n).1∧Below w.heap.size w w':=by
 have hr:=ZDi (w:=w) (D:=fun b=>b<w.heap.size) (x:=n) (by assumption) (by assumption) (by assumption) (by assumption) (by assumption) (by assumption)
 have hr2:=ZDe (w:=w) (D:=fun b=>b<w.heap.size) (x:=c) (by assumption) (by assumption) (by assumption) (by assumption) (by assumption) (by assumption) (by assumption) (by assumption) (by assumption)
 have hf:=bdNlX.out hr
 have hf2:=bdSGrX.out hr2
 have hs:ZCQ.spec [eSG (toPG c),Zp (toPN n)]=some (.tup [.lst ((moA c n).1.map pI),pB (moA c n).2]):=by
  refine ((congrFun (show ZCQ.spec=ZCU from rfl) _).trans (ZC5 (toPG c) (toPN n) hf2 hf)).trans ?_
  unfold moA
  rw[List.map_map]
  rfl
 have hv:=encNlX.vrAgg hr
 rw[eNet_to] at hv
 have hv2:=encSGrX.vrAgg hr2
 rw[eSG_to] at hv2
 exact FnOk.ownBool (S:=ZI) ZC6 rfl rfl rfl (.cons hv2 (.cons hv .nil)) hs (fun x hx=>mo_cells hf2 hf x hx)
end Go.Proofs.YtpceleehbpnchaaGreat.Lw
