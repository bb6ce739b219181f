import Derived.Test.YtpceleehbpnchaaGreatOwn
import Derived.Test.YtpceleehbpnchaaGreatLawCn
import Derived.Test.YtpceleehbpnchaaGreatUnexpectedFlipsP
namespace Go.Proofs.YtpceleehbpnchaaGreat.Lw
open Go.RowKit
set_option linter.unusedVariables false
set_option linter.unusedSimpArgs false
def toPW (x:Wire):PWire:=⟨x.name,x.kind,x.ins.map fun p=>(p.at_,p.not_),x.cover⟩
def toPN (n:Nl):PNet:=⟨n.signals.map fun s=>(s.name,s.kind),n.wires.map toPW⟩
theorem encSigX :EncOk ZjN (fun s=>[.str s.name,pI s.kind]):=ZmP (v:=fun x:Sig=>(x.name,x.kind)) (ZdR Zr7 ZmO)
theorem encPinX :EncOk ZDa (fun p=>[pI p.at_,pB p.not_]):=ZmP (v:=fun x:Pin=>(x.at_,x.not_)) (ZdR ZmO ZxP)
theorem encWireX :EncOk ZzP (fun x=>[.str x.name,pI x.kind,.lst (x.ins.map fun p=>.agg [pI p.at_,pB p.not_]),.lst (x.cover.map PV.str)]):=
 ZmP (v:=fun x:Wire=>(x.name,(x.kind,(x.ins,x.cover)))) (ZdR Zr7 (ZdR ZmO (ZdR (ZiF encPinX) (ZtL Zr7 rfl))))
theorem encNlX :EncOk shNl (fun n=>[.lst (n.signals.map fun s=>.agg [.str s.name,pI s.kind]),.lst (n.wires.map fun x=>.agg [.str x.name,pI x.kind,.lst (x.ins.map fun p=>.agg [pI p.at_,pB p.not_]),.lst (x.cover.map PV.str)])]):=
 ZmP (v:=fun x:Nl=>(x.signals,x.wires)) (ZdR (ZiF encSigX) (ZiF encWireX))
theorem eNet_to (n:Nl):PV.agg [.lst (n.signals.map fun s=>.agg [.str s.name,pI s.kind]),.lst (n.wires.map fun x=>.agg [.str x.name,pI x.kind,.lst (x.ins.map fun p=>.agg [pI p.at_,pB p.not_]),.lst (x.cover.map PV.str)])]=Zo (toPN n):=by
 simp[Zo,toPN,toPW,ZD,Zn,Zac,List.map_map,Function.comp_def]
theorem bdSigX :BdOk ZjN (fun s=>s.name.length≤9223372036854775807):=BdOk.mono (ZxR (v:=fun x:Sig=>(x.name,x.kind)) (ZkM ZxQ Zr8)) (fun a h=>h.1)
theorem bdWireX :BdOk ZzP (fun x=>(toPW x).Fit):=
 BdOk.mono (ZxR (v:=fun x:Wire=>(x.name,(x.kind,(x.ins,x.cover)))) (ZkM ZxQ (ZkM Zr8 (ZkM (Zv8 (S:=ZDa) Zr8) (Zv8 ZxQ))))) (fun a h=>⟨h.1,by simpa[ZA,toPW] using h.2.2.1.1,h.2.2.2.1,h.2.2.2.2⟩)
theorem bdNlX :BdOk shNl (fun n=>(toPN n).Fit):=
 BdOk.mono (ZxR (v:=fun x:Nl=>(x.signals,x.wires)) (ZkM (Zv8 bdSigX) (Zv8 bdWireX))) (fun a h=>⟨by simpa[ZA,toPN] using h.1.1,fun s hs=>by
  simp only[toPN,List.mem_map] at hs
  obtain ⟨x,hx,rfl⟩:=hs
  exact h.1.2 x hx,by simpa[ZA,toPN] using h.2.1,fun s hs=>by
  simp only[toPN,List.mem_map] at hs
  obtain ⟨x,hx,rfl⟩:=hs
  exact h.2.2 x hx⟩)
def toPA (a:Ac):PArc:=⟨a.from_,a.sig,a.up,a.to_⟩
def toPG (c:SGr):PSG:=⟨c.signals.map fun s=>(s.name,s.kind),c.codes,c.arcs.map toPA⟩
theorem encAcX :EncOk Zv6 (fun a=>[pI a.from_]++([pI a.sig]++([pB a.up]++[pI a.to_]))):=ZmP (v:=fun x:Ac=>(x.from_,(x.sig,(x.up,x.to_)))) (ZdR ZmO (ZdR ZmO (ZdR ZxP ZmO)))
theorem encSGrX :EncOk ZCV (fun c=>[.lst (c.signals.map fun s=>.agg [.str s.name,pI s.kind])]++([.lst (c.codes.map PV.str)]++[.lst (c.arcs.map fun a=>.agg ([pI a.from_]++([pI a.sig]++([pB a.up]++[pI a.to_]))))])):=
 ZmP (v:=fun x:SGr=>(x.signals,(x.codes,x.arcs))) (ZdR (ZiF encSigX) (ZdR (ZtL Zr7 rfl) (ZiF encAcX)))
theorem eSG_to (c:SGr):PV.agg ([.lst (c.signals.map fun s=>.agg [.str s.name,pI s.kind])]++([.lst (c.codes.map PV.str)]++[.lst (c.arcs.map fun a=>.agg ([pI a.from_]++([pI a.sig]++([pB a.up]++[pI a.to_]))))]))=eSG (toPG c):=by
 simp[eSG,toPG,toPA,ZD,Z2,List.map_map,Function.comp_def]
theorem bdSGrX :BdOk ZCV (fun c=>SGFit (toPG c)):=
 BdOk.mono (ZxR (v:=fun x:SGr=>(x.signals,(x.codes,x.arcs))) (ZkM (Zv8 bdSigX) (ZkM (Zv8 ZxQ) (Zv8 (S:=Zv6) Zr8)))) (fun a h=>⟨by simpa[ZA,toPG] using h.1.1,fun s hs=>by
  simp only[toPG,List.mem_map] at hs
  obtain ⟨x,hx,rfl⟩:=hs
  exact h.1.2 x hx,by simpa[ZA,toPG] using h.2.1.1,fun x hx=>h.2.1.2 x hx,by simpa[ZA,toPG] using h.2.2.1⟩)
theorem vrAgg3 {w:World} {F:Nat→Prop} {a b c:PV} {v:Value} (h:VR w F (.agg [a,b,c]) v):∃x y z,v=.agg #[x,y,z]∧VR w F a x∧VR w F b y∧VR w F c z:=by
 cases h with
 | agg l cs k1 k2 k3=>
  have hs:cs.size=3:=k1.symm
  refine ⟨cs.getD 0 Go.undef,cs.getD 1 Go.undef,cs.getD 2 Go.undef, ?_,k3 0 _ rfl,k3 1 _ rfl,k3 2 _ rfl⟩
  congr 1
  apply Array.ext
  ·simp[hs]
  ·intro i h1 h2
   match i with
   |0=>simp[hs]
   |1=>simp[hs]
   |2=>simp[hs]
   |i+3=>simp at h2;omega
theorem cellsFlip {h:Flip} (h1:InI h.from_) (h2:InI h.wire) (h3:InI h.to):ZtI Zqy (fun f:Flip=>.agg [pI f.from_,pI f.wire,pI f.to]) h:=fun w w' F u hu=>by
 obtain ⟨x,y,z,rfl,a1,a2,a3⟩:=vrAgg3 hu
 cases a1;cases a2;cases a3
 exact ⟨[_],[_,_],rfl,⟨rfl,h1⟩,[_],[_],rfl,⟨rfl,h2⟩,rfl,h3⟩
theorem readsFlip {h:Flip} (h1:InI h.from_) (h2:InI h.wire) (h3:InI h.to):Zkc Zqy (fun f:Flip=>.agg [pI f.from_,pI f.wire,pI f.to]) h:=fun w D u hu=>by
 obtain ⟨x,y,z,rfl,a1,a2,a3⟩:=vrAgg3 hu
 cases a1;cases a2;cases a3
 exact ⟨[_],[_,_],rfl,⟨rfl,h1⟩,[_],[_],rfl,⟨rfl,h2⟩,rfl,h3⟩
def ufA (c:SGr) (n:Nl):List Flip×Bool:=((ufQ (toPG c) (toPN n)).1.map (fun f:Flip=>f),(ufQ (toPG c) (toPN n)).2)
theorem uf_ins {c:SGr} {n:Nl} (hc:SGFit (toPG c)) (hn:(toPN n).Fit):∀x∈(ufA c n).1,InI x.from_∧InI x.wire∧InI x.to:=fun x hx=>by
 unfold ufA at hx
 obtain ⟨f,hf,rfl⟩:=List.mem_map.1 hx
 obtain ⟨h1,h2,h3,h4,h5⟩:=ufQ_in hc hn f hf
 show InI f.from_∧InI f.wire∧InI f.to
 exact ⟨by constructor<;>omega,by constructor<;>omega,by constructor<;>omega⟩
theorem uf_cells {c:SGr} {n:Nl} (hc:SGFit (toPG c)) (hn:(toPN n).Fit):∀x∈(ufA c n).1,ZtI Zqy (fun f:Flip=>.agg [pI f.from_,pI f.wire,pI f.to]) x:=fun x hx=>by
 obtain ⟨h1,h2,h3⟩:=uf_ins hc hn x hx
 exact cellsFlip h1 h2 h3
theorem uf_reads {c:SGr} {n:Nl} (hc:SGFit (toPG c)) (hn:(toPN n).Fit):∀x∈(ufA c n).1,Zkc Zqy (fun f:Flip=>.agg [pI f.from_,pI f.wire,pI f.to]) x:=fun x hx=>by
 obtain ⟨h1,h2,h3⟩:=uf_ins hc hn x hx
 exact readsFlip h1 h2 h3
theorem ufA_len (c:SGr) (n:Nl) (hc:SGFit (toPG c)) (hn:(toPN n).Fit):(ufA c n).1.length≤14400:=by
 unfold ufA
 rw[List.length_map]
 exact ZDP hc hn
theorem uf_bound (c:SGr) (n:Nl) (A_c_signals:Option Addr) (c_c_signals:Nat) (A_c_codes:Option Addr) (c_c_codes:Nat) (A_c_arcs:Option Addr) (c_c_arcs:Nat) (A_n_signals:Option Addr) (c_n_signals:Nat) (A_n_wires:Option Addr) (c_n_wires:Nat) (w:World) (fc0:(c.signals).length≤c_c_signals) (fc1:c_c_signals≤9223372036854775807) (fc2:RA ZjN w A_c_signals c.signals) (fc3:(c.codes).length≤c_c_codes) (fc4:c_c_codes≤9223372036854775807) (fc5:RA ZdO w A_c_codes c.codes) (fc6:(c.arcs).length≤c_c_arcs) (fc7:c_c_arcs≤9223372036854775807) (fc8:RA Zv6 w A_c_arcs c.arcs) (fn0:(n.signals).length≤c_n_signals) (fn1:c_n_signals≤9223372036854775807) (fn2:RA ZjN w A_n_signals n.signals) (fn3:(n.wires).length≤c_n_wires) (fn4:c_n_wires≤9223372036854775807) (fn5:RA ZzP w A_n_wires n.wires):(ufA c n).1.length≤14400:=
 ufA_len c n (bdSGrX.out (ZCD (w:=w) (D:=fun b=>b<w.heap.size) (x:=c) (by assumption) (by assumption) (by assumption) (by assumption) (by assumption) (by assumption) (by assumption) (by assumption) (by assumption)))
  (bdNlX.out (ZCJ (w:=w) (D:=fun b=>b<w.heap.size) (x:=n) (by assumption) (by assumption) (by assumption) (by assumption) (by assumption) (by assumption)))
theorem impl_UnexpectedFlips (c:SGr) (n:Nl) (A_c_signals:Option Addr) (c_c_signals:Nat) (A_c_codes:Option Addr) (c_c_codes:Nat) (A_c_arcs:Option Addr) (c_c_arcs:Nat) (A_n_signals:Option Addr) (c_n_signals:Nat) (A_n_wires:Option Addr) (c_n_wires:Nat) (w:World) (fc0:(c.signals).length≤c_c_signals) (fc1:c_c_signals≤9223372036854775807) (fc2:RA ZjN w A_c_signals c.signals) (fc3:(c.codes).length≤c_c_codes) (fc4:c_c_codes≤9223372036854775807) (fc5:RA ZdO w A_c_codes c.codes) (fc6:(c.arcs).length≤c_c_arcs) (fc7:c_c_arcs≤9223372036854775807) (fc8:RA Zv6 w A_c_arcs c.arcs) (fn0:(n.signals).length≤c_n_signals) (fn1:c_n_signals≤9223372036854775807) (fn2:RA ZjN w A_n_signals n.signals) (fn3:(n.wires).length≤c_n_wires) (fn4:c_n_wires≤9223372036854775807) (fn5:RA ZzP w A_n_wires n.wires):
 Calls Tryz.prog 17 #[.agg #[.slice A_c_signals (c.signals).length c_c_signals,.slice A_c_codes (c.codes).length c_c_codes,.slice A_c_arcs (c.arcs).length c_c_arcs],.agg #[.slice A_n_signals (n.signals).length c_n_signals,.slice A_n_wires (n.wires).length c_n_wires]] w fun e w'=>∃A c',e=.returned (.tuple #[.slice A ((ufA c n).1).length c',.bool (ufA c n).2])∧Own Zqy w' w.heap.size 96 A c' (ufA c n).1∧Below w.heap.size w w':=by
 have hr:=ZCJ (w:=w) (D:=fun b=>b<w.heap.size) (x:=n) (by assumption) (by assumption) (by assumption) (by assumption) (by assumption) (by assumption)
 have hr2:=ZCD (w:=w) (D:=fun b=>b<w.heap.size) (x:=c) (by assumption) (by assumption) (by assumption) (by assumption) (by assumption) (by assumption) (by assumption) (by assumption) (by assumption)
 have hf:=bdNlX.out hr
 have hf2:=bdSGrX.out hr2
 have hs:ZC1.spec [eSG (toPG c),Zo (toPN n)]=some (.tup [.lst ((ufA c n).1.map (fun f:Flip=>.agg [pI f.from_,pI f.wire,pI f.to])),pB (ufA c n).2]):=by
  refine ((congrFun (show ZC1.spec=ZC2 from rfl) _).trans (ZDd (toPG c) (toPN n) hf2 hf)).trans ?_
  unfold ufA
  rw[List.map_map]
  rfl
 have hv:=encNlX.vrAgg hr
 rw[eNet_to] at hv
 have hv2:=encSGrX.vrAgg hr2
 rw[eSG_to] at hv2
 exact FnOk.ownBool (S:=Zqy) ZDk rfl rfl rfl (.cons hv2 (.cons hv .nil)) hs (fun x hx=>uf_cells hf2 hf x hx)
theorem spec_UnexpectedFlips (c:SGr) (n:Nl) (A_c_signals:Option Addr) (c_c_signals:Nat) (A_c_codes:Option Addr) (c_c_codes:Nat) (A_c_arcs:Option Addr) (c_c_arcs:Nat) (A_n_signals:Option Addr) (c_n_signals:Nat) (A_n_wires:Option Addr) (c_n_wires:Nat) (w:World) (fc0:(c.signals).length≤c_c_signals) (fc1:c_c_signals≤9223372036854775807) (fc2:RA ZjN w A_c_signals c.signals) (fc3:(c.codes).length≤c_c_codes) (fc4:c_c_codes≤9223372036854775807) (fc5:RA ZdO w A_c_codes c.codes) (fc6:(c.arcs).length≤c_c_arcs) (fc7:c_c_arcs≤9223372036854775807) (fc8:RA Zv6 w A_c_arcs c.arcs) (fn0:(n.signals).length≤c_n_signals) (fn1:c_n_signals≤9223372036854775807) (fn2:RA ZjN w A_n_signals n.signals) (fn3:(n.wires).length≤c_n_wires) (fn4:c_n_wires≤9223372036854775807) (fn5:RA ZzP w A_n_wires n.wires):
 Calls Tryz.prog 14 #[.agg #[.slice A_c_signals (c.signals).length c_c_signals,.slice A_c_codes (c.codes).length c_c_codes,.slice A_c_arcs (c.arcs).length c_c_arcs],.agg #[.slice A_n_signals (n.signals).length c_n_signals,.slice A_n_wires (n.wires).length c_n_wires]] w fun e w'=>∃A c',e=.returned (.tuple #[.slice A ((ufA c n).1).length c',.bool (ufA c n).2])∧Seen Zqy w' w'.heap.size A c' (ufA c n).1∧Below w.heap.size w w':=by
 have hr:=ZCJ (w:=w) (D:=fun b=>b<w.heap.size) (x:=n) (by assumption) (by assumption) (by assumption) (by assumption) (by assumption) (by assumption)
 have hr2:=ZCD (w:=w) (D:=fun b=>b<w.heap.size) (x:=c) (by assumption) (by assumption) (by assumption) (by assumption) (by assumption) (by assumption) (by assumption) (by assumption) (by assumption)
 have hf:=bdNlX.out hr
 have hf2:=bdSGrX.out hr2
 have hs:ZC3.spec [eSG (toPG c),Zo (toPN n)]=some (.tup [.lst ((ufA c n).1.map (fun f:Flip=>.agg [pI f.from_,pI f.wire,pI f.to])),pB (ufA c n).2]):=by
  refine ((congrFun (show ZC3.spec=ZC4 from rfl) _).trans (ZDg (toPG c) (toPN n) hf2 hf)).trans ?_
  unfold ufA
  rw[List.map_map]
  rfl
 have hv:=encNlX.vrAgg hr
 rw[eNet_to] at hv
 have hv2:=encSGrX.vrAgg hr2
 rw[eSG_to] at hv2
 exact FnOk.seenBool (S:=Zqy) ZDn rfl rfl (.cons hv2 (.cons hv .nil)) hs (fun x hx=>uf_reads hf2 hf x hx)
end Go.Proofs.YtpceleehbpnchaaGreat.Lw
