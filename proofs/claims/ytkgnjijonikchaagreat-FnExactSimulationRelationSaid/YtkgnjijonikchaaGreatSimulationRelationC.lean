import Derived.Test.YtkgnjijonikchaaGreatOwn
import Derived.Test.YtkgnjijonikchaaGreatLawSr
import Derived.Test.YtkgnjijonikchaaGreatSimulationRelationP
namespace Go.Proofs.YtkgnjijonikchaaGreat.Lw
open Go.RowKit
set_option linter.unusedVariables false
set_option linter.unusedSimpArgs false
def toPW (x:Wire):PWire:=⟨x.name,x.kind,x.ins.map fun p=>(p.at_,p.not_),x.cover⟩
def toPN (n:Nl):PNet:=⟨n.signals.map fun s=>(s.name,s.kind),n.wires.map toPW⟩
theorem encSigX :EncOk Zac (fun s=>[.str s.name,pI s.kind]):=Zk0 (v:=fun x:Sig=>(x.name,x.kind)) (Zdx ZpD ZkZ)
theorem encPinX :EncOk Zcq (fun p=>[pI p.at_,pB p.not_]):=Zk0 (v:=fun x:Pin=>(x.at_,x.not_)) (Zdx ZkZ Zur)
theorem encWireX :EncOk Zas (fun x=>[.str x.name,pI x.kind,.lst (x.ins.map fun p=>.agg [pI p.at_,pB p.not_]),.lst (x.cover.map PV.str)]):=
 Zk0 (v:=fun x:Wire=>(x.name,(x.kind,(x.ins,x.cover)))) (Zdx ZpD (Zdx ZkZ (Zdx (Zhz encPinX) (Zq2 ZpD rfl))))
theorem encNlX :EncOk shNl (fun n=>[.lst (n.signals.map fun s=>.agg [.str s.name,pI s.kind]),.lst (n.wires.map fun x=>.agg [.str x.name,pI x.kind,.lst (x.ins.map fun p=>.agg [pI p.at_,pB p.not_]),.lst (x.cover.map PV.str)])]):=
 Zk0 (v:=fun x:Nl=>(x.signals,x.wires)) (Zdx (Zhz encSigX) (Zhz encWireX))
theorem eNet_to (n:Nl):PV.agg [.lst (n.signals.map fun s=>.agg [.str s.name,pI s.kind]),.lst (n.wires.map fun x=>.agg [.str x.name,pI x.kind,.lst (x.ins.map fun p=>.agg [pI p.at_,pB p.not_]),.lst (x.cover.map PV.str)])]=Zz (toPN n):=by
 simp[Zz,toPN,toPW,Z6,Z9,ZaB,List.map_map,Function.comp_def]
theorem bdSigX :BdOk Zac (fun s=>s.name.length≤9223372036854775807):=BdOk.mono (Zut (v:=fun x:Sig=>(x.name,x.kind)) (Zjb Zus ZpE)) (fun a h=>h.1)
theorem bdWireX :BdOk Zas (fun x=>(toPW x).Fit):=
 BdOk.mono (Zut (v:=fun x:Wire=>(x.name,(x.kind,(x.ins,x.cover)))) (Zjb Zus (Zjb ZpE (Zjb (Zs2 (S:=Zcq) ZpE) (Zs2 Zus))))) (fun a h=>⟨h.1,by simpa[ZH,toPW] using h.2.2.1.1,h.2.2.2.1,h.2.2.2.2⟩)
theorem bdNlX :BdOk shNl (fun n=>(toPN n).Fit):=
 BdOk.mono (Zut (v:=fun x:Nl=>(x.signals,x.wires)) (Zjb (Zs2 bdSigX) (Zs2 bdWireX))) (fun a h=>⟨by simpa[ZH,toPN] using h.1.1,fun s hs=>by
  simp only[toPN,List.mem_map] at hs
  obtain ⟨x,hx,rfl⟩:=hs
  exact h.1.2 x hx,by simpa[ZH,toPN] using h.2.1,fun s hs=>by
  simp only[toPN,List.mem_map] at hs
  obtain ⟨x,hx,rfl⟩:=hs
  exact h.2.2 x hx⟩)
def toPA (a:Ac):PArc:=⟨a.from_,a.sig,a.up,a.to_⟩
def toPG (c:SGr):PSG:=⟨c.signals.map fun s=>(s.name,s.kind),c.codes,c.arcs.map toPA⟩
theorem encAcX :EncOk Zdi (fun a=>[pI a.from_]++([pI a.sig]++([pB a.up]++[pI a.to_]))):=Zk0 (v:=fun x:Ac=>(x.from_,(x.sig,(x.up,x.to_)))) (Zdx ZkZ (Zdx ZkZ (Zdx Zur ZkZ)))
theorem encSGrX :EncOk ZrU (fun c=>[.lst (c.signals.map fun s=>.agg [.str s.name,pI s.kind])]++([.lst (c.codes.map PV.str)]++[.lst (c.arcs.map fun a=>.agg ([pI a.from_]++([pI a.sig]++([pB a.up]++[pI a.to_]))))])):=
 Zk0 (v:=fun x:SGr=>(x.signals,(x.codes,x.arcs))) (Zdx (Zhz encSigX) (Zdx (Zq2 ZpD rfl) (Zhz encAcX)))
theorem eSG_to (c:SGr):PV.agg ([.lst (c.signals.map fun s=>.agg [.str s.name,pI s.kind])]++([.lst (c.codes.map PV.str)]++[.lst (c.arcs.map fun a=>.agg ([pI a.from_]++([pI a.sig]++([pB a.up]++[pI a.to_]))))]))=eSG (toPG c):=by
 simp[eSG,toPG,toPA,Z6,Zap,List.map_map,Function.comp_def]
theorem bdSGrX :BdOk ZrU (fun c=>SGFit (toPG c)):=
 BdOk.mono (Zut (v:=fun x:SGr=>(x.signals,(x.codes,x.arcs))) (Zjb (Zs2 bdSigX) (Zjb (Zs2 Zus) (Zs2 (S:=Zdi) ZpE)))) (fun a h=>⟨by simpa[ZH,toPG] using h.1.1,fun s hs=>by
  simp only[toPG,List.mem_map] at hs
  obtain ⟨x,hx,rfl⟩:=hs
  exact h.1.2 x hx,by simpa[ZH,toPG] using h.2.1.1,fun x hx=>h.2.1.2 x hx,by simpa[ZH,toPG] using h.2.2.1⟩)
theorem vrAgg2 {w:World} {F:Nat→Prop} {a b:PV} {v:Value} (h:VR w F (.agg [a,b]) v):∃x y,v=.agg #[x,y]∧VR w F a x∧VR w F b y:=by
 cases h with
 | agg l cs k1 k2 k3=>
  have hs:cs.size=2:=k1.symm
  refine ⟨cs.getD 0 Go.undef,cs.getD 1 Go.undef, ?_,k3 0 _ rfl,k3 1 _ rfl⟩
  congr 1
  apply Array.ext
  ·simp[hs]
  ·intro i h1 h2
   match i with
   |0=>simp[hs]
   |1=>simp[hs]
   |i+2=>simp at h2;omega
theorem cellsSPr {b:SPr} (h1:InI b.state) (h2:b.values.length≤9223372036854775807):Zme ZdR (fun p:SPr=>.agg [pI p.state,.str p.values]) b:=fun w w' F u hu=>by
 obtain ⟨x,y,rfl,a1,a2⟩:=vrAgg2 hu
 cases a1;cases a2
 exact ⟨[_],[_],rfl,⟨rfl,h1⟩,rfl,h2⟩
def srA (c:SGr) (n:Nl):List SPr×Bool:=((srP (toPG c) (toPN n)).1.map (fun b:PSt=>(⟨b.state,b.values⟩:SPr)),(srP (toPG c) (toPN n)).2)
theorem sr_cells {c:SGr} {n:Nl} (hc:SGFit (toPG c)) (hn:(toPN n).Fit):∀x∈(srA c n).1,Zme ZdR (fun p:SPr=>.agg [pI p.state,.str p.values]) x:=fun x hx=>by
 unfold srA at hx
 obtain ⟨b,hb,rfl⟩:=List.mem_map.1 hx
 obtain ⟨h1,h2,h3⟩:=srP_in hc hn b hb
 exact cellsSPr (show InI b.state by constructor<;>omega) (show b.values.length≤9223372036854775807 by omega)
theorem srA_len (c:SGr) (n:Nl) (hc:SGFit (toPG c)) (hn:(toPN n).Fit):(srA c n).1.length≤600:=by
 unfold srA
 rw[List.length_map]
 exact ZyB hc hn
theorem sr_bound (c:SGr) (n:Nl) (A_c_signals:Option Addr) (c_c_signals:Nat) (A_c_codes:Option Addr) (c_c_codes:Nat) (A_c_arcs:Option Addr) (c_c_arcs:Nat) (A_n_signals:Option Addr) (c_n_signals:Nat) (A_n_wires:Option Addr) (c_n_wires:Nat) (w:World) (fc0:(c.signals).length≤c_c_signals) (fc1:c_c_signals≤9223372036854775807) (fc2:RA Zac w A_c_signals c.signals) (fc3:(c.codes).length≤c_c_codes) (fc4:c_c_codes≤9223372036854775807) (fc5:RA Zan w A_c_codes c.codes) (fc6:(c.arcs).length≤c_c_arcs) (fc7:c_c_arcs≤9223372036854775807) (fc8:RA Zdi w A_c_arcs c.arcs) (fn0:(n.signals).length≤c_n_signals) (fn1:c_n_signals≤9223372036854775807) (fn2:RA Zac w A_n_signals n.signals) (fn3:(n.wires).length≤c_n_wires) (fn4:c_n_wires≤9223372036854775807) (fn5:RA Zas w A_n_wires n.wires):(srA c n).1.length≤600:=
 srA_len c n (bdSGrX.out (Znm (w:=w) (D:=fun b=>b<w.heap.size) (x:=c) (by assumption) (by assumption) (by assumption) (by assumption) (by assumption) (by assumption) (by assumption) (by assumption) (by assumption)))
  (bdNlX.out (Zqd (w:=w) (D:=fun b=>b<w.heap.size) (x:=n) (by assumption) (by assumption) (by assumption) (by assumption) (by assumption) (by assumption)))
theorem impl_SimulationRelation (c:SGr) (n:Nl) (A_c_signals:Option Addr) (c_c_signals:Nat) (A_c_codes:Option Addr) (c_c_codes:Nat) (A_c_arcs:Option Addr) (c_c_arcs:Nat) (A_n_signals:Option Addr) (c_n_signals:Nat) (A_n_wires:Option Addr) (c_n_wires:Nat) (w:World) (fc0:(c.signals).length≤c_c_signals) (fc1:c_c_signals≤9223372036854775807) (fc2:RA Zac w A_c_signals c.signals) (fc3:(c.codes).length≤c_c_codes) (fc4:c_c_codes≤9223372036854775807) (fc5:RA Zan w A_c_codes c.codes) (fc6:(c.arcs).length≤c_c_arcs) (fc7:c_c_arcs≤9223372036854775807) (fc8:RA Zdi w A_c_arcs c.arcs) (fn0:(n.signals).length≤c_n_signals) (fn1:c_n_signals≤9223372036854775807) (fn2:RA Zac w A_n_signals n.signals) (fn3:(n.wires).length≤c_n_wires) (fn4:c_n_wires≤9223372036854775807) (fn5:RA Zas w A_n_wires n.wires):
 Calls Tryz.prog 10 #[.agg #[.slice A_c_signals (c.signals).length c_c_signals,.slice A_c_codes (c.codes).length c_c_codes,.slice A_c_arcs (c.arcs).length c_c_arcs],.agg #[.slice A_n_signals (n.signals).length c_n_signals,.slice A_n_wires (n.wires).length c_n_wires]] w fun e w'=>∃A c',e=.returned (.tuple #[.slice A ((srA c n).1).length c',.bool (srA c n).2])∧Own ZdR w' w.heap.size 67 A c' (srA c n).1∧Below w.heap.size w w':=by
 have hr:=Zqd (w:=w) (D:=fun b=>b<w.heap.size) (x:=n) (by assumption) (by assumption) (by assumption) (by assumption) (by assumption) (by assumption)
 have hr2:=Znm (w:=w) (D:=fun b=>b<w.heap.size) (x:=c) (by assumption) (by assumption) (by assumption) (by assumption) (by assumption) (by assumption) (by assumption) (by assumption) (by assumption)
 have hf:=bdNlX.out hr
 have hf2:=bdSGrX.out hr2
 have hs:ZaP.spec [eSG (toPG c),Zz (toPN n)]=some (.tup [.lst ((srA c n).1.map (fun p:SPr=>.agg [pI p.state,.str p.values])),pB (srA c n).2]):=by
  refine ((congrFun (show ZaP.spec=ZaQ from rfl) _).trans (Zgc (toPG c) (toPN n) hf2 hf)).trans ?_
  unfold srA
  rw[List.map_map]
  rfl
 have hv:=encNlX.vrAgg hr
 rw[eNet_to] at hv
 have hv2:=encSGrX.vrAgg hr2
 rw[eSG_to] at hv2
 exact FnOk.ownBool (S:=ZdR) Zgi rfl rfl rfl (.cons hv2 (.cons hv .nil)) hs (fun x hx=>sr_cells hf2 hf x hx)
theorem spec_SimulationRelation (c:SGr) (n:Nl) (A_c_signals:Option Addr) (c_c_signals:Nat) (A_c_codes:Option Addr) (c_c_codes:Nat) (A_c_arcs:Option Addr) (c_c_arcs:Nat) (A_n_signals:Option Addr) (c_n_signals:Nat) (A_n_wires:Option Addr) (c_n_wires:Nat) (w:World) (fc0:(c.signals).length≤c_c_signals) (fc1:c_c_signals≤9223372036854775807) (fc2:RA Zac w A_c_signals c.signals) (fc3:(c.codes).length≤c_c_codes) (fc4:c_c_codes≤9223372036854775807) (fc5:RA Zan w A_c_codes c.codes) (fc6:(c.arcs).length≤c_c_arcs) (fc7:c_c_arcs≤9223372036854775807) (fc8:RA Zdi w A_c_arcs c.arcs) (fn0:(n.signals).length≤c_n_signals) (fn1:c_n_signals≤9223372036854775807) (fn2:RA Zac w A_n_signals n.signals) (fn3:(n.wires).length≤c_n_wires) (fn4:c_n_wires≤9223372036854775807) (fn5:RA Zas w A_n_wires n.wires):
 Calls Tryz.prog 7 #[.agg #[.slice A_c_signals (c.signals).length c_c_signals,.slice A_c_codes (c.codes).length c_c_codes,.slice A_c_arcs (c.arcs).length c_c_arcs],.agg #[.slice A_n_signals (n.signals).length c_n_signals,.slice A_n_wires (n.wires).length c_n_wires]] w fun e w'=>∃A c',e=.returned (.tuple #[.slice A ((srA c n).1).length c',.bool (srA c n).2])∧Own ZdR w' w.heap.size 67 A c' (srA c n).1∧Below w.heap.size w w':=by
 have hr:=Zqd (w:=w) (D:=fun b=>b<w.heap.size) (x:=n) (by assumption) (by assumption) (by assumption) (by assumption) (by assumption) (by assumption)
 have hr2:=Znm (w:=w) (D:=fun b=>b<w.heap.size) (x:=c) (by assumption) (by assumption) (by assumption) (by assumption) (by assumption) (by assumption) (by assumption) (by assumption) (by assumption)
 have hf:=bdNlX.out hr
 have hf2:=bdSGrX.out hr2
 have hs:ZaR.spec [eSG (toPG c),Zz (toPN n)]=some (.tup [.lst ((srA c n).1.map (fun p:SPr=>.agg [pI p.state,.str p.values])),pB (srA c n).2]):=by
  refine ((congrFun (show ZaR.spec=ZaS from rfl) _).trans (Zgb (toPG c) (toPN n) hf2 hf)).trans ?_
  unfold srA
  rw[List.map_map]
  rfl
 have hv:=encNlX.vrAgg hr
 rw[eNet_to] at hv
 have hv2:=encSGrX.vrAgg hr2
 rw[eSG_to] at hv2
 exact FnOk.ownBool (S:=ZdR) Zgm rfl rfl rfl (.cons hv2 (.cons hv .nil)) hs (fun x hx=>sr_cells hf2 hf x hx)
end Go.Proofs.YtkgnjijonikchaaGreat.Lw
