import Derived.Test.YtmfplddmccggkaaGreatOwn
import Derived.Test.YtmfplddmccggkaaGreatLawSv
import Derived.Test.YtmfplddmccggkaaGreatSuccessorsP
namespace Go.Proofs.YtmfplddmccggkaaGreat.Lw
open Go.RowKit
set_option linter.unusedVariables false
set_option linter.unusedSimpArgs false
def toPW (x:Wire):PWire:=⟨x.name,x.kind,x.ins.map fun p=>(p.at_,p.not_),x.cover⟩
def toPN (n:Nl):PNet:=⟨n.signals.map fun s=>(s.name,s.kind),n.wires.map toPW⟩
theorem encSigX :EncOk Z2 (fun s=>[.str s.name,pI s.kind]):=Zha (v:=fun x:Sig=>(x.name,x.kind)) (Zcq Zj2 Zg9)
theorem encPinX :EncOk ZbN (fun p=>[pI p.at_,pB p.not_]):=Zha (v:=fun x:Pin=>(x.at_,x.not_)) (Zcq Zg9 Zqi)
theorem encWireX :EncOk Zah (fun x=>[.str x.name,pI x.kind,.lst (x.ins.map fun p=>.agg [pI p.at_,pB p.not_]),.lst (x.cover.map PV.str)]):=
 Zha (v:=fun x:Wire=>(x.name,(x.kind,(x.ins,x.cover)))) (Zcq Zj2 (Zcq Zg9 (Zcq (ZfO encPinX) (Znq Zj2 rfl))))
theorem encNlX :EncOk shNl (fun n=>[.lst (n.signals.map fun s=>.agg [.str s.name,pI s.kind]),.lst (n.wires.map fun x=>.agg [.str x.name,pI x.kind,.lst (x.ins.map fun p=>.agg [pI p.at_,pB p.not_]),.lst (x.cover.map PV.str)])]):=
 Zha (v:=fun x:Nl=>(x.signals,x.wires)) (Zcq (ZfO encSigX) (ZfO encWireX))
theorem eNet_to (n:Nl):PV.agg [.lst (n.signals.map fun s=>.agg [.str s.name,pI s.kind]),.lst (n.wires.map fun x=>.agg [.str x.name,pI x.kind,.lst (x.ins.map fun p=>.agg [pI p.at_,pB p.not_]),.lst (x.cover.map PV.str)])]=Zak (toPN n):=by
 simp[Zak,toPN,toPW,Z6,Zac,Zap,List.map_map,Function.comp_def]
theorem bdSigX :BdOk Z2 (fun s=>s.name.length≤9223372036854775807):=BdOk.mono (Zns (v:=fun x:Sig=>(x.name,x.kind)) (ZfP Znr Zj3)) (fun a h=>h.1)
theorem bdWireX :BdOk Zah (fun x=>(toPW x).Fit):=
 BdOk.mono (Zns (v:=fun x:Wire=>(x.name,(x.kind,(x.ins,x.cover)))) (ZfP Znr (ZfP Zj3 (ZfP (Zo6 (S:=ZbN) Zj3) (Zo6 Znr))))) (fun a h=>⟨h.1,by simpa[Zx,toPW] using h.2.2.1.1,h.2.2.2.1,h.2.2.2.2⟩)
theorem bdNlX :BdOk shNl (fun n=>(toPN n).Fit):=
 BdOk.mono (Zns (v:=fun x:Nl=>(x.signals,x.wires)) (ZfP (Zo6 bdSigX) (Zo6 bdWireX))) (fun a h=>⟨by simpa[Zx,toPN] using h.1.1,fun s hs=>by
  simp only[toPN,List.mem_map] at hs
  obtain ⟨x,hx,rfl⟩:=hs
  exact h.1.2 x hx,by simpa[Zx,toPN] using h.2.1,fun s hs=>by
  simp only[toPN,List.mem_map] at hs
  obtain ⟨x,hx,rfl⟩:=hs
  exact h.2.2 x hx⟩)
theorem encPSt :EncOk Zcc (fun b=>[pI b.state,.str b.values]):=Zha (v:=fun x:PSt=>(x.state,x.values)) (Zcq Zg9 Zj2)
theorem bdPSt :BdOk Zcc (fun b=>b.values.length≤9223372036854775807):=BdOk.mono (Zns (v:=fun x:PSt=>(x.state,x.values)) (ZfP (S:=Zp) Zj3 Znr)) (fun a h=>h.2)
def toPA (a:Ac):PArc:=⟨a.from_,a.sig,a.up,a.to_⟩
def toPG (c:SGr):PSG:=⟨c.signals.map fun s=>(s.name,s.kind),c.codes,c.arcs.map toPA⟩
theorem encAcX :EncOk Zcv (fun a=>[pI a.from_]++([pI a.sig]++([pB a.up]++[pI a.to_]))):=Zha (v:=fun x:Ac=>(x.from_,(x.sig,(x.up,x.to_)))) (Zcq Zg9 (Zcq Zg9 (Zcq Zqi Zg9)))
theorem encSGrX :EncOk Zod (fun c=>[.lst (c.signals.map fun s=>.agg [.str s.name,pI s.kind])]++([.lst (c.codes.map PV.str)]++[.lst (c.arcs.map fun a=>.agg ([pI a.from_]++([pI a.sig]++([pB a.up]++[pI a.to_]))))])):=
 Zha (v:=fun x:SGr=>(x.signals,(x.codes,x.arcs))) (Zcq (ZfO encSigX) (Zcq (Znq Zj2 rfl) (ZfO encAcX)))
theorem eSG_to (c:SGr):PV.agg ([.lst (c.signals.map fun s=>.agg [.str s.name,pI s.kind])]++([.lst (c.codes.map PV.str)]++[.lst (c.arcs.map fun a=>.agg ([pI a.from_]++([pI a.sig]++([pB a.up]++[pI a.to_]))))]))=eSG (toPG c):=by
 simp[eSG,toPG,toPA,Z6,Zan,List.map_map,Function.comp_def]
theorem bdSGrX :BdOk Zod (fun c=>SGFit (toPG c)):=
 BdOk.mono (Zns (v:=fun x:SGr=>(x.signals,(x.codes,x.arcs))) (ZfP (Zo6 bdSigX) (ZfP (Zo6 Znr) (Zo6 (S:=Zcv) Zj3)))) (fun a h=>⟨by simpa[Zx,toPG] using h.1.1,fun s hs=>by
  simp only[toPG,List.mem_map] at hs
  obtain ⟨x,hx,rfl⟩:=hs
  exact h.1.2 x hx,by simpa[Zx,toPG] using h.2.1.1,fun x hx=>h.2.1.2 x hx,by simpa[Zx,toPG] using h.2.2.1⟩)
def scA (c:SGr) (n:Nl) (b:PSt):(List PSt×List Int)×Bool:=(Zjv (toPG c) (toPN n) b,ZfE (toPG c) (toPN n) b)
theorem vrAgg2 {w:World} {F:Nat→Prop} {a b:PV} {v:Value} (h:VR w F (.agg [a,b]) v):∃x y,v=.agg #[x,y]∧VR w F a x∧VR w F b y:=by
 cases h with
 | agg l cs k1 k2 k3=>
  have hs:cs.size=2:=k1.symm
  refine ⟨cs.getD 0 Go.undef,cs.getD 1 Go.undef, ?_,k3 0 _ rfl,k3 1 _ rfl⟩
  congr 1
  apply Array.ext
  ·simp[hs]
  ·intro i h1 h2
   match i with
   |0=>simp[hs]
   |1=>simp[hs]
   |i+2=>simp at h2;omega
theorem cellsPSt {b:PSt} (h1:InI b.state) (h2:b.values.length≤9223372036854775807):Zd0 Zcc (fun b:PSt=>.agg [pI b.state,.str b.values]) b:=fun w w' F u hu=>by
 obtain ⟨x,y,rfl,a1,a2⟩:=vrAgg2 hu
 cases a1;cases a2
 exact ⟨[_],[_],rfl,⟨rfl,h1⟩,rfl,h2⟩
theorem sc_fit {c:SGr} {n:Nl} {b:PSt} (hc:SGFit (toPG c)) (hn:(toPN n).Fit):(∀x∈(scA c n b).1.1,Zd0 Zcc (fun b:PSt=>.agg [pI b.state,.str b.values]) x)∧(∀x∈(scA c n b).1.2,Zd0 Zp pI x):=by
 obtain ⟨h1,h2,_,_⟩:=Zq2 (b:=b) hc hn
 refine ⟨fun x hx=> ?_,fun x hx=> ?_⟩
 ·have:=h1 x hx
  exact cellsPSt (by constructor<;>omega) (by omega)
 ·have:=h2 x hx
  exact ZrT (by constructor<;>omega)
theorem sc_bound (c:SGr) (n:Nl) (b:PSt) (A_c_signals:Option Addr) (c_c_signals:Nat) (A_c_codes:Option Addr) (c_c_codes:Nat) (A_c_arcs:Option Addr) (c_c_arcs:Nat) (A_n_signals:Option Addr) (c_n_signals:Nat) (A_n_wires:Option Addr) (c_n_wires:Nat) (w:World) (fc0:(c.signals).length≤c_c_signals) (fc1:c_c_signals≤9223372036854775807) (fc2:RA Z2 w A_c_signals c.signals) (fc3:(c.codes).length≤c_c_codes) (fc4:c_c_codes≤9223372036854775807) (fc5:RA Zab w A_c_codes c.codes) (fc6:(c.arcs).length≤c_c_arcs) (fc7:c_c_arcs≤9223372036854775807) (fc8:RA Zcv w A_c_arcs c.arcs) (fn0:(n.signals).length≤c_n_signals) (fn1:c_n_signals≤9223372036854775807) (fn2:RA Z2 w A_n_signals n.signals) (fn3:(n.wires).length≤c_n_wires) (fn4:c_n_wires≤9223372036854775807) (fn5:RA Zah w A_n_wires n.wires):(scA c n b).1.1.length≤24∧(scA c n b).1.2.length≤24:=
 (Zq2 (b:=b) (bdSGrX.out (ZkG (w:=w) (D:=fun b=>b<w.heap.size) (x:=c) (by assumption) (by assumption) (by assumption) (by assumption) (by assumption) (by assumption) (by assumption) (by assumption) (by assumption)))
  (bdNlX.out (ZmN (w:=w) (D:=fun b=>b<w.heap.size) (x:=n) (by assumption) (by assumption) (by assumption) (by assumption) (by assumption) (by assumption)))).2.2
theorem impl_Successors (c:SGr) (n:Nl) (b:PSt) (A_c_signals:Option Addr) (c_c_signals:Nat) (A_c_codes:Option Addr) (c_c_codes:Nat) (A_c_arcs:Option Addr) (c_c_arcs:Nat) (A_n_signals:Option Addr) (c_n_signals:Nat) (A_n_wires:Option Addr) (c_n_wires:Nat) (w:World) (fc0:(c.signals).length≤c_c_signals) (fc1:c_c_signals≤9223372036854775807) (fc2:RA Z2 w A_c_signals c.signals) (fc3:(c.codes).length≤c_c_codes) (fc4:c_c_codes≤9223372036854775807) (fc5:RA Zab w A_c_codes c.codes) (fc6:(c.arcs).length≤c_c_arcs) (fc7:c_c_arcs≤9223372036854775807) (fc8:RA Zcv w A_c_arcs c.arcs) (fn0:(n.signals).length≤c_n_signals) (fn1:c_n_signals≤9223372036854775807) (fn2:RA Z2 w A_n_signals n.signals) (fn3:(n.wires).length≤c_n_wires) (fn4:c_n_wires≤9223372036854775807) (fn5:RA Zah w A_n_wires n.wires) (i1:InI b.state) (i2:b.values.length≤9223372036854775807):
 Calls Tryz.prog 26 #[.agg #[.slice A_c_signals (c.signals).length c_c_signals,.slice A_c_codes (c.codes).length c_c_codes,.slice A_c_arcs (c.arcs).length c_c_arcs],.agg #[.slice A_n_signals (n.signals).length c_n_signals,.slice A_n_wires (n.wires).length c_n_wires],.agg #[.int .i64 b.state,.string ⟨b.values.toArray⟩]] w fun e w'=>∃A c1 A2 c2,e=.returned (.tuple #[.slice A ((scA c n b).1.1).length c1,.slice A2 ((scA c n b).1.2).length c2,.bool (scA c n b).2])∧Own Zcc w' w.heap.size 33 A c1 (scA c n b).1.1∧Own Zp w' w.heap.size 3 A2 c2 (scA c n b).1.2∧(∀q,blk A=some q→blk A2=some q→False)∧Below w.heap.size w w':=by
 have hr:=ZmN (w:=w) (D:=fun b=>b<w.heap.size) (x:=n) (by assumption) (by assumption) (by assumption) (by assumption) (by assumption) (by assumption)
 have hr2:=ZkG (w:=w) (D:=fun b=>b<w.heap.size) (x:=c) (by assumption) (by assumption) (by assumption) (by assumption) (by assumption) (by assumption) (by assumption) (by assumption) (by assumption)
 have hr3:=Zoc (w:=w) (D:=fun b=>b<w.heap.size) (x:=b) i1 i2
 have hf:=bdNlX.out hr
 have hf2:=bdSGrX.out hr2
 have hs:ZcR.spec [eSG (toPG c),Zak (toPN n),ePs b]=some (.tup [.lst ((scA c n b).1.1.map fun b:PSt=>.agg [pI b.state,.str b.values]),.lst ((scA c n b).1.2.map pI),pB (scA c n b).2]):=(congrFun (show ZcR.spec=ZcS from rfl) _).trans (Zjx (toPG c) (toPN n) b hf2 hf i2)
 have hv:=encNlX.vrAgg hr
 rw[eNet_to] at hv
 have hv2:=encSGrX.vrAgg hr2
 rw[eSG_to] at hv2
 have hv3:=encPSt.vrAgg hr3
 obtain ⟨q1,q2⟩:=sc_fit (b:=b) hf2 hf
 exact FnOk.own2Bool (S:=Zcc) (S2:=Zp) ZjD rfl rfl rfl rfl (.cons hv2 (.cons hv (.cons hv3 .nil))) hs q1 q2
theorem spec_Successors (c:SGr) (n:Nl) (b:PSt) (A_c_signals:Option Addr) (c_c_signals:Nat) (A_c_codes:Option Addr) (c_c_codes:Nat) (A_c_arcs:Option Addr) (c_c_arcs:Nat) (A_n_signals:Option Addr) (c_n_signals:Nat) (A_n_wires:Option Addr) (c_n_wires:Nat) (w:World) (fc0:(c.signals).length≤c_c_signals) (fc1:c_c_signals≤9223372036854775807) (fc2:RA Z2 w A_c_signals c.signals) (fc3:(c.codes).length≤c_c_codes) (fc4:c_c_codes≤9223372036854775807) (fc5:RA Zab w A_c_codes c.codes) (fc6:(c.arcs).length≤c_c_arcs) (fc7:c_c_arcs≤9223372036854775807) (fc8:RA Zcv w A_c_arcs c.arcs) (fn0:(n.signals).length≤c_n_signals) (fn1:c_n_signals≤9223372036854775807) (fn2:RA Z2 w A_n_signals n.signals) (fn3:(n.wires).length≤c_n_wires) (fn4:c_n_wires≤9223372036854775807) (fn5:RA Zah w A_n_wires n.wires) (i1:InI b.state) (i2:b.values.length≤9223372036854775807):
 Calls Tryz.prog 25 #[.agg #[.slice A_c_signals (c.signals).length c_c_signals,.slice A_c_codes (c.codes).length c_c_codes,.slice A_c_arcs (c.arcs).length c_c_arcs],.agg #[.slice A_n_signals (n.signals).length c_n_signals,.slice A_n_wires (n.wires).length c_n_wires],.agg #[.int .i64 b.state,.string ⟨b.values.toArray⟩]] w fun e w'=>∃A c1 A2 c2,e=.returned (.tuple #[.slice A ((scA c n b).1.1).length c1,.slice A2 ((scA c n b).1.2).length c2,.bool (scA c n b).2])∧Own Zcc w' w.heap.size 33 A c1 (scA c n b).1.1∧Own Zp w' w.heap.size 3 A2 c2 (scA c n b).1.2∧(∀q,blk A=some q→blk A2=some q→False)∧Below w.heap.size w w':=by
 have hr:=ZmN (w:=w) (D:=fun b=>b<w.heap.size) (x:=n) (by assumption) (by assumption) (by assumption) (by assumption) (by assumption) (by assumption)
 have hr2:=ZkG (w:=w) (D:=fun b=>b<w.heap.size) (x:=c) (by assumption) (by assumption) (by assumption) (by assumption) (by assumption) (by assumption) (by assumption) (by assumption) (by assumption)
 have hr3:=Zoc (w:=w) (D:=fun b=>b<w.heap.size) (x:=b) i1 i2
 have hf:=bdNlX.out hr
 have hf2:=bdSGrX.out hr2
 have hs:ZcP.spec [eSG (toPG c),Zak (toPN n),ePs b]=some (.tup [.lst ((scA c n b).1.1.map fun b:PSt=>.agg [pI b.state,.str b.values]),.lst ((scA c n b).1.2.map pI),pB (scA c n b).2]):=(congrFun (show ZcP.spec=ZcQ from rfl) _).trans (Zjw (toPG c) (toPN n) b hf2 hf i2)
 have hv:=encNlX.vrAgg hr
 rw[eNet_to] at hv
 have hv2:=encSGrX.vrAgg hr2
 rw[eSG_to] at hv2
 have hv3:=encPSt.vrAgg hr3
 obtain ⟨q1,q2⟩:=sc_fit (b:=b) hf2 hf
 exact FnOk.own2Bool (S:=Zcc) (S2:=Zp) ZjB rfl rfl rfl rfl (.cons hv2 (.cons hv (.cons hv3 .nil))) hs q1 q2
end Go.Proofs.YtmfplddmccggkaaGreat.Lw
