import Derived.Test.YtkgnjijonikchaaGreatOwn
import Derived.Test.YtkgnjijonikchaaGreatLawPd
import Derived.Test.YtkgnjijonikchaaGreatComposeP
namespace Go.Proofs.YtkgnjijonikchaaGreat.Lw
open Go.RowKit
set_option linter.unusedVariables false
set_option linter.unusedSimpArgs false
def toPW (x:Wire):PWire:=⟨x.name,x.kind,x.ins.map fun p=>(p.at_,p.not_),x.cover⟩
def toPN (n:Nl):PNet:=⟨n.signals.map fun s=>(s.name,s.kind),n.wires.map toPW⟩
theorem encSigX :EncOk Zah (fun s=>[.str s.name,pI s.kind]):=Zj7 (v:=fun x:Sig=>(x.name,x.kind)) (Zda Zoq Zj6)
theorem encPinX :EncOk Zcb (fun p=>[pI p.at_,pB p.not_]):=Zj7 (v:=fun x:Pin=>(x.at_,x.not_)) (Zda Zj6 Zs1)
theorem encWireX :EncOk Zam (fun x=>[.str x.name,pI x.kind,.lst (x.ins.map fun p=>.agg [pI p.at_,pB p.not_]),.lst (x.cover.map PV.str)]):=
 Zj7 (v:=fun x:Wire=>(x.name,(x.kind,(x.ins,x.cover)))) (Zda Zoq (Zda Zj6 (Zda (Zg6 encPinX) (ZpJ Zoq rfl))))
theorem encNlX :EncOk shNl (fun n=>[.lst (n.signals.map fun s=>.agg [.str s.name,pI s.kind]),.lst (n.wires.map fun x=>.agg [.str x.name,pI x.kind,.lst (x.ins.map fun p=>.agg [pI p.at_,pB p.not_]),.lst (x.cover.map PV.str)])]):=
 Zj7 (v:=fun x:Nl=>(x.signals,x.wires)) (Zda (Zg6 encSigX) (Zg6 encWireX))
theorem eNet_to (n:Nl):PV.agg [.lst (n.signals.map fun s=>.agg [.str s.name,pI s.kind]),.lst (n.wires.map fun x=>.agg [.str x.name,pI x.kind,.lst (x.ins.map fun p=>.agg [pI p.at_,pB p.not_]),.lst (x.cover.map PV.str)])]=Z3 (toPN n):=by
 simp[Z3,toPN,toPW,Zaa,Z6,Zaq,List.map_map,Function.comp_def]
theorem bdSigX :BdOk Zah (fun s=>s.name.length≤9223372036854775807):=BdOk.mono (Zs3 (v:=fun x:Sig=>(x.name,x.kind)) (Ziw Zs2 Zor)) (fun a h=>h.1)
theorem bdWireX :BdOk Zam (fun x=>(toPW x).Fit):=
 BdOk.mono (Zs3 (v:=fun x:Wire=>(x.name,(x.kind,(x.ins,x.cover)))) (Ziw Zs2 (Ziw Zor (Ziw (Zrz (S:=Zcb) Zor) (Zrz Zs2))))) (fun a h=>⟨h.1,by simpa[ZG,toPW] using h.2.2.1.1,h.2.2.2.1,h.2.2.2.2⟩)
theorem bdNlX :BdOk shNl (fun n=>(toPN n).Fit):=
 BdOk.mono (Zs3 (v:=fun x:Nl=>(x.signals,x.wires)) (Ziw (Zrz bdSigX) (Zrz bdWireX))) (fun a h=>⟨by simpa[ZG,toPN] using h.1.1,fun s hs=>by
  simp only[toPN,List.mem_map] at hs
  obtain ⟨x,hx,rfl⟩:=hs
  exact h.1.2 x hx,by simpa[ZG,toPN] using h.2.1,fun s hs=>by
  simp only[toPN,List.mem_map] at hs
  obtain ⟨x,hx,rfl⟩:=hs
  exact h.2.2 x hx⟩)
def toPA (a:Ac):PArc:=⟨a.from_,a.sig,a.up,a.to_⟩
def toPG (c:SGr):PSG:=⟨c.signals.map fun s=>(s.name,s.kind),c.codes,c.arcs.map toPA⟩
theorem encAcX :EncOk Zdg (fun a=>[pI a.from_]++([pI a.sig]++([pB a.up]++[pI a.to_]))):=Zj7 (v:=fun x:Ac=>(x.from_,(x.sig,(x.up,x.to_)))) (Zda Zj6 (Zda Zj6 (Zda Zs1 Zj6)))
theorem encSGrX :EncOk ZqB (fun c=>[.lst (c.signals.map fun s=>.agg [.str s.name,pI s.kind])]++([.lst (c.codes.map PV.str)]++[.lst (c.arcs.map fun a=>.agg ([pI a.from_]++([pI a.sig]++([pB a.up]++[pI a.to_]))))])):=
 Zj7 (v:=fun x:SGr=>(x.signals,(x.codes,x.arcs))) (Zda (Zg6 encSigX) (Zda (ZpJ Zoq rfl) (Zg6 encAcX)))
theorem eSG_to (c:SGr):PV.agg ([.lst (c.signals.map fun s=>.agg [.str s.name,pI s.kind])]++([.lst (c.codes.map PV.str)]++[.lst (c.arcs.map fun a=>.agg ([pI a.from_]++([pI a.sig]++([pB a.up]++[pI a.to_]))))]))=eSG (toPG c):=by
 simp[eSG,toPG,toPA,Zaa,Zan,List.map_map,Function.comp_def]
theorem bdSGrX :BdOk ZqB (fun c=>SGFit (toPG c)):=
 BdOk.mono (Zs3 (v:=fun x:SGr=>(x.signals,(x.codes,x.arcs))) (Ziw (Zrz bdSigX) (Ziw (Zrz Zs2) (Zrz (S:=Zdg) Zor)))) (fun a h=>⟨by simpa[ZG,toPG] using h.1.1,fun s hs=>by
  simp only[toPG,List.mem_map] at hs
  obtain ⟨x,hx,rfl⟩:=hs
  exact h.1.2 x hx,by simpa[ZG,toPG] using h.2.1.1,fun x hx=>h.2.1.2 x hx,by simpa[ZG,toPG] using h.2.2.1⟩)
theorem vrAgg2 {w:World} {F:Nat→Prop} {a b:PV} {v:Value} (h:VR w F (.agg [a,b]) v):∃x y,v=.agg #[x,y]∧VR w F a x∧VR w F b y:=by
 cases h with
 | agg l cs k1 k2 k3=>
  have hs:cs.size=2:=k1.symm
  refine ⟨cs.getD 0 Go.undef,cs.getD 1 Go.undef, ?_,k3 0 _ rfl,k3 1 _ rfl⟩
  congr 1
  apply Array.ext
  ·simp[hs]
  ·intro i h1 h2
   match i with
   |0=>simp[hs]
   |1=>simp[hs]
   |i+2=>simp at h2;omega
theorem vrAgg3 {w:World} {F:Nat→Prop} {a b c:PV} {v:Value} (h:VR w F (.agg [a,b,c]) v):∃x y z,v=.agg #[x,y,z]∧VR w F a x∧VR w F b y∧VR w F c z:=by
 cases h with
 | agg l cs k1 k2 k3=>
  have hs:cs.size=3:=k1.symm
  refine ⟨cs.getD 0 Go.undef,cs.getD 1 Go.undef,cs.getD 2 Go.undef, ?_,k3 0 _ rfl,k3 1 _ rfl,k3 2 _ rfl⟩
  congr 1
  apply Array.ext
  ·simp[hs]
  ·intro i h1 h2
   match i with
   |0=>simp[hs]
   |1=>simp[hs]
   |2=>simp[hs]
   |i+3=>simp at h2;omega
def eCs (b:PSt):PV:=.agg [pI b.state,.str b.values]
def eCf (f:Flip):PV:=.agg [pI f.from_,pI f.wire,pI f.to]
theorem cellsPSt {b:PSt} (h1:InI b.state) (h2:b.values.length≤9223372036854775807):ZfS ZbF eCs b:=fun w w' F u hu=>by
 obtain ⟨x,y,rfl,a1,a2⟩:=vrAgg2 hu
 cases a1;cases a2
 exact ⟨[_],[_],rfl,⟨rfl,h1⟩,rfl,h2⟩
theorem readsPSt {b:PSt} (h1:InI b.state) (h2:b.values.length≤9223372036854775807):ZdJ ZbF eCs b:=fun w D u hu=>by
 obtain ⟨x,y,rfl,a1,a2⟩:=vrAgg2 hu
 cases a1;cases a2
 exact ⟨[_],[_],rfl,⟨rfl,h1⟩,rfl,h2⟩
theorem cellsFlip {h:Flip} (h1:InI h.from_) (h2:InI h.wire) (h3:InI h.to):ZfS ZZ eCf h:=fun w w' F u hu=>by
 obtain ⟨x,y,z,rfl,a1,a2,a3⟩:=vrAgg3 hu
 cases a1;cases a2;cases a3
 exact ⟨[_],[_,_],rfl,⟨rfl,h1⟩,[_],[_],rfl,⟨rfl,h2⟩,rfl,h3⟩
theorem readsFlip {h:Flip} (h1:InI h.from_) (h2:InI h.wire) (h3:InI h.to):ZdJ ZZ eCf h:=fun w D u hu=>by
 obtain ⟨x,y,z,rfl,a1,a2,a3⟩:=vrAgg3 hu
 cases a1;cases a2;cases a3
 exact ⟨[_],[_,_],rfl,⟨rfl,h1⟩,[_],[_],rfl,⟨rfl,h2⟩,rfl,h3⟩
theorem seenRows3Bool {P:Program} {α β γ:Type} {S:Sh α} {f:α→PV} {S2:Sh β} {f2:β→PV} {S3:Sh γ} {f3:γ→PV} {e:Ent} (he:FnOk P e) (hrk:e.rk=.grp true [.val,.val]) {w:World} {xs:List PV} {vs:List Value} {l:List α} {l2:List β} {l3:List γ} {b:Bool} (hps:e.ps=List.replicate xs.length (.ck .val)) (hx:VRs w (fun b=>b<w.heap.size) xs vs)
 (hs:e.spec xs=some (.tup [.agg [.lst (l.map f),.lst (l2.map f2),.lst (l3.map f3)],pB b])) (H:∀x∈l,ZdJ S f x) (H2:∀x∈l2,ZdJ S2 f2 x) (H3:∀x∈l3,ZdJ S3 f3 x) (hg:GOk w (fun b=>b<w.heap.size):=by first|exact gok0|assumption):
 Calls P e.f vs.toArray w fun en w'=>∃A c A2 c2 A3 c3,en=.returned (.tuple #[.agg #[.slice A l.length c,.slice A2 l2.length c2,.slice A3 l3.length c3],.bool b])∧Seen S w' w'.heap.size A c l∧Seen S2 w' w'.heap.size A2 c2 l2∧Seen S3 w' w'.heap.size A3 c3 l3∧Below w.heap.size w w':=by
 refine (he.call w (fun b=>b<w.heap.size) xs vs _ ⟨fun _ h=>h,hg⟩ (by rw[hps];exact Zjj hx) hs).mono ?_
 rintro en w' ⟨v,F',l',rfl,ha,_,hsr,hfresh,_⟩
 rw[hrk] at hsr
 obtain ⟨cs,ys,fps,hv,hy,hg,hfp⟩:=hsr
 simp only[if_true,PV.tup.injEq] at hv hy
 subst hy
 obtain ⟨cl⟩:=cs
 subst hv
 dsimp only at hg
 cases hg with
 | cons h1 _ t=>
  cases t with
  | cons h2 _ t=>
   cases t
   obtain ⟨h1,_⟩:=h1
   obtain ⟨h2,_⟩:=h2
   cases h2
   obtain ⟨y,z,u,rfl,k1,k2,k3⟩:=vrAgg3 h1
   obtain ⟨A,c,rfl,hr,hlc,hcm⟩:=ZhS H rfl k1
   obtain ⟨A2,c2,rfl,hr2,hlc2,hcm2⟩:=ZhS H2 rfl k2
   obtain ⟨A3,c3,rfl,hr3,hlc3,hcm3⟩:=ZhS H3 rfl k3
   exact ⟨A,c,A2,c2,A3,c3,rfl,⟨hr.mono fun b hb=>ha.lt b hb,Nat.le_refl _,hlc,by simpa[maxLen] using hcm⟩,⟨hr2.mono fun b hb=>ha.lt b hb,Nat.le_refl _,hlc2,by simpa[maxLen] using hcm2⟩,⟨hr3.mono fun b hb=>ha.lt b hb,Nat.le_refl _,hlc3,by simpa[maxLen] using hcm3⟩,ha.below⟩
def cpA (c:SGr) (n:Nl):ProdG×Bool:=cpQ (toPG c) (toPN n)
theorem cp_all {c:SGr} {n:Nl} (hc:SGFit (toPG c)) (hn:(toPN n).Fit):(∀b∈(cpA c n).1.states,InI b.state∧b.values.length≤9223372036854775807)∧(∀f∈(cpA c n).1.flips,InI f.from_∧InI f.wire∧InI f.to)∧(∀f∈(cpA c n).1.extra,InI f.from_∧InI f.wire∧InI f.to)∧
 (cpA c n).1.states.length≤600∧(cpA c n).1.flips.length≤14400∧(cpA c n).1.extra.length≤14400:=by
 obtain ⟨h1,h2,h3,h4,h5,h6⟩:=cpQ_in hc hn
 refine ⟨fun b hb=> ?_,fun f hf=> ?_,fun f hf=> ?_,h4,h5,h6⟩
 ·obtain ⟨a1,a2,a3⟩:=h1 b hb
  exact ⟨by constructor<;>omega,by omega⟩
 ·obtain ⟨a1,a2,a3,a4,a5,a6⟩:=h2 f hf
  exact ⟨by constructor<;>omega,by constructor<;>omega,by constructor<;>omega⟩
 ·obtain ⟨a1,a2,a3,a4,a5⟩:=h3 f hf
  exact ⟨by constructor<;>omega,by constructor<;>omega,by constructor<;>omega⟩
theorem cp_bound (c:SGr) (n:Nl) (A_c_signals:Option Addr) (c_c_signals:Nat) (A_c_codes:Option Addr) (c_c_codes:Nat) (A_c_arcs:Option Addr) (c_c_arcs:Nat) (A_n_signals:Option Addr) (c_n_signals:Nat) (A_n_wires:Option Addr) (c_n_wires:Nat) (w:World) (fc0:(c.signals).length≤c_c_signals) (fc1:c_c_signals≤9223372036854775807) (fc2:RA Zah w A_c_signals c.signals) (fc3:(c.codes).length≤c_c_codes) (fc4:c_c_codes≤9223372036854775807) (fc5:RA Zag w A_c_codes c.codes) (fc6:(c.arcs).length≤c_c_arcs) (fc7:c_c_arcs≤9223372036854775807) (fc8:RA Zdg w A_c_arcs c.arcs) (fn0:(n.signals).length≤c_n_signals) (fn1:c_n_signals≤9223372036854775807) (fn2:RA Zah w A_n_signals n.signals) (fn3:(n.wires).length≤c_n_wires) (fn4:c_n_wires≤9223372036854775807) (fn5:RA Zam w A_n_wires n.wires):(cpA c n).1.states.length≤600∧(cpA c n).1.flips.length≤14400∧(cpA c n).1.extra.length≤14400:=
 (cp_all (c:=c) (n:=n) (bdSGrX.out (Zmk (w:=w) (D:=fun b=>b<w.heap.size) (x:=c) (by assumption) (by assumption) (by assumption) (by assumption) (by assumption) (by assumption) (by assumption) (by assumption) (by assumption)))
  (bdNlX.out (Zo0 (w:=w) (D:=fun b=>b<w.heap.size) (x:=n) (by assumption) (by assumption) (by assumption) (by assumption) (by assumption) (by assumption)))).2.2.2
theorem impl_Compose (c:SGr) (n:Nl) (A_c_signals:Option Addr) (c_c_signals:Nat) (A_c_codes:Option Addr) (c_c_codes:Nat) (A_c_arcs:Option Addr) (c_c_arcs:Nat) (A_n_signals:Option Addr) (c_n_signals:Nat) (A_n_wires:Option Addr) (c_n_wires:Nat) (w:World) (fc0:(c.signals).length≤c_c_signals) (fc1:c_c_signals≤9223372036854775807) (fc2:RA Zah w A_c_signals c.signals) (fc3:(c.codes).length≤c_c_codes) (fc4:c_c_codes≤9223372036854775807) (fc5:RA Zag w A_c_codes c.codes) (fc6:(c.arcs).length≤c_c_arcs) (fc7:c_c_arcs≤9223372036854775807) (fc8:RA Zdg w A_c_arcs c.arcs) (fn0:(n.signals).length≤c_n_signals) (fn1:c_n_signals≤9223372036854775807) (fn2:RA Zah w A_n_signals n.signals) (fn3:(n.wires).length≤c_n_wires) (fn4:c_n_wires≤9223372036854775807) (fn5:RA Zam w A_n_wires n.wires):
 Calls Tryz.prog 19 #[.agg #[.slice A_c_signals (c.signals).length c_c_signals,.slice A_c_codes (c.codes).length c_c_codes,.slice A_c_arcs (c.arcs).length c_c_arcs],.agg #[.slice A_n_signals (n.signals).length c_n_signals,.slice A_n_wires (n.wires).length c_n_wires]] w fun e w'=>∃A' c' A2' c2' A3' c3',e=.returned (.tuple #[.agg #[.slice A' ((cpA c n).1.states).length c',.slice A2' ((cpA c n).1.flips).length c2',.slice A3' ((cpA c n).1.extra).length c3'],.bool (cpA c n).2])∧Own ZbF w' w.heap.size 66 A' c' (cpA c n).1.states∧Own ZZ w' w.heap.size 132 A2' c2' (cpA c n).1.flips∧Own ZZ w' w.heap.size 132 A3' c3' (cpA c n).1.extra∧(∀q,blk A'=some q→blk A2'=some q→False)∧(∀q,blk A'=some q→blk A3'=some q→False)∧(∀q,blk A2'=some q→blk A3'=some q→False)∧Below w.heap.size w w':=by
 have hr:=Zo0 (w:=w) (D:=fun b=>b<w.heap.size) (x:=n) (by assumption) (by assumption) (by assumption) (by assumption) (by assumption) (by assumption)
 have hr2:=Zmk (w:=w) (D:=fun b=>b<w.heap.size) (x:=c) (by assumption) (by assumption) (by assumption) (by assumption) (by assumption) (by assumption) (by assumption) (by assumption) (by assumption)
 have hf:=bdNlX.out hr
 have hf2:=bdSGrX.out hr2
 have hs:Ze3.spec [eSG (toPG c),Z3 (toPN n)]=some (.tup [.agg [.lst ((cpA c n).1.states.map eCs),.lst ((cpA c n).1.flips.map eCf),.lst ((cpA c n).1.extra.map eCf)],pB (cpA c n).2]):=(congrFun (show Ze3.spec=Ze4 from rfl) _).trans (Zph (toPG c) (toPN n) hf2 hf)
 have hv:=encNlX.vrAgg hr
 rw[eNet_to] at hv
 have hv2:=encSGrX.vrAgg hr2
 rw[eSG_to] at hv2
 obtain ⟨k1,k2,k3,_⟩:=cp_all hf2 hf
 exact FnOk.rows3Bool (S:=ZbF) (S2:=ZZ) (S3:=ZZ) Zpj rfl rfl rfl rfl rfl (.cons hv2 (.cons hv .nil)) hs (fun x hx=>cellsPSt (k1 x hx).1 (k1 x hx).2) (fun x hx=>cellsFlip (k2 x hx).1 (k2 x hx).2.1 (k2 x hx).2.2) (fun x hx=>cellsFlip (k3 x hx).1 (k3 x hx).2.1 (k3 x hx).2.2)
theorem spec_Compose (c:SGr) (n:Nl) (A_c_signals:Option Addr) (c_c_signals:Nat) (A_c_codes:Option Addr) (c_c_codes:Nat) (A_c_arcs:Option Addr) (c_c_arcs:Nat) (A_n_signals:Option Addr) (c_n_signals:Nat) (A_n_wires:Option Addr) (c_n_wires:Nat) (w:World) (fc0:(c.signals).length≤c_c_signals) (fc1:c_c_signals≤9223372036854775807) (fc2:RA Zah w A_c_signals c.signals) (fc3:(c.codes).length≤c_c_codes) (fc4:c_c_codes≤9223372036854775807) (fc5:RA Zag w A_c_codes c.codes) (fc6:(c.arcs).length≤c_c_arcs) (fc7:c_c_arcs≤9223372036854775807) (fc8:RA Zdg w A_c_arcs c.arcs) (fn0:(n.signals).length≤c_n_signals) (fn1:c_n_signals≤9223372036854775807) (fn2:RA Zah w A_n_signals n.signals) (fn3:(n.wires).length≤c_n_wires) (fn4:c_n_wires≤9223372036854775807) (fn5:RA Zam w A_n_wires n.wires):
 Calls Tryz.prog 18 #[.agg #[.slice A_c_signals (c.signals).length c_c_signals,.slice A_c_codes (c.codes).length c_c_codes,.slice A_c_arcs (c.arcs).length c_c_arcs],.agg #[.slice A_n_signals (n.signals).length c_n_signals,.slice A_n_wires (n.wires).length c_n_wires]] w fun e w'=>∃A' c' A2' c2' A3' c3',e=.returned (.tuple #[.agg #[.slice A' ((cpA c n).1.states).length c',.slice A2' ((cpA c n).1.flips).length c2',.slice A3' ((cpA c n).1.extra).length c3'],.bool (cpA c n).2])∧Seen ZbF w' w'.heap.size A' c' (cpA c n).1.states∧Seen ZZ w' w'.heap.size A2' c2' (cpA c n).1.flips∧Seen ZZ w' w'.heap.size A3' c3' (cpA c n).1.extra∧Below w.heap.size w w':=by
 have hr:=Zo0 (w:=w) (D:=fun b=>b<w.heap.size) (x:=n) (by assumption) (by assumption) (by assumption) (by assumption) (by assumption) (by assumption)
 have hr2:=Zmk (w:=w) (D:=fun b=>b<w.heap.size) (x:=c) (by assumption) (by assumption) (by assumption) (by assumption) (by assumption) (by assumption) (by assumption) (by assumption) (by assumption)
 have hf:=bdNlX.out hr
 have hf2:=bdSGrX.out hr2
 have hs:Zfe.spec [eSG (toPG c),Z3 (toPN n)]=some (.tup [.agg [.lst ((cpA c n).1.states.map eCs),.lst ((cpA c n).1.flips.map eCf),.lst ((cpA c n).1.extra.map eCf)],pB (cpA c n).2]):=(congrFun (show Zfe.spec=Zd1 from rfl) _).trans (Znu (toPG c) (toPN n) hf2 hf)
 have hv:=encNlX.vrAgg hr
 rw[eNet_to] at hv
 have hv2:=encSGrX.vrAgg hr2
 rw[eSG_to] at hv2
 obtain ⟨k1,k2,k3,_⟩:=cp_all hf2 hf
 exact seenRows3Bool (S:=ZbF) (S2:=ZZ) (S3:=ZZ) ZpC rfl rfl (.cons hv2 (.cons hv .nil)) hs (fun x hx=>readsPSt (k1 x hx).1 (k1 x hx).2) (fun x hx=>readsFlip (k2 x hx).1 (k2 x hx).2.1 (k2 x hx).2.2) (fun x hx=>readsFlip (k3 x hx).1 (k3 x hx).2.1 (k3 x hx).2.2)
end Go.Proofs.YtkgnjijonikchaaGreat.Lw
