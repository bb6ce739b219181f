import Derived.Test.YtenddofcogldfaaGreatDoorOwnWi
import Derived.Test.YtenddofcogldfaaGreatDoorLawNi
import Derived.Test.YtenddofcogldfaaGreatDoorSplitGateP
namespace Go.Proofs.YtenddofcogldfaaGreatDoor.Lw
open Go.RowKit
set_option linter.unusedVariables false
set_option linter.unusedSimpArgs false
theorem gok_to {w w':World} (h:GOk w fun b=>b<w.heap.size) (hb:Below w.heap.size w w'):GOk w' fun b=>b<w'.heap.size:=h.keep ⟨fun b hb'=>Nat.lt_of_lt_of_le hb' hb.size,fun b hb'=>hb.block b hb'⟩
def ofPW (w:PWire):Wire:=⟨w.name,w.kind,w.ins.map fun p=>⟨p.1,p.2⟩,w.cover⟩
def ofPN (n:PNet):Nl:=⟨n.signals.map fun s=>⟨s.1,s.2⟩,n.wires.map ofPW⟩
theorem ofPN_e (n:PNet):PV.agg [.lst ((ofPN n).signals.map ZaW),.lst ((ofPN n).wires.map Zav)]=ZP n:=by
 simp[ofPN,ofPW,ZaW,Zav,Zbo,ZP,ZaI,Zu,ZaJ,List.map_map,Function.comp_def]
theorem ofPN_in {n:PNet} (h:NetIn n):NlIn (ofPN n):=by
 refine ⟨fun s hs=> ?_,fun x hx=> ?_⟩
 ·obtain ⟨t,ht,rfl⟩:=List.mem_map.1 hs
  have:=h.sig t ht
  exact ⟨show t.1.length≤_ by omega,show InI t.2 by constructor<;>omega⟩
 ·obtain ⟨w,hw,rfl⟩:=List.mem_map.1 hx
  obtain ⟨h1,h2,h3,h4,h5,h6⟩:=h.wire w hw
  refine ⟨show w.name.length≤_ by omega,show InI w.kind by constructor<;>omega,fun p hp=> ?_,fun s hs=> ?_⟩
  ·obtain ⟨q,hq,rfl⟩:=List.mem_map.1 hp
   have:=h4 q hq
   exact show InI q.1 by constructor<;>omega
  ·have:=h6 s hs
   omega
theorem wcosts_in :∀(l:List PWire),(∀w∈l,w.ins.length≤8∧w.cover.length≤60)→wcosts (l.map ofPW)≤100 * l.length
 |[],_=>by simp[wcosts]
 | w::r,h=>by
  have ih:=wcosts_in r fun w hw=>h w (List.mem_cons_of_mem _ hw)
  have:=h w List.mem_cons_self
  rw[List.map_cons,wcosts,List.length_cons]
  simp only[wcost,ofPW,List.length_map]
  omega
theorem ofPN_len {n:PNet} (h:NetIn n):(ofPN n).signals.length≤8∧(ofPN n).wires.length≤24∧wcosts (ofPN n).wires≤2400:=by
 have h1:=h.s8
 have h2:=h.w24
 have h3:=wcosts_in n.wires fun w hw=>⟨(h.wire w hw).2.2.1,(h.wire w hw).2.2.2.2.1⟩
 refine ⟨by simpa[ofPN] using h1,by simpa[ofPN] using h2, ?_⟩
 show wcosts (n.wires.map ofPW)≤2400
 omega
def toPW (x:Wire):PWire:=⟨x.name,x.kind,x.ins.map fun p=>(p.at_,p.not_),x.cover⟩
def toPN (n:Nl):PNet:=⟨n.signals.map fun s=>(s.name,s.kind),n.wires.map toPW⟩
theorem encSigX :EncOk Zm (fun s=>[.str s.name,pI s.kind]):=Zlr (v:=fun x:Sig=>(x.name,x.kind)) (Zfx Zoc ZiF)
theorem encPinX :EncOk Zw (fun p=>[pI p.at_,pB p.not_]):=Zlr (v:=fun x:Pin=>(x.at_,x.not_)) (Zfx ZiF ZsY)
theorem encWireX :EncOk Zx (fun x=>[.str x.name,pI x.kind,.lst (x.ins.map fun p=>.agg [pI p.at_,pB p.not_]),.lst (x.cover.map PV.str)]):=
 Zlr (v:=fun x:Wire=>(x.name,(x.kind,(x.ins,x.cover)))) (Zfx Zoc (Zfx ZiF (Zfx (ZiG encPinX) (Zre Zoc rfl))))
theorem encNlX :EncOk Znr (fun n=>[.lst (n.signals.map fun s=>.agg [.str s.name,pI s.kind]),.lst (n.wires.map fun x=>.agg [.str x.name,pI x.kind,.lst (x.ins.map fun p=>.agg [pI p.at_,pB p.not_]),.lst (x.cover.map PV.str)])]):=
 Zlr (v:=fun x:Nl=>(x.signals,x.wires)) (Zfx (ZiG encSigX) (ZiG encWireX))
theorem eNet_to (n:Nl):PV.agg [.lst (n.signals.map fun s=>.agg [.str s.name,pI s.kind]),.lst (n.wires.map fun x=>.agg [.str x.name,pI x.kind,.lst (x.ins.map fun p=>.agg [pI p.at_,pB p.not_]),.lst (x.cover.map PV.str)])]=ZP (toPN n):=by
 simp[ZP,toPN,toPW,ZaI,Zu,ZaJ,List.map_map,Function.comp_def]
theorem bdSigX :BdOk Zm (fun s=>s.name.length≤9223372036854775807):=BdOk.mono (Zrg (v:=fun x:Sig=>(x.name,x.kind)) (ZiH Zrf Zoe)) (fun a h=>h.1)
theorem bdWireX :BdOk Zx (fun x=>(toPW x).Fit):=
 BdOk.mono (Zrg (v:=fun x:Wire=>(x.name,(x.kind,(x.ins,x.cover)))) (ZiH Zrf (ZiH Zoe (ZiH (bdSl (S:=Zw) Zoe) (bdSl Zrf))))) (fun a h=>⟨h.1,by simpa[Zaa,toPW] using h.2.2.1.1,h.2.2.2.1,h.2.2.2.2⟩)
theorem bdNlX :BdOk Znr (fun n=>(toPN n).Fit):=
 BdOk.mono (Zrg (v:=fun x:Nl=>(x.signals,x.wires)) (ZiH (bdSl bdSigX) (bdSl bdWireX))) (fun a h=>⟨by simpa[Zaa,toPN] using h.1.1,fun s hs=>by
  simp only[toPN,List.mem_map] at hs
  obtain ⟨x,hx,rfl⟩:=hs
  exact h.1.2 x hx,by simpa[Zaa,toPN] using h.2.1,fun s hs=>by
  simp only[toPN,List.mem_map] at hs
  obtain ⟨x,hx,rfl⟩:=hs
  exact h.2.2 x hx⟩)
theorem spP_in (n:PNet) (k:Int) (ps:List Int):NetIn (spP n k ps).1:=by
 unfold spP
 split
 ·rename_i h;exact Zif h.2
 ·exact NetIn.nil
def sgA (n:Nl) (k:Int) (ps:List Int):Nl×Bool:=(ofPN (spP (toPN n) k ps).1,(spP (toPN n) k ps).2)
theorem sgA_bound (n:Nl) (k:Int) (ps:List Int):(sgA n k ps).1.signals.length≤8∧(sgA n k ps).1.wires.length≤24∧wcosts (sgA n k ps).1.wires≤2400:=ofPN_len (spP_in _ _ _)
theorem impl_SplitGate (n:Nl) (k:Int) (ps:List Int) (A_n_signals:Option Addr) (c_n_signals:Nat) (A_n_wires:Option Addr) (c_n_wires:Nat) (A1:Option Addr) (c1:Nat) (w:World) (fn0:(n.signals).length≤c_n_signals) (fn1:c_n_signals≤9223372036854775807) (fn2:RA Zm w A_n_signals n.signals) (fn3:(n.wires).length≤c_n_wires) (fn4:c_n_wires≤9223372036854775807) (fn5:RA Zx w A_n_wires n.wires) (l1:ps.length≤c1) (k1:c1≤9223372036854775807) (r1:RA ZB w A1 ps) (hg:GOk w fun b=>b<w.heap.size):
 Calls Tryz.prog 8 #[.agg #[.slice A_n_signals (n.signals).length c_n_signals,.slice A_n_wires (n.wires).length c_n_wires],.int .i64 k,.slice A1 ps.length c1] w fun e w'=>∃A' c' A2' c2' hs',e=.returned (.tuple #[.agg #[.slice A' ((sgA n k ps).1.signals).length c',.slice A2' ((sgA n k ps).1.wires).length c2'],.bool (sgA n k ps).2])∧Own Zm w' w.heap.size 70 A' c' (sgA n k ps).1.signals∧OwnW w' w.heap.size 68 9 A2' c2' (sgA n k ps).1.wires hs'∧(∀q,blk A'=some q→wB A2' hs' q→False)∧Below w.heap.size w w':=by
 have hr:=Zp4 (w:=w) (D:=fun b=>b<w.heap.size) (x:=n) (by assumption) (by assumption) (by assumption) (by assumption) (by assumption) (by assumption)
 have hf:=bdNlX.out hr
 have hv:=encNlX.vrAgg hr
 rw[eNet_to] at hv
 have hs:ZcP.spec [ZP (toPN n),pI k,.lst (ps.map pI)]=some (.tup [.agg [.lst ((sgA n k ps).1.signals.map ZaW),.lst ((sgA n k ps).1.wires.map Zav)],pB (sgA n k ps).2]):=by
  refine ((congrFun (show ZcP.spec=ZcQ from rfl) _).trans (ZjP _ hf k ps (by unfold Zaa;omega))).trans ?_
  unfold sgA
  rw[ofPN_e]
 exact ownNet (sz:=1000000) Zj0 rfl rfl rfl (.cons hv (.cons (.int .i64 _) (.cons (Zod ZiF rfl r1 l1 k1) .nil))) hs (ofPN_in (spP_in _ _ _)) hg
theorem spec_SplitGate (n:Nl) (k:Int) (ps:List Int) (A_n_signals:Option Addr) (c_n_signals:Nat) (A_n_wires:Option Addr) (c_n_wires:Nat) (A1:Option Addr) (c1:Nat) (w:World) (fn0:(n.signals).length≤c_n_signals) (fn1:c_n_signals≤9223372036854775807) (fn2:RA Zm w A_n_signals n.signals) (fn3:(n.wires).length≤c_n_wires) (fn4:c_n_wires≤9223372036854775807) (fn5:RA Zx w A_n_wires n.wires) (l1:ps.length≤c1) (k1:c1≤9223372036854775807) (r1:RA ZB w A1 ps) (hg:GOk w fun b=>b<w.heap.size):
 Calls Tryz.prog 5 #[.agg #[.slice A_n_signals (n.signals).length c_n_signals,.slice A_n_wires (n.wires).length c_n_wires],.int .i64 k,.slice A1 ps.length c1] w fun e w'=>∃A' c' A2' c2',e=.returned (.tuple #[.agg #[.slice A' ((sgA n k ps).1.signals).length c',.slice A2' ((sgA n k ps).1.wires).length c2'],.bool (sgA n k ps).2])∧Seen Zm w' w'.heap.size A' c' (sgA n k ps).1.signals∧Seen Zx w' w'.heap.size A2' c2' (sgA n k ps).1.wires∧Below w.heap.size w w':=by
 have hr:=Zp4 (w:=w) (D:=fun b=>b<w.heap.size) (x:=n) (by assumption) (by assumption) (by assumption) (by assumption) (by assumption) (by assumption)
 have hf:=bdNlX.out hr
 have hv:=encNlX.vrAgg hr
 rw[eNet_to] at hv
 have hs:ZcM.spec [ZP (toPN n),pI k,.lst (ps.map pI)]=some (.tup [.agg [.lst ((sgA n k ps).1.signals.map ZaW),.lst ((sgA n k ps).1.wires.map Zav)],pB (sgA n k ps).2]):=by
  refine ((congrFun (show ZcM.spec=ZcN from rfl) _).trans (ZjQ _ hf k ps (by unfold Zaa;omega))).trans ?_
  unfold sgA
  rw[ofPN_e]
 exact seenNet ZjU rfl rfl (.cons hv (.cons (.int .i64 _) (.cons (Zod ZiF rfl r1 l1 k1) .nil))) hs (ofPN_in (spP_in _ _ _)) hg
end Go.Proofs.YtenddofcogldfaaGreatDoor.Lw
