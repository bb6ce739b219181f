import Derived.Test.YthobodfbjjjiiaaOwn
import Derived.Test.YthobodfbjjjiiaaLawBs
import Derived.Test.YthobodfbjjjiiaaBuildStateGraphP
namespace Go.Proofs.Ythobodfbjjjiiaa.Lw
open Go.RowKit
set_option linter.unusedVariables false
set_option linter.unusedSimpArgs false
theorem encTrX :EncOk ZrX (fun t=>[.lst (t.pre.map pI),.lst (t.post.map pI)]):=Zjt (v:=fun x:Tr=>(x.pre,x.post)) (ZeC (Znh Zjs rfl) (Znh Zjs rfl))
theorem encNetX :EncOk Zuc (fun n=>[pI n.places,.lst (n.trans.map fun t=>.agg [.lst (t.pre.map pI),.lst (t.post.map pI)])]):=Zjt (v:=fun x:Net=>(x.places,x.trans)) (ZeC Zjs (Zju encTrX))
theorem encSigX :EncOk Zrj (fun s=>[.str s.name,pI s.kind]):=Zjt (v:=fun x:Sig=>(x.name,x.kind)) (ZeC ZrY Zjs)
theorem encLabX :EncOk ZrG (fun p=>[pI p.sig,pB p.up]):=Zjt (v:=fun x:Lab=>(x.sig,x.up)) (ZeC Zjs Ztr)
theorem encStgX :EncOk Zt6 (fun s=>[pI s.net.places,.lst (s.net.trans.map fun t=>.agg [.lst (t.pre.map pI),.lst (t.post.map pI)])]++([.lst (s.signals.map fun s=>.agg [.str s.name,pI s.kind])]++([.lst (s.labels.map fun p=>.agg [pI p.sig,pB p.up])]++[.str s.start]))):=
 Zjt (v:=fun x:STG=>(x.net,(x.signals,(x.labels,x.start)))) (ZeC encNetX (ZeC (Zju encSigX) (ZeC (Zju encLabX) ZrY)))
theorem eStg_to (s:STG):PV.agg ([pI s.net.places,.lst (s.net.trans.map fun t=>.agg [.lst (t.pre.map pI),.lst (t.post.map pI)])]++([.lst (s.signals.map fun s=>.agg [.str s.name,pI s.kind])]++([.lst (s.labels.map fun p=>.agg [pI p.sig,pB p.up])]++[.str s.start])))=ZV s:=by
 simp only[ZV,List.map_map,List.cons_append,List.nil_append]
 rfl
theorem bdTrX :BdOk ZrX TrFit:=BdOk.mono (Zp1 (v:=fun x:Tr=>(x.pre,x.post)) (ZhZ (bdSl (S:=Ze8) Zjv) (bdSl (S:=Ze8) Zjv))) (fun a h=>⟨h.1.1,h.2.1⟩)
theorem bdNetX :BdOk Zuc NtFit:=BdOk.mono (Zp1 (v:=fun x:Net=>(x.places,x.trans)) (ZhZ (S:=Ze8) Zjv (bdSl bdTrX))) (fun a h=>⟨h.2.1,h.2.2⟩)
theorem bdSigX :BdOk Zrj (fun s=>s.name.length≤9223372036854775807):=BdOk.mono (Zp1 (v:=fun x:Sig=>(x.name,x.kind)) (ZhZ bdStr Zjv)) (fun a h=>h.1)
theorem bdStgX :BdOk Zt6 StgFit:=
 BdOk.mono (Zp1 (v:=fun x:STG=>(x.net,(x.signals,(x.labels,x.start)))) (ZhZ bdNetX (ZhZ (bdSl bdSigX) (ZhZ (bdSl (S:=ZrG) Zjv) bdStr)))) (fun a h=>⟨h.1,by simpa[ZaV] using h.2.1.1,fun s hs=>by
  simp only[List.mem_map] at hs
  obtain ⟨x,hx,rfl⟩:=hs
  exact h.2.1.2 x hx,h.2.2.1.1,h.2.2.2⟩)
theorem vrAgg2 {w:World} {F:Nat→Prop} {a b:PV} {v:Value} (h:VR w F (.agg [a,b]) v):∃x y,v=.agg #[x,y]∧VR w F a x∧VR w F b y:=by
 cases h with
 | agg l cs k1 k2 k3=>
  have hs:cs.size=2:=k1.symm
  refine ⟨cs.getD 0 Go.undef,cs.getD 1 Go.undef, ?_,k3 0 _ rfl,k3 1 _ rfl⟩
  congr 1
  apply Array.ext
  ·simp[hs]
  ·intro i h1 h2
   match i with
   |0=>simp[hs]
   |1=>simp[hs]
   |i+2=>simp at h2;omega
theorem vrAgg3 {w:World} {F:Nat→Prop} {a b c:PV} {v:Value} (h:VR w F (.agg [a,b,c]) v):∃x y z,v=.agg #[x,y,z]∧VR w F a x∧VR w F b y∧VR w F c z:=by
 cases h with
 | agg l cs k1 k2 k3=>
  have hs:cs.size=3:=k1.symm
  refine ⟨cs.getD 0 Go.undef,cs.getD 1 Go.undef,cs.getD 2 Go.undef, ?_,k3 0 _ rfl,k3 1 _ rfl,k3 2 _ rfl⟩
  congr 1
  apply Array.ext
  ·simp[hs]
  ·intro i h1 h2
   match i with
   |0=>simp[hs]
   |1=>simp[hs]
   |2=>simp[hs]
   |i+3=>simp at h2;omega
theorem vrAgg4 {w:World} {F:Nat→Prop} {a b c d:PV} {v:Value} (h:VR w F (.agg [a,b,c,d]) v):∃x y z u,v=.agg #[x,y,z,u]∧VR w F a x∧VR w F b y∧VR w F c z∧VR w F d u:=by
 cases h with
 | agg l cs k1 k2 k3=>
  have hs:cs.size=4:=k1.symm
  refine ⟨cs.getD 0 Go.undef,cs.getD 1 Go.undef,cs.getD 2 Go.undef,cs.getD 3 Go.undef, ?_,k3 0 _ rfl,k3 1 _ rfl,k3 2 _ rfl,k3 3 _ rfl⟩
  congr 1
  apply Array.ext
  ·simp[hs]
  ·intro i h1 h2
   match i with
   |0=>simp[hs]
   |1=>simp[hs]
   |2=>simp[hs]
   |3=>simp[hs]
   |i+4=>simp at h2;omega
theorem cellsSgn {x:Sig} (h1:x.name.length≤9223372036854775807) (h2:InI x.kind):Ztz Zrj ZcV x:=fun w w' F u hu=>by
 obtain ⟨a,b,rfl,a1,a2⟩:=vrAgg2 hu
 cases a1;cases a2
 exact ⟨[_],[_],rfl,⟨rfl,h1⟩,rfl,h2⟩
theorem readsSgn {x:Sig} (h1:x.name.length≤9223372036854775807) (h2:InI x.kind):ZtG Zrj ZcV x:=fun w D u hu=>by
 obtain ⟨a,b,rfl,a1,a2⟩:=vrAgg2 hu
 cases a1;cases a2
 exact ⟨[_],[_],rfl,⟨rfl,h1⟩,rfl,h2⟩
theorem cellsAc {x:Ac} (h1:InI x.from_) (h2:InI x.sig) (h3:InI x.to_):Ztz Zts eAc x:=fun w w' F u hu=>by
 obtain ⟨a,b,c,d,rfl,a1,a2,a3,a4⟩:=vrAgg4 hu
 cases a1;cases a2;cases a3;cases a4
 exact ⟨[_],[_,_,_],rfl,⟨rfl,h1⟩,[_],[_,_],rfl,⟨rfl,h2⟩,[_],[_],rfl,rfl,rfl,h3⟩
theorem readsAc {x:Ac} (h1:InI x.from_) (h2:InI x.sig) (h3:InI x.to_):ZtG Zts eAc x:=fun w D u hu=>by
 obtain ⟨a,b,c,d,rfl,a1,a2,a3,a4⟩:=vrAgg4 hu
 cases a1;cases a2;cases a3;cases a4
 exact ⟨[_],[_,_,_],rfl,⟨rfl,h1⟩,[_],[_,_],rfl,⟨rfl,h2⟩,[_],[_],rfl,rfl,rfl,h3⟩
theorem sgn_len {s:STG} (hf:StgFit s) {x:Sig} (hx:x∈s.signals):x.name.length≤9223372036854775807:=hf.each (sgP x) (List.mem_map.2 ⟨x,hx,rfl⟩)
theorem seenRows3Bool {P:Program} {α β γ:Type} {S:Sh α} {f:α→PV} {S2:Sh β} {f2:β→PV} {S3:Sh γ} {f3:γ→PV} {e:Ent} (he:FnOk P e) (hrk:e.rk=.grp true [.val,.val]) {w:World} {xs:List PV} {vs:List Value} {l:List α} {l2:List β} {l3:List γ} {b:Bool} (hps:e.ps=List.replicate xs.length (.ck .val)) (hx:VRs w (fun b=>b<w.heap.size) xs vs)
 (hs:e.spec xs=some (.tup [.agg [.lst (l.map f),.lst (l2.map f2),.lst (l3.map f3)],pB b])) (H:∀x∈l,ZtG S f x) (H2:∀x∈l2,ZtG S2 f2 x) (H3:∀x∈l3,ZtG S3 f3 x):
 Calls P e.f vs.toArray w fun en w'=>∃A c A2 c2 A3 c3,en=.returned (.tuple #[.agg #[.slice A l.length c,.slice A2 l2.length c2,.slice A3 l3.length c3],.bool b])∧Seen S w' w'.heap.size A c l∧Seen S2 w' w'.heap.size A2 c2 l2∧Seen S3 w' w'.heap.size A3 c3 l3∧Below w.heap.size w w':=by
 refine (he.call w (fun b=>b<w.heap.size) xs vs _ (fun _ h=>h) (by rw[hps];exact Zp2 hx) hs).mono ?_
 rintro en w' ⟨v,F',l',rfl,ha,_,hsr,hfresh,_⟩
 rw[hrk] at hsr
 obtain ⟨cs,ys,fps,hv,hy,hg,hfp⟩:=hsr
 simp only[if_true,PV.tup.injEq] at hv hy
 subst hy
 obtain ⟨cl⟩:=cs
 subst hv
 dsimp only at hg
 cases hg with
 | cons h1 _ t=>
  cases t with
  | cons h2 _ t=>
   cases t
   obtain ⟨h1,_⟩:=h1
   obtain ⟨h2,_⟩:=h2
   cases h2
   obtain ⟨y,z,u,rfl,k1,k2,k3⟩:=vrAgg3 h1
   obtain ⟨A,c,rfl,hr,hlc,hcm⟩:=ZtX H rfl k1
   obtain ⟨A2,c2,rfl,hr2,hlc2,hcm2⟩:=ZtX H2 rfl k2
   obtain ⟨A3,c3,rfl,hr3,hlc3,hcm3⟩:=ZtX H3 rfl k3
   exact ⟨A,c,A2,c2,A3,c3,rfl,⟨hr.mono fun b hb=>ha.lt b hb,Nat.le_refl _,hlc,by simpa[maxLen] using hcm⟩,⟨hr2.mono fun b hb=>ha.lt b hb,Nat.le_refl _,hlc2,by simpa[maxLen] using hcm2⟩,⟨hr3.mono fun b hb=>ha.lt b hb,Nat.le_refl _,hlc3,by simpa[maxLen] using hcm3⟩,ha.below⟩
theorem impl_BuildStateGraph (s:STG) (A_s_net_trans:Option Addr) (c_s_net_trans:Nat) (A_s_signals:Option Addr) (c_s_signals:Nat) (A_s_labels:Option Addr) (c_s_labels:Nat) (w:World) (fs0:InI s.net.places) (fs1:(s.net.trans).length≤c_s_net_trans) (fs2:c_s_net_trans≤9223372036854775807) (fs3:RA ZrX w A_s_net_trans s.net.trans) (fs4:(s.signals).length≤c_s_signals) (fs5:c_s_signals≤9223372036854775807) (fs6:RA Zrj w A_s_signals s.signals) (fs7:(s.labels).length≤c_s_labels) (fs8:c_s_labels≤9223372036854775807) (fs9:RA ZrG w A_s_labels s.labels) (fs10:(s.start).length≤9223372036854775807):
 Calls Try.prog 11 #[.agg #[.int .i64 s.net.places,.slice A_s_net_trans (s.net.trans).length c_s_net_trans,.slice A_s_signals (s.signals).length c_s_signals,.slice A_s_labels (s.labels).length c_s_labels,.string ⟨(s.start).toArray⟩]] w fun e w'=>∃A' c' A2' c2' A3' c3',e=.returned (.tuple #[.agg #[.slice A' ((bgP s).1.signals).length c',.slice A2' ((bgP s).1.codes).length c2',.slice A3' ((bgP s).1.arcs).length c3'],.bool (bgP s).2])∧Own Zrj w' w.heap.size 76 A' c' (bgP s).1.signals∧Own Zjr w' w.heap.size 9 A2' c2' (bgP s).1.codes∧Own Zts w' w.heap.size 73 A3' c3' (bgP s).1.arcs∧(∀q,blk A'=some q→blk A2'=some q→False)∧(∀q,blk A'=some q→blk A3'=some q→False)∧(∀q,blk A2'=some q→blk A3'=some q→False)∧Below w.heap.size w w':=by
 have hr:=Zt7 (w:=w) (D:=fun b=>b<w.heap.size) (x:=s) (by assumption) (by assumption) (by assumption) (by assumption) (by assumption) (by assumption) (by assumption) (by assumption) (by assumption) (by assumption) (by assumption)
 have hf:=bdStgX.out hr
 have hv:=encStgX.vrAgg hr
 rw[eStg_to] at hv
 have hs:ZbA.spec [ZV s]=some (.tup [.agg [.lst ((bgP s).1.signals.map ZcV),.lst ((bgP s).1.codes.map PV.str),.lst ((bgP s).1.arcs.map eAc)],pB (bgP s).2]):=(congrFun (show ZbA.spec=Zaz from rfl) _).trans (ZuD s hf)
 exact FnOk.rows3Bool (S:=Zrj) (S2:=Zjr) (S3:=Zts) ZfG rfl rfl rfl rfl rfl (.cons hv .nil) hs (fun x hx=>by have h:=(Ztt s).1.2 x hx;exact cellsSgn (sgn_len hf h.1) (by constructor<;>omega)) (fun x hx=>Zuq (by have h:=(Ztt s).2.1.2 x hx;omega)) (fun x hx=>by have h:=(Ztt s).2.2.2 x hx;exact cellsAc (by constructor<;>omega) (by constructor<;>omega) (by constructor<;>omega))
theorem spec_BuildStateGraph (s:STG) (A_s_net_trans:Option Addr) (c_s_net_trans:Nat) (A_s_signals:Option Addr) (c_s_signals:Nat) (A_s_labels:Option Addr) (c_s_labels:Nat) (w:World) (fs0:InI s.net.places) (fs1:(s.net.trans).length≤c_s_net_trans) (fs2:c_s_net_trans≤9223372036854775807) (fs3:RA ZrX w A_s_net_trans s.net.trans) (fs4:(s.signals).length≤c_s_signals) (fs5:c_s_signals≤9223372036854775807) (fs6:RA Zrj w A_s_signals s.signals) (fs7:(s.labels).length≤c_s_labels) (fs8:c_s_labels≤9223372036854775807) (fs9:RA ZrG w A_s_labels s.labels) (fs10:(s.start).length≤9223372036854775807):
 Calls Try.prog 10 #[.agg #[.int .i64 s.net.places,.slice A_s_net_trans (s.net.trans).length c_s_net_trans,.slice A_s_signals (s.signals).length c_s_signals,.slice A_s_labels (s.labels).length c_s_labels,.string ⟨(s.start).toArray⟩]] w fun e w'=>∃A' c' A2' c2' A3' c3',e=.returned (.tuple #[.agg #[.slice A' ((bgP s).1.signals).length c',.slice A2' ((bgP s).1.codes).length c2',.slice A3' ((bgP s).1.arcs).length c3'],.bool (bgP s).2])∧Seen Zrj w' w'.heap.size A' c' (bgP s).1.signals∧Seen Zjr w' w'.heap.size A2' c2' (bgP s).1.codes∧Seen Zts w' w'.heap.size A3' c3' (bgP s).1.arcs∧Below w.heap.size w w':=by
 have hr:=Zt7 (w:=w) (D:=fun b=>b<w.heap.size) (x:=s) (by assumption) (by assumption) (by assumption) (by assumption) (by assumption) (by assumption) (by assumption) (by assumption) (by assumption) (by assumption) (by assumption)
 have hf:=bdStgX.out hr
 have hv:=encStgX.vrAgg hr
 rw[eStg_to] at hv
 have hs:ZbB.spec [ZV s]=some (.tup [.agg [.lst ((bgP s).1.signals.map ZcV),.lst ((bgP s).1.codes.map PV.str),.lst ((bgP s).1.arcs.map eAc)],pB (bgP s).2]):=(congrFun (show ZbB.spec=ZaA from rfl) _).trans (ZuC s hf)
 exact seenRows3Bool (S:=Zrj) (S2:=Zjr) (S3:=Zts) ZfP rfl rfl (.cons hv .nil) hs (fun x hx=>by have h:=(Ztt s).1.2 x hx;exact readsSgn (sgn_len hf h.1) (by constructor<;>omega)) (fun x hx=>Zur (by have h:=(Ztt s).2.1.2 x hx;omega)) (fun x hx=>by have h:=(Ztt s).2.2.2 x hx;exact readsAc (by constructor<;>omega) (by constructor<;>omega) (by constructor<;>omega))
end Go.Proofs.Ythobodfbjjjiiaa.Lw
