import Derived.Test.YtjjobbamoeaogaaDoorOwnWp
import Derived.Test.YtjjobbamoeaogaaDoorLawNp
import Derived.Test.YtjjobbamoeaogaaDoorParseNetlistP
namespace Go.Proofs.YtjjobbamoeaogaaDoor.Lw
open Go.RowKit
set_option linter.unusedVariables false
set_option linter.unusedSimpArgs false
theorem gok_to {w w':World} (h:GOk w fun b=>b<w.heap.size) (hb:Below w.heap.size w w'):GOk w' fun b=>b<w'.heap.size:=h.keep ⟨fun b hb'=>Nat.lt_of_lt_of_le hb' hb.size,fun b hb'=>hb.block b hb'⟩
def ofPW (w:PWire):Wire:=⟨w.name,w.kind,w.ins.map fun p=>⟨p.1,p.2⟩,w.cover⟩
def ofPN (n:PNet):Nl:=⟨n.signals.map fun s=>⟨s.1,s.2⟩,n.wires.map ofPW⟩
theorem ofPN_e (n:PNet):PV.agg [.lst ((ofPN n).signals.map Zqn),.lst ((ofPN n).wires.map Zql)]=Za0 n:=by
 simp[ofPN,ofPW,Zqn,Zql,Zqm,Za0,Zah,Zv,ZbJ,List.map_map,Function.comp_def]
theorem ofPN_in {n:PNet} (h:NetIn n):NlIn (ofPN n):=by
 refine ⟨fun s hs=> ?_,fun x hx=> ?_⟩
 ·obtain ⟨t,ht,rfl⟩:=List.mem_map.1 hs
  have:=h.sig t ht
  exact ⟨show t.1.length≤_ by omega,show InI t.2 by constructor<;>omega⟩
 ·obtain ⟨w,hw,rfl⟩:=List.mem_map.1 hx
  obtain ⟨h1,h2,h3,h4,h5,h6⟩:=h.wire w hw
  refine ⟨show w.name.length≤_ by omega,show InI w.kind by constructor<;>omega,fun p hp=> ?_,fun s hs=> ?_⟩
  ·obtain ⟨q,hq,rfl⟩:=List.mem_map.1 hp
   have:=h4 q hq
   exact show InI q.1 by constructor<;>omega
  ·have:=h6 s hs
   omega
theorem wcosts_in :∀(l:List PWire),(∀w∈l,w.ins.length≤8∧w.cover.length≤60)→wcosts (l.map ofPW)≤100 * l.length
 |[],_=>by simp[wcosts]
 | w::r,h=>by
  have ih:=wcosts_in r fun w hw=>h w (List.mem_cons_of_mem _ hw)
  have:=h w List.mem_cons_self
  rw[List.map_cons,wcosts,List.length_cons]
  simp only[wcost,ofPW,List.length_map]
  omega
theorem ofPN_len {n:PNet} (h:NetIn n):(ofPN n).signals.length≤8∧(ofPN n).wires.length≤24∧wcosts (ofPN n).wires≤2400:=by
 have h1:=h.s8
 have h2:=h.w24
 have h3:=wcosts_in n.wires fun w hw=>⟨(h.wire w hw).2.2.1,(h.wire w hw).2.2.2.2.1⟩
 refine ⟨by simpa[ofPN] using h1,by simpa[ofPN] using h2, ?_⟩
 show wcosts (n.wires.map ofPW)≤2400
 omega
def pnA (s:List UInt8):Nl×Bool:=(ofPN (pnP s).1,(pnP s).2)
theorem pnA_bound (s:List UInt8):(pnA s).1.signals.length≤8∧(pnA s).1.wires.length≤24∧wcosts (pnA s).1.wires≤2400:=ofPN_len (Zpi _)
theorem impl_ParseNetlist (s:List UInt8) (w:World) (h:s.length≤1048576) (hg:GOk w fun b=>b<w.heap.size):
 Calls Tryd.prog 5 #[.string ⟨s.toArray⟩] w fun e w'=>∃A' c' A2' c2' hs',e=.returned (.tuple #[.agg #[.slice A' ((pnA s).1.signals).length c',.slice A2' ((pnA s).1.wires).length c2'],.bool (pnA s).2])∧Own Z1 w' w.heap.size 36 A' c' (pnA s).1.signals∧OwnW w' w.heap.size 57 9 A2' c2' (pnA s).1.wires hs'∧(∀q,blk A'=some q→wB A2' hs' q→False)∧Below w.heap.size w w':=by
 have hs:Zb2.spec [.str s]=some (.tup [.agg [.lst ((pnA s).1.signals.map Zqn),.lst ((pnA s).1.wires.map Zql)],pB (pnA s).2]):=by
  refine ((congrFun (show Zb2.spec=Zbe from rfl) _).trans (ZtF s h)).trans ?_
  unfold pnA
  rw[ofPN_e]
 exact ownNet (sz:=1000000) ZhJ rfl rfl rfl (.cons (.str s) .nil) hs (ofPN_in (Zpi _)) hg
theorem spec_ParseNetlist (s:List UInt8) (w:World) (h:s.length≤1048576) (hg:GOk w fun b=>b<w.heap.size):
 Calls Tryd.prog 4 #[.string ⟨s.toArray⟩] w fun e w'=>∃A' c' A2' c2',e=.returned (.tuple #[.agg #[.slice A' ((pnA s).1.signals).length c',.slice A2' ((pnA s).1.wires).length c2'],.bool (pnA s).2])∧Seen Z1 w' w'.heap.size A' c' (pnA s).1.signals∧Seen Zau w' w'.heap.size A2' c2' (pnA s).1.wires∧Below w.heap.size w w':=by
 have hs:Zb0.spec [.str s]=some (.tup [.agg [.lst ((pnA s).1.signals.map Zqn),.lst ((pnA s).1.wires.map Zql)],pB (pnA s).2]):=by
  refine ((congrFun (show Zb0.spec=Zba from rfl) _).trans (ZtG s h)).trans ?_
  unfold pnA
  rw[ofPN_e]
 exact seenNet ZhC rfl rfl (.cons (.str s) .nil) hs (ofPN_in (Zpi _)) hg
end Go.Proofs.YtjjobbamoeaogaaDoor.Lw
