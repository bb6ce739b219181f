import Derived.Test.YtpceleehbpnchaaGreatBase
namespace Go.Proofs.YtpceleehbpnchaaGreat
open Go.RowKit
set_option linter.unusedVariables false
structure TF where
 at_:Int
 t:Int
 deriving DecidableEq
structure Tr where
 pre:List (Int)
 post:List (Int)
 deriving DecidableEq
structure Net where
 places:Int
 trans:List Tr
 deriving DecidableEq
structure PSt where
 state:Int
 values:List UInt8
 deriving DecidableEq
structure Flip where
 from_:Int
 wire:Int
 to:Int
 deriving DecidableEq
def Zqy :Sh Flip:=Sh.via (Zat Zt (Zat Zt Zt)) (fun x=>(x.from_,(x.wire,x.to)))
theorem ZjM :Zqy.size=3:=rfl
theorem ZxN {w:World} {D:Nat→Prop} {cs:List Value} {x:Flip} (h:Zqy.rep w D cs x):cs=[.int .i64 x.from_,.int .i64 x.wire,.int .i64 x.to]∧InI x.from_∧InI x.wire∧InI x.to:=by
 obtain ⟨p1,q1,rfl,h1,k1⟩:=h
 obtain ⟨rfl,f2⟩:=h1
 obtain ⟨p3,q3,rfl,h3,k3⟩:=k1
 obtain ⟨rfl,f4⟩:=h3
 obtain ⟨rfl,f5⟩:=k3
 exact ⟨rfl,f2,f4,f5⟩
theorem ZC6 {w:World} {D:Nat→Prop} {x:Flip} (f0:InI x.from_) (f1:InI x.wire) (f2:InI x.to):Zqy.rep w D [.int .i64 x.from_,.int .i64 x.wire,.int .i64 x.to] x:=by
 exact ⟨[.int .i64 x.from_],_,rfl,⟨rfl,f0⟩,⟨[.int .i64 x.wire],_,rfl,⟨rfl,f1⟩,⟨rfl,f2⟩⟩⟩
theorem RSl.Flip_at {w:World} {D:Nat→Prop} {A:Option Addr} {l:List Flip} {k:Nat} {x:Flip} (h:RSl Zqy w D A l) (hx:l[k]?=some x):
 ∃(b off:Nat),A=some ⟨b,off,none⟩∧D b∧w.cell? ⟨b,off+k * 3,none⟩=some (.int .i64 x.from_)∧w.cell? ⟨b,off+k * 3+1,none⟩=some (.int .i64 x.wire)∧w.cell? ⟨b,off+k * 3+2,none⟩=some (.int .i64 x.to)∧InI x.from_∧InI x.wire∧InI x.to:=by
 obtain ⟨b,off,cs,e,hb,hr,hc⟩:=h.cells_at hx
 obtain ⟨rfl,g0,g1,g2⟩:=ZxN hr
 exact ⟨b,off,e,hb,by simpa[ZjM] using hc 0 _ rfl,by simpa[ZjM] using hc 1 _ rfl,by simpa[ZjM] using hc 2 _ rfl,g0,g1,g2⟩
theorem RA.Flip_at {w wr:World} {A:Option Addr} {l:List Flip} {k:Nat} {x:Flip} (h:RA Zqy w A l) (hb:Below w.heap.size w wr) (hx:l[k]?=some x):
 ∃(b off:Nat),A=some ⟨b,off,none⟩∧b<wr.heap.size∧wr.cell? ⟨b,off+k * 3,none⟩=some (.int .i64 x.from_)∧wr.cell? ⟨b,off+k * 3+1,none⟩=some (.int .i64 x.wire)∧wr.cell? ⟨b,off+k * 3+2,none⟩=some (.int .i64 x.to)∧InI x.from_∧InI x.wire∧InI x.to:=RSl.Flip_at (h.to hb) hx
structure ProdG where
 states:List PSt
 flips:List Flip
 extra:List Flip
 deriving DecidableEq
structure Sig where
 name:List UInt8
 kind:Int
 deriving DecidableEq
def ZjN :Sh Sig:=Sh.via (Zat ZdO Zt) (fun x=>(x.name,x.kind))
theorem Zqz :ZjN.size=2:=rfl
theorem ZzQ {w:World} {D:Nat→Prop} {cs:List Value} {x:Sig} (h:ZjN.rep w D cs x):cs=[.string ⟨(x.name).toArray⟩,.int .i64 x.kind]∧(x.name).length≤9223372036854775807∧InI x.kind:=by
 obtain ⟨p1,q1,rfl,h1,k1⟩:=h
 obtain ⟨rfl,f2⟩:=h1
 obtain ⟨rfl,f3⟩:=k1
 exact ⟨rfl,f2,f3⟩
theorem ZDe {w:World} {D:Nat→Prop} {x:Sig} (f0:(x.name).length≤9223372036854775807) (f1:InI x.kind):ZjN.rep w D [.string ⟨(x.name).toArray⟩,.int .i64 x.kind] x:=by
 exact ⟨[.string ⟨(x.name).toArray⟩],_,rfl,⟨rfl,f0⟩,⟨rfl,f1⟩⟩
theorem RSl.Sig_at {w:World} {D:Nat→Prop} {A:Option Addr} {l:List Sig} {k:Nat} {x:Sig} (h:RSl ZjN w D A l) (hx:l[k]?=some x):
 ∃(b off:Nat),A=some ⟨b,off,none⟩∧D b∧w.cell? ⟨b,off+k * 2,none⟩=some (.string ⟨(x.name).toArray⟩)∧w.cell? ⟨b,off+k * 2+1,none⟩=some (.int .i64 x.kind)∧(x.name).length≤9223372036854775807∧InI x.kind:=by
 obtain ⟨b,off,cs,e,hb,hr,hc⟩:=h.cells_at hx
 obtain ⟨rfl,g0,g1⟩:=ZzQ hr
 exact ⟨b,off,e,hb,by simpa[Zqz] using hc 0 _ rfl,by simpa[Zqz] using hc 1 _ rfl,g0,g1⟩
theorem RA.Sig_at {w wr:World} {A:Option Addr} {l:List Sig} {k:Nat} {x:Sig} (h:RA ZjN w A l) (hb:Below w.heap.size w wr) (hx:l[k]?=some x):
 ∃(b off:Nat),A=some ⟨b,off,none⟩∧b<wr.heap.size∧wr.cell? ⟨b,off+k * 2,none⟩=some (.string ⟨(x.name).toArray⟩)∧wr.cell? ⟨b,off+k * 2+1,none⟩=some (.int .i64 x.kind)∧(x.name).length≤9223372036854775807∧InI x.kind:=RSl.Sig_at (h.to hb) hx
structure Lab where
 sig:Int
 up:Bool
 deriving DecidableEq
structure STG where
 net:Net
 signals:List Sig
 labels:List Lab
 start:List UInt8
 deriving DecidableEq
structure Dl where
 low:Int
 high:Int
 deriving DecidableEq
structure Mv where
 from_:Int
 by_:Int
 to:Int
 deriving DecidableEq
structure Pin where
 at_:Int
 not_:Bool
 deriving DecidableEq
def ZDa :Sh Pin:=Sh.via (Zat Zt ZkL) (fun x=>(x.at_,x.not_))
theorem ZqA :ZDa.size=2:=rfl
theorem ZzR {w:World} {D:Nat→Prop} {cs:List Value} {x:Pin} (h:ZDa.rep w D cs x):cs=[.int .i64 x.at_,.bool x.not_]∧InI x.at_:=by
 obtain ⟨p1,q1,rfl,h1,k1⟩:=h
 obtain ⟨rfl,f2⟩:=h1
 obtain rfl:=k1
 exact ⟨rfl,f2⟩
theorem ZDf {w:World} {D:Nat→Prop} {x:Pin} (f0:InI x.at_):ZDa.rep w D [.int .i64 x.at_,.bool x.not_] x:=by
 exact ⟨[.int .i64 x.at_],_,rfl,⟨rfl,f0⟩,rfl⟩
theorem RSl.Pin_at {w:World} {D:Nat→Prop} {A:Option Addr} {l:List Pin} {k:Nat} {x:Pin} (h:RSl ZDa w D A l) (hx:l[k]?=some x):
 ∃(b off:Nat),A=some ⟨b,off,none⟩∧D b∧w.cell? ⟨b,off+k * 2,none⟩=some (.int .i64 x.at_)∧w.cell? ⟨b,off+k * 2+1,none⟩=some (.bool x.not_)∧InI x.at_:=by
 obtain ⟨b,off,cs,e,hb,hr,hc⟩:=h.cells_at hx
 obtain ⟨rfl,g0⟩:=ZzR hr
 exact ⟨b,off,e,hb,by simpa[ZqA] using hc 0 _ rfl,by simpa[ZqA] using hc 1 _ rfl,g0⟩
theorem RA.Pin_at {w wr:World} {A:Option Addr} {l:List Pin} {k:Nat} {x:Pin} (h:RA ZDa w A l) (hb:Below w.heap.size w wr) (hx:l[k]?=some x):
 ∃(b off:Nat),A=some ⟨b,off,none⟩∧b<wr.heap.size∧wr.cell? ⟨b,off+k * 2,none⟩=some (.int .i64 x.at_)∧wr.cell? ⟨b,off+k * 2+1,none⟩=some (.bool x.not_)∧InI x.at_:=RSl.Pin_at (h.to hb) hx
structure Wire where
 name:List UInt8
 kind:Int
 ins:List Pin
 cover:List (List UInt8)
 deriving DecidableEq
def ZzP :Sh Wire:=Sh.via (Zat ZdO (Zat Zt (Zat (Zix ZDa) (Zix ZdO)))) (fun x=>(x.name,(x.kind,(x.ins,x.cover))))
theorem ZgA :ZzP.size=4:=rfl
theorem ZxO {w:World} {D:Nat→Prop} {cs:List Value} {x:Wire} (h:ZzP.rep w D cs x):∃(A_ins:Option Addr) (c_ins:Nat) (A_cover:Option Addr) (c_cover:Nat),cs=[.string ⟨(x.name).toArray⟩,.int .i64 x.kind,.slice A_ins (x.ins).length c_ins,.slice A_cover (x.cover).length c_cover]∧(x.name).length≤9223372036854775807∧InI x.kind∧(x.ins).length≤c_ins∧c_ins≤9223372036854775807∧RSl ZDa w D A_ins x.ins∧(x.cover).length≤c_cover∧c_cover≤9223372036854775807∧RSl ZdO w D A_cover x.cover:=by
 obtain ⟨p1,q1,rfl,h1,k1⟩:=h
 obtain ⟨rfl,f2⟩:=h1
 obtain ⟨p3,q3,rfl,h3,k3⟩:=k1
 obtain ⟨rfl,f4⟩:=h3
 obtain ⟨p5,q5,rfl,h5,k5⟩:=k3
 obtain ⟨A6,c6,rfl,f6,g6,r6⟩:=h5
 obtain ⟨A7,c7,rfl,f7,g7,r7⟩:=k5
 exact ⟨A6,c6,A7,c7,rfl,f2,f4,f6,g6,r6,f7,g7,r7⟩
theorem ZC7 {w:World} {D:Nat→Prop} {x:Wire} {A_ins:Option Addr} {c_ins:Nat} {A_cover:Option Addr} {c_cover:Nat} (f0:(x.name).length≤9223372036854775807) (f1:InI x.kind) (f2:(x.ins).length≤c_ins) (f3:c_ins≤9223372036854775807) (f4:RSl ZDa w D A_ins x.ins) (f5:(x.cover).length≤c_cover) (f6:c_cover≤9223372036854775807) (f7:RSl ZdO w D A_cover x.cover):ZzP.rep w D [.string ⟨(x.name).toArray⟩,.int .i64 x.kind,.slice A_ins (x.ins).length c_ins,.slice A_cover (x.cover).length c_cover] x:=by
 exact ⟨[.string ⟨(x.name).toArray⟩],_,rfl,⟨rfl,f0⟩,⟨[.int .i64 x.kind],_,rfl,⟨rfl,f1⟩,⟨[.slice A_ins (x.ins).length c_ins],_,rfl,⟨_,_,rfl,f2,f3,f4⟩,⟨_,_,rfl,f5,f6,f7⟩⟩⟩⟩
theorem RSl.Wire_at {w:World} {D:Nat→Prop} {A:Option Addr} {l:List Wire} {k:Nat} {x:Wire} (h:RSl ZzP w D A l) (hx:l[k]?=some x):
 ∃(b off:Nat) (A_ins:Option Addr) (c_ins:Nat) (A_cover:Option Addr) (c_cover:Nat),A=some ⟨b,off,none⟩∧D b∧w.cell? ⟨b,off+k * 4,none⟩=some (.string ⟨(x.name).toArray⟩)∧w.cell? ⟨b,off+k * 4+1,none⟩=some (.int .i64 x.kind)∧w.cell? ⟨b,off+k * 4+2,none⟩=some (.slice A_ins (x.ins).length c_ins)∧w.cell? ⟨b,off+k * 4+3,none⟩=some (.slice A_cover (x.cover).length c_cover)∧(x.name).length≤9223372036854775807∧InI x.kind∧(x.ins).length≤c_ins∧c_ins≤9223372036854775807∧RSl ZDa w D A_ins x.ins∧(x.cover).length≤c_cover∧c_cover≤9223372036854775807∧RSl ZdO w D A_cover x.cover:=by
 obtain ⟨b,off,cs,e,hb,hr,hc⟩:=h.cells_at hx
 obtain ⟨A_ins,c_ins,A_cover,c_cover,rfl,g0,g1,g2,g3,g4,g5,g6,g7⟩:=ZxO hr
 exact ⟨b,off,A_ins,c_ins,A_cover,c_cover,e,hb,by simpa[ZgA] using hc 0 _ rfl,by simpa[ZgA] using hc 1 _ rfl,by simpa[ZgA] using hc 2 _ rfl,by simpa[ZgA] using hc 3 _ rfl,g0,g1,g2,g3,g4,g5,g6,g7⟩
theorem RA.Wire_at {w wr:World} {A:Option Addr} {l:List Wire} {k:Nat} {x:Wire} (h:RA ZzP w A l) (hb:Below w.heap.size w wr) (hx:l[k]?=some x):
 ∃(b off:Nat) (A_ins:Option Addr) (c_ins:Nat) (A_cover:Option Addr) (c_cover:Nat),A=some ⟨b,off,none⟩∧b<wr.heap.size∧wr.cell? ⟨b,off+k * 4,none⟩=some (.string ⟨(x.name).toArray⟩)∧wr.cell? ⟨b,off+k * 4+1,none⟩=some (.int .i64 x.kind)∧wr.cell? ⟨b,off+k * 4+2,none⟩=some (.slice A_ins (x.ins).length c_ins)∧wr.cell? ⟨b,off+k * 4+3,none⟩=some (.slice A_cover (x.cover).length c_cover)∧(x.name).length≤9223372036854775807∧InI x.kind∧(x.ins).length≤c_ins∧c_ins≤9223372036854775807∧RA ZDa wr A_ins x.ins∧(x.cover).length≤c_cover∧c_cover≤9223372036854775807∧RA ZdO wr A_cover x.cover:=RSl.Wire_at (h.to hb) hx
structure Nl where
 signals:List Sig
 wires:List Wire
 deriving DecidableEq
def shNl :Sh Nl:=Sh.via (Zat (Zix ZjN) (Zix ZzP)) (fun x=>(x.signals,x.wires))
theorem ZDh {w:World} {D:Nat→Prop} {cs:List Value} {x:Nl} (h:shNl.rep w D cs x):∃(A_signals:Option Addr) (c_signals:Nat) (A_wires:Option Addr) (c_wires:Nat),cs=[.slice A_signals (x.signals).length c_signals,.slice A_wires (x.wires).length c_wires]∧(x.signals).length≤c_signals∧c_signals≤9223372036854775807∧RSl ZjN w D A_signals x.signals∧(x.wires).length≤c_wires∧c_wires≤9223372036854775807∧RSl ZzP w D A_wires x.wires:=by
 obtain ⟨p1,q1,rfl,h1,k1⟩:=h
 obtain ⟨A2,c2,rfl,f2,g2,r2⟩:=h1
 obtain ⟨A3,c3,rfl,f3,g3,r3⟩:=k1
 exact ⟨A2,c2,A3,c3,rfl,f2,g2,r2,f3,g3,r3⟩
theorem ZCJ {w:World} {D:Nat→Prop} {x:Nl} {A_signals:Option Addr} {c_signals:Nat} {A_wires:Option Addr} {c_wires:Nat} (f0:(x.signals).length≤c_signals) (f1:c_signals≤9223372036854775807) (f2:RSl ZjN w D A_signals x.signals) (f3:(x.wires).length≤c_wires) (f4:c_wires≤9223372036854775807) (f5:RSl ZzP w D A_wires x.wires):shNl.rep w D [.slice A_signals (x.signals).length c_signals,.slice A_wires (x.wires).length c_wires] x:=by
 exact ⟨[.slice A_signals (x.signals).length c_signals],_,rfl,⟨_,_,rfl,f0,f1,f2⟩,⟨_,_,rfl,f3,f4,f5⟩⟩
structure Ac where
 from_:Int
 sig:Int
 up:Bool
 to_:Int
 deriving DecidableEq
def Zv6 :Sh Ac:=Sh.via (Zat Zt (Zat Zt (Zat ZkL Zt))) (fun x=>(x.from_,(x.sig,(x.up,x.to_))))
theorem Zkd :Zv6.size=4:=rfl
theorem ZBx {w:World} {D:Nat→Prop} {cs:List Value} {x:Ac} (h:Zv6.rep w D cs x):cs=[.int .i64 x.from_,.int .i64 x.sig,.bool x.up,.int .i64 x.to_]∧InI x.from_∧InI x.sig∧InI x.to_:=by
 obtain ⟨p1,q1,rfl,h1,k1⟩:=h
 obtain ⟨rfl,f2⟩:=h1
 obtain ⟨p3,q3,rfl,h3,k3⟩:=k1
 obtain ⟨rfl,f4⟩:=h3
 obtain ⟨p5,q5,rfl,h5,k5⟩:=k3
 obtain rfl:=h5
 obtain ⟨rfl,f7⟩:=k5
 exact ⟨rfl,f2,f4,f7⟩
theorem ZDt {w:World} {D:Nat→Prop} {x:Ac} (f0:InI x.from_) (f1:InI x.sig) (f2:InI x.to_):Zv6.rep w D [.int .i64 x.from_,.int .i64 x.sig,.bool x.up,.int .i64 x.to_] x:=by
 exact ⟨[.int .i64 x.from_],_,rfl,⟨rfl,f0⟩,⟨[.int .i64 x.sig],_,rfl,⟨rfl,f1⟩,⟨[.bool x.up],_,rfl,rfl,⟨rfl,f2⟩⟩⟩⟩
theorem RSl.Ac_at {w:World} {D:Nat→Prop} {A:Option Addr} {l:List Ac} {k:Nat} {x:Ac} (h:RSl Zv6 w D A l) (hx:l[k]?=some x):
 ∃(b off:Nat),A=some ⟨b,off,none⟩∧D b∧w.cell? ⟨b,off+k * 4,none⟩=some (.int .i64 x.from_)∧w.cell? ⟨b,off+k * 4+1,none⟩=some (.int .i64 x.sig)∧w.cell? ⟨b,off+k * 4+2,none⟩=some (.bool x.up)∧w.cell? ⟨b,off+k * 4+3,none⟩=some (.int .i64 x.to_)∧InI x.from_∧InI x.sig∧InI x.to_:=by
 obtain ⟨b,off,cs,e,hb,hr,hc⟩:=h.cells_at hx
 obtain ⟨rfl,g0,g1,g2⟩:=ZBx hr
 exact ⟨b,off,e,hb,by simpa[Zkd] using hc 0 _ rfl,by simpa[Zkd] using hc 1 _ rfl,by simpa[Zkd] using hc 2 _ rfl,by simpa[Zkd] using hc 3 _ rfl,g0,g1,g2⟩
theorem RA.Ac_at {w wr:World} {A:Option Addr} {l:List Ac} {k:Nat} {x:Ac} (h:RA Zv6 w A l) (hb:Below w.heap.size w wr) (hx:l[k]?=some x):
 ∃(b off:Nat),A=some ⟨b,off,none⟩∧b<wr.heap.size∧wr.cell? ⟨b,off+k * 4,none⟩=some (.int .i64 x.from_)∧wr.cell? ⟨b,off+k * 4+1,none⟩=some (.int .i64 x.sig)∧wr.cell? ⟨b,off+k * 4+2,none⟩=some (.bool x.up)∧wr.cell? ⟨b,off+k * 4+3,none⟩=some (.int .i64 x.to_)∧InI x.from_∧InI x.sig∧InI x.to_:=RSl.Ac_at (h.to hb) hx
structure SGr where
 signals:List Sig
 codes:List (List UInt8)
 arcs:List Ac
 deriving DecidableEq
def ZCV :Sh SGr:=Sh.via (Zat (Zix ZjN) (Zat (Zix ZdO) (Zix Zv6))) (fun x=>(x.signals,(x.codes,x.arcs)))
theorem ZC8 {w:World} {D:Nat→Prop} {cs:List Value} {x:SGr} (h:ZCV.rep w D cs x):∃(A_signals:Option Addr) (c_signals:Nat) (A_codes:Option Addr) (c_codes:Nat) (A_arcs:Option Addr) (c_arcs:Nat),cs=[.slice A_signals (x.signals).length c_signals,.slice A_codes (x.codes).length c_codes,.slice A_arcs (x.arcs).length c_arcs]∧(x.signals).length≤c_signals∧c_signals≤9223372036854775807∧RSl ZjN w D A_signals x.signals∧(x.codes).length≤c_codes∧c_codes≤9223372036854775807∧RSl ZdO w D A_codes x.codes∧(x.arcs).length≤c_arcs∧c_arcs≤9223372036854775807∧RSl Zv6 w D A_arcs x.arcs:=by
 obtain ⟨p1,q1,rfl,h1,k1⟩:=h
 obtain ⟨A2,c2,rfl,f2,g2,r2⟩:=h1
 obtain ⟨p3,q3,rfl,h3,k3⟩:=k1
 obtain ⟨A4,c4,rfl,f4,g4,r4⟩:=h3
 obtain ⟨A5,c5,rfl,f5,g5,r5⟩:=k3
 exact ⟨A2,c2,A4,c4,A5,c5,rfl,f2,g2,r2,f4,g4,r4,f5,g5,r5⟩
theorem ZCD {w:World} {D:Nat→Prop} {x:SGr} {A_signals:Option Addr} {c_signals:Nat} {A_codes:Option Addr} {c_codes:Nat} {A_arcs:Option Addr} {c_arcs:Nat} (f0:(x.signals).length≤c_signals) (f1:c_signals≤9223372036854775807) (f2:RSl ZjN w D A_signals x.signals) (f3:(x.codes).length≤c_codes) (f4:c_codes≤9223372036854775807) (f5:RSl ZdO w D A_codes x.codes) (f6:(x.arcs).length≤c_arcs) (f7:c_arcs≤9223372036854775807) (f8:RSl Zv6 w D A_arcs x.arcs):ZCV.rep w D [.slice A_signals (x.signals).length c_signals,.slice A_codes (x.codes).length c_codes,.slice A_arcs (x.arcs).length c_arcs] x:=by
 exact ⟨[.slice A_signals (x.signals).length c_signals],_,rfl,⟨_,_,rfl,f0,f1,f2⟩,⟨[.slice A_codes (x.codes).length c_codes],_,rfl,⟨_,_,rfl,f3,f4,f5⟩,⟨_,_,rfl,f6,f7,f8⟩⟩⟩
structure Hzd where
 at_:Int
 wire:Int
 by_:Int
 deriving DecidableEq
def Zv7 :Sh Hzd:=Sh.via (Zat Zt (Zat Zt Zt)) (fun x=>(x.at_,(x.wire,x.by_)))
theorem ZlH :Zv7.size=3:=rfl
theorem ZzS {w:World} {D:Nat→Prop} {cs:List Value} {x:Hzd} (h:Zv7.rep w D cs x):cs=[.int .i64 x.at_,.int .i64 x.wire,.int .i64 x.by_]∧InI x.at_∧InI x.wire∧InI x.by_:=by
 obtain ⟨p1,q1,rfl,h1,k1⟩:=h
 obtain ⟨rfl,f2⟩:=h1
 obtain ⟨p3,q3,rfl,h3,k3⟩:=k1
 obtain ⟨rfl,f4⟩:=h3
 obtain ⟨rfl,f5⟩:=k3
 exact ⟨rfl,f2,f4,f5⟩
theorem ZDi {w:World} {D:Nat→Prop} {x:Hzd} (f0:InI x.at_) (f1:InI x.wire) (f2:InI x.by_):Zv7.rep w D [.int .i64 x.at_,.int .i64 x.wire,.int .i64 x.by_] x:=by
 exact ⟨[.int .i64 x.at_],_,rfl,⟨rfl,f0⟩,⟨[.int .i64 x.wire],_,rfl,⟨rfl,f1⟩,⟨rfl,f2⟩⟩⟩
theorem RSl.Hzd_at {w:World} {D:Nat→Prop} {A:Option Addr} {l:List Hzd} {k:Nat} {x:Hzd} (h:RSl Zv7 w D A l) (hx:l[k]?=some x):
 ∃(b off:Nat),A=some ⟨b,off,none⟩∧D b∧w.cell? ⟨b,off+k * 3,none⟩=some (.int .i64 x.at_)∧w.cell? ⟨b,off+k * 3+1,none⟩=some (.int .i64 x.wire)∧w.cell? ⟨b,off+k * 3+2,none⟩=some (.int .i64 x.by_)∧InI x.at_∧InI x.wire∧InI x.by_:=by
 obtain ⟨b,off,cs,e,hb,hr,hc⟩:=h.cells_at hx
 obtain ⟨rfl,g0,g1,g2⟩:=ZzS hr
 exact ⟨b,off,e,hb,by simpa[ZlH] using hc 0 _ rfl,by simpa[ZlH] using hc 1 _ rfl,by simpa[ZlH] using hc 2 _ rfl,g0,g1,g2⟩
theorem RA.Hzd_at {w wr:World} {A:Option Addr} {l:List Hzd} {k:Nat} {x:Hzd} (h:RA Zv7 w A l) (hb:Below w.heap.size w wr) (hx:l[k]?=some x):
 ∃(b off:Nat),A=some ⟨b,off,none⟩∧b<wr.heap.size∧wr.cell? ⟨b,off+k * 3,none⟩=some (.int .i64 x.at_)∧wr.cell? ⟨b,off+k * 3+1,none⟩=some (.int .i64 x.wire)∧wr.cell? ⟨b,off+k * 3+2,none⟩=some (.int .i64 x.by_)∧InI x.at_∧InI x.wire∧InI x.by_:=RSl.Hzd_at (h.to hb) hx
end Go.Proofs.YtpceleehbpnchaaGreat
