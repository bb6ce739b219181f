import Derived.Test.YtkgnjijonikchaaGreatBase
namespace Go.Proofs.YtkgnjijonikchaaGreat
open Go.RowKit
set_option linter.unusedVariables false
structure TF where
 at_:Int
 t:Int
 deriving DecidableEq
structure Tr where
 pre:List (Int)
 post:List (Int)
 deriving DecidableEq
structure Net where
 places:Int
 trans:List Tr
 deriving DecidableEq
structure PSt where
 state:Int
 values:List UInt8
 deriving DecidableEq
def ZbF :Sh PSt:=Sh.via (ZaI Zx Zag) (fun x=>(x.state,x.values))
theorem ZeC :ZbF.size=2:=rfl
theorem ZuB {w:World} {D:Nat→Prop} {cs:List Value} {x:PSt} (h:ZbF.rep w D cs x):cs=[.int .i64 x.state,.string ⟨(x.values).toArray⟩]∧InI x.state∧(x.values).length≤9223372036854775807:=by
 obtain ⟨p1,q1,rfl,h1,k1⟩:=h
 obtain ⟨rfl,f2⟩:=h1
 obtain ⟨rfl,f3⟩:=k1
 exact ⟨rfl,f2,f3⟩
theorem Zv4 {w:World} {D:Nat→Prop} {x:PSt} (f0:InI x.state) (f1:(x.values).length≤9223372036854775807):ZbF.rep w D [.int .i64 x.state,.string ⟨(x.values).toArray⟩] x:=by
 exact ⟨[.int .i64 x.state],_,rfl,⟨rfl,f0⟩,⟨rfl,f1⟩⟩
theorem RSl.PSt_at {w:World} {D:Nat→Prop} {A:Option Addr} {l:List PSt} {k:Nat} {x:PSt} (h:RSl ZbF w D A l) (hx:l[k]?=some x):
 ∃(b off:Nat),A=some ⟨b,off,none⟩∧D b∧w.cell? ⟨b,off+k * 2,none⟩=some (.int .i64 x.state)∧w.cell? ⟨b,off+k * 2+1,none⟩=some (.string ⟨(x.values).toArray⟩)∧InI x.state∧(x.values).length≤9223372036854775807:=by
 obtain ⟨b,off,cs,e,hb,hr,hc⟩:=h.cells_at hx
 obtain ⟨rfl,g0,g1⟩:=ZuB hr
 exact ⟨b,off,e,hb,by simpa[ZeC] using hc 0 _ rfl,by simpa[ZeC] using hc 1 _ rfl,g0,g1⟩
theorem RA.PSt_at {w wr:World} {A:Option Addr} {l:List PSt} {k:Nat} {x:PSt} (h:RA ZbF w A l) (hb:Below w.heap.size w wr) (hx:l[k]?=some x):
 ∃(b off:Nat),A=some ⟨b,off,none⟩∧b<wr.heap.size∧wr.cell? ⟨b,off+k * 2,none⟩=some (.int .i64 x.state)∧wr.cell? ⟨b,off+k * 2+1,none⟩=some (.string ⟨(x.values).toArray⟩)∧InI x.state∧(x.values).length≤9223372036854775807:=RSl.PSt_at (h.to hb) hx
structure Flip where
 from_:Int
 wire:Int
 to:Int
 deriving DecidableEq
def ZZ :Sh Flip:=Sh.via (ZaI Zx (ZaI Zx Zx)) (fun x=>(x.from_,(x.wire,x.to)))
theorem ZdY :ZZ.size=3:=rfl
theorem Zsf {w:World} {D:Nat→Prop} {cs:List Value} {x:Flip} (h:ZZ.rep w D cs x):cs=[.int .i64 x.from_,.int .i64 x.wire,.int .i64 x.to]∧InI x.from_∧InI x.wire∧InI x.to:=by
 obtain ⟨p1,q1,rfl,h1,k1⟩:=h
 obtain ⟨rfl,f2⟩:=h1
 obtain ⟨p3,q3,rfl,h3,k3⟩:=k1
 obtain ⟨rfl,f4⟩:=h3
 obtain ⟨rfl,f5⟩:=k3
 exact ⟨rfl,f2,f4,f5⟩
theorem ZuC {w:World} {D:Nat→Prop} {x:Flip} (f0:InI x.from_) (f1:InI x.wire) (f2:InI x.to):ZZ.rep w D [.int .i64 x.from_,.int .i64 x.wire,.int .i64 x.to] x:=by
 exact ⟨[.int .i64 x.from_],_,rfl,⟨rfl,f0⟩,⟨[.int .i64 x.wire],_,rfl,⟨rfl,f1⟩,⟨rfl,f2⟩⟩⟩
theorem RSl.Flip_at {w:World} {D:Nat→Prop} {A:Option Addr} {l:List Flip} {k:Nat} {x:Flip} (h:RSl ZZ w D A l) (hx:l[k]?=some x):
 ∃(b off:Nat),A=some ⟨b,off,none⟩∧D b∧w.cell? ⟨b,off+k * 3,none⟩=some (.int .i64 x.from_)∧w.cell? ⟨b,off+k * 3+1,none⟩=some (.int .i64 x.wire)∧w.cell? ⟨b,off+k * 3+2,none⟩=some (.int .i64 x.to)∧InI x.from_∧InI x.wire∧InI x.to:=by
 obtain ⟨b,off,cs,e,hb,hr,hc⟩:=h.cells_at hx
 obtain ⟨rfl,g0,g1,g2⟩:=Zsf hr
 exact ⟨b,off,e,hb,by simpa[ZdY] using hc 0 _ rfl,by simpa[ZdY] using hc 1 _ rfl,by simpa[ZdY] using hc 2 _ rfl,g0,g1,g2⟩
theorem RA.Flip_at {w wr:World} {A:Option Addr} {l:List Flip} {k:Nat} {x:Flip} (h:RA ZZ w A l) (hb:Below w.heap.size w wr) (hx:l[k]?=some x):
 ∃(b off:Nat),A=some ⟨b,off,none⟩∧b<wr.heap.size∧wr.cell? ⟨b,off+k * 3,none⟩=some (.int .i64 x.from_)∧wr.cell? ⟨b,off+k * 3+1,none⟩=some (.int .i64 x.wire)∧wr.cell? ⟨b,off+k * 3+2,none⟩=some (.int .i64 x.to)∧InI x.from_∧InI x.wire∧InI x.to:=RSl.Flip_at (h.to hb) hx
structure ProdG where
 states:List PSt
 flips:List Flip
 extra:List Flip
 deriving DecidableEq
structure Sig where
 name:List UInt8
 kind:Int
 deriving DecidableEq
def Zah :Sh Sig:=Sh.via (ZaI Zag Zx) (fun x=>(x.name,x.kind))
theorem Zgb :Zah.size=2:=rfl
theorem ZuD {w:World} {D:Nat→Prop} {cs:List Value} {x:Sig} (h:Zah.rep w D cs x):cs=[.string ⟨(x.name).toArray⟩,.int .i64 x.kind]∧(x.name).length≤9223372036854775807∧InI x.kind:=by
 obtain ⟨p1,q1,rfl,h1,k1⟩:=h
 obtain ⟨rfl,f2⟩:=h1
 obtain ⟨rfl,f3⟩:=k1
 exact ⟨rfl,f2,f3⟩
theorem Zv5 {w:World} {D:Nat→Prop} {x:Sig} (f0:(x.name).length≤9223372036854775807) (f1:InI x.kind):Zah.rep w D [.string ⟨(x.name).toArray⟩,.int .i64 x.kind] x:=by
 exact ⟨[.string ⟨(x.name).toArray⟩],_,rfl,⟨rfl,f0⟩,⟨rfl,f1⟩⟩
theorem RSl.Sig_at {w:World} {D:Nat→Prop} {A:Option Addr} {l:List Sig} {k:Nat} {x:Sig} (h:RSl Zah w D A l) (hx:l[k]?=some x):
 ∃(b off:Nat),A=some ⟨b,off,none⟩∧D b∧w.cell? ⟨b,off+k * 2,none⟩=some (.string ⟨(x.name).toArray⟩)∧w.cell? ⟨b,off+k * 2+1,none⟩=some (.int .i64 x.kind)∧(x.name).length≤9223372036854775807∧InI x.kind:=by
 obtain ⟨b,off,cs,e,hb,hr,hc⟩:=h.cells_at hx
 obtain ⟨rfl,g0,g1⟩:=ZuD hr
 exact ⟨b,off,e,hb,by simpa[Zgb] using hc 0 _ rfl,by simpa[Zgb] using hc 1 _ rfl,g0,g1⟩
theorem RA.Sig_at {w wr:World} {A:Option Addr} {l:List Sig} {k:Nat} {x:Sig} (h:RA Zah w A l) (hb:Below w.heap.size w wr) (hx:l[k]?=some x):
 ∃(b off:Nat),A=some ⟨b,off,none⟩∧b<wr.heap.size∧wr.cell? ⟨b,off+k * 2,none⟩=some (.string ⟨(x.name).toArray⟩)∧wr.cell? ⟨b,off+k * 2+1,none⟩=some (.int .i64 x.kind)∧(x.name).length≤9223372036854775807∧InI x.kind:=RSl.Sig_at (h.to hb) hx
structure Lab where
 sig:Int
 up:Bool
 deriving DecidableEq
structure STG where
 net:Net
 signals:List Sig
 labels:List Lab
 start:List UInt8
 deriving DecidableEq
structure Dl where
 low:Int
 high:Int
 deriving DecidableEq
structure Mv where
 from_:Int
 by_:Int
 to:Int
 deriving DecidableEq
structure RG where
 marks:List (List UInt8)
 moves:List Mv
 deriving DecidableEq
structure Pin where
 at_:Int
 not_:Bool
 deriving DecidableEq
def Zcb :Sh Pin:=Sh.via (ZaI Zx Zj5) (fun x=>(x.at_,x.not_))
theorem Zgc :Zcb.size=2:=rfl
theorem ZuE {w:World} {D:Nat→Prop} {cs:List Value} {x:Pin} (h:Zcb.rep w D cs x):cs=[.int .i64 x.at_,.bool x.not_]∧InI x.at_:=by
 obtain ⟨p1,q1,rfl,h1,k1⟩:=h
 obtain ⟨rfl,f2⟩:=h1
 obtain rfl:=k1
 exact ⟨rfl,f2⟩
theorem Zv6 {w:World} {D:Nat→Prop} {x:Pin} (f0:InI x.at_):Zcb.rep w D [.int .i64 x.at_,.bool x.not_] x:=by
 exact ⟨[.int .i64 x.at_],_,rfl,⟨rfl,f0⟩,rfl⟩
theorem RSl.Pin_at {w:World} {D:Nat→Prop} {A:Option Addr} {l:List Pin} {k:Nat} {x:Pin} (h:RSl Zcb w D A l) (hx:l[k]?=some x):
 ∃(b off:Nat),A=some ⟨b,off,none⟩∧D b∧w.cell? ⟨b,off+k * 2,none⟩=some (.int .i64 x.at_)∧w.cell? ⟨b,off+k * 2+1,none⟩=some (.bool x.not_)∧InI x.at_:=by
 obtain ⟨b,off,cs,e,hb,hr,hc⟩:=h.cells_at hx
 obtain ⟨rfl,g0⟩:=ZuE hr
 exact ⟨b,off,e,hb,by simpa[Zgc] using hc 0 _ rfl,by simpa[Zgc] using hc 1 _ rfl,g0⟩
theorem RA.Pin_at {w wr:World} {A:Option Addr} {l:List Pin} {k:Nat} {x:Pin} (h:RA Zcb w A l) (hb:Below w.heap.size w wr) (hx:l[k]?=some x):
 ∃(b off:Nat),A=some ⟨b,off,none⟩∧b<wr.heap.size∧wr.cell? ⟨b,off+k * 2,none⟩=some (.int .i64 x.at_)∧wr.cell? ⟨b,off+k * 2+1,none⟩=some (.bool x.not_)∧InI x.at_:=RSl.Pin_at (h.to hb) hx
structure Wire where
 name:List UInt8
 kind:Int
 ins:List Pin
 cover:List (List UInt8)
 deriving DecidableEq
def Zam :Sh Wire:=Sh.via (ZaI Zag (ZaI Zx (ZaI (Zk1 Zcb) (Zk1 Zag)))) (fun x=>(x.name,(x.kind,(x.ins,x.cover))))
theorem Zc7 :Zam.size=4:=rfl
theorem Zsg {w:World} {D:Nat→Prop} {cs:List Value} {x:Wire} (h:Zam.rep w D cs x):∃(A_ins:Option Addr) (c_ins:Nat) (A_cover:Option Addr) (c_cover:Nat),cs=[.string ⟨(x.name).toArray⟩,.int .i64 x.kind,.slice A_ins (x.ins).length c_ins,.slice A_cover (x.cover).length c_cover]∧(x.name).length≤9223372036854775807∧InI x.kind∧(x.ins).length≤c_ins∧c_ins≤9223372036854775807∧RSl Zcb w D A_ins x.ins∧(x.cover).length≤c_cover∧c_cover≤9223372036854775807∧RSl Zag w D A_cover x.cover:=by
 obtain ⟨p1,q1,rfl,h1,k1⟩:=h
 obtain ⟨rfl,f2⟩:=h1
 obtain ⟨p3,q3,rfl,h3,k3⟩:=k1
 obtain ⟨rfl,f4⟩:=h3
 obtain ⟨p5,q5,rfl,h5,k5⟩:=k3
 obtain ⟨A6,c6,rfl,f6,g6,r6⟩:=h5
 obtain ⟨A7,c7,rfl,f7,g7,r7⟩:=k5
 exact ⟨A6,c6,A7,c7,rfl,f2,f4,f6,g6,r6,f7,g7,r7⟩
theorem ZuF {w:World} {D:Nat→Prop} {x:Wire} {A_ins:Option Addr} {c_ins:Nat} {A_cover:Option Addr} {c_cover:Nat} (f0:(x.name).length≤9223372036854775807) (f1:InI x.kind) (f2:(x.ins).length≤c_ins) (f3:c_ins≤9223372036854775807) (f4:RSl Zcb w D A_ins x.ins) (f5:(x.cover).length≤c_cover) (f6:c_cover≤9223372036854775807) (f7:RSl Zag w D A_cover x.cover):Zam.rep w D [.string ⟨(x.name).toArray⟩,.int .i64 x.kind,.slice A_ins (x.ins).length c_ins,.slice A_cover (x.cover).length c_cover] x:=by
 exact ⟨[.string ⟨(x.name).toArray⟩],_,rfl,⟨rfl,f0⟩,⟨[.int .i64 x.kind],_,rfl,⟨rfl,f1⟩,⟨[.slice A_ins (x.ins).length c_ins],_,rfl,⟨_,_,rfl,f2,f3,f4⟩,⟨_,_,rfl,f5,f6,f7⟩⟩⟩⟩
theorem RSl.Wire_at {w:World} {D:Nat→Prop} {A:Option Addr} {l:List Wire} {k:Nat} {x:Wire} (h:RSl Zam w D A l) (hx:l[k]?=some x):
 ∃(b off:Nat) (A_ins:Option Addr) (c_ins:Nat) (A_cover:Option Addr) (c_cover:Nat),A=some ⟨b,off,none⟩∧D b∧w.cell? ⟨b,off+k * 4,none⟩=some (.string ⟨(x.name).toArray⟩)∧w.cell? ⟨b,off+k * 4+1,none⟩=some (.int .i64 x.kind)∧w.cell? ⟨b,off+k * 4+2,none⟩=some (.slice A_ins (x.ins).length c_ins)∧w.cell? ⟨b,off+k * 4+3,none⟩=some (.slice A_cover (x.cover).length c_cover)∧(x.name).length≤9223372036854775807∧InI x.kind∧(x.ins).length≤c_ins∧c_ins≤9223372036854775807∧RSl Zcb w D A_ins x.ins∧(x.cover).length≤c_cover∧c_cover≤9223372036854775807∧RSl Zag w D A_cover x.cover:=by
 obtain ⟨b,off,cs,e,hb,hr,hc⟩:=h.cells_at hx
 obtain ⟨A_ins,c_ins,A_cover,c_cover,rfl,g0,g1,g2,g3,g4,g5,g6,g7⟩:=Zsg hr
 exact ⟨b,off,A_ins,c_ins,A_cover,c_cover,e,hb,by simpa[Zc7] using hc 0 _ rfl,by simpa[Zc7] using hc 1 _ rfl,by simpa[Zc7] using hc 2 _ rfl,by simpa[Zc7] using hc 3 _ rfl,g0,g1,g2,g3,g4,g5,g6,g7⟩
theorem RA.Wire_at {w wr:World} {A:Option Addr} {l:List Wire} {k:Nat} {x:Wire} (h:RA Zam w A l) (hb:Below w.heap.size w wr) (hx:l[k]?=some x):
 ∃(b off:Nat) (A_ins:Option Addr) (c_ins:Nat) (A_cover:Option Addr) (c_cover:Nat),A=some ⟨b,off,none⟩∧b<wr.heap.size∧wr.cell? ⟨b,off+k * 4,none⟩=some (.string ⟨(x.name).toArray⟩)∧wr.cell? ⟨b,off+k * 4+1,none⟩=some (.int .i64 x.kind)∧wr.cell? ⟨b,off+k * 4+2,none⟩=some (.slice A_ins (x.ins).length c_ins)∧wr.cell? ⟨b,off+k * 4+3,none⟩=some (.slice A_cover (x.cover).length c_cover)∧(x.name).length≤9223372036854775807∧InI x.kind∧(x.ins).length≤c_ins∧c_ins≤9223372036854775807∧RA Zcb wr A_ins x.ins∧(x.cover).length≤c_cover∧c_cover≤9223372036854775807∧RA Zag wr A_cover x.cover:=RSl.Wire_at (h.to hb) hx
structure Nl where
 signals:List Sig
 wires:List Wire
 deriving DecidableEq
def shNl :Sh Nl:=Sh.via (ZaI (Zk1 Zah) (Zk1 Zam)) (fun x=>(x.signals,x.wires))
theorem Zv8 {w:World} {D:Nat→Prop} {cs:List Value} {x:Nl} (h:shNl.rep w D cs x):∃(A_signals:Option Addr) (c_signals:Nat) (A_wires:Option Addr) (c_wires:Nat),cs=[.slice A_signals (x.signals).length c_signals,.slice A_wires (x.wires).length c_wires]∧(x.signals).length≤c_signals∧c_signals≤9223372036854775807∧RSl Zah w D A_signals x.signals∧(x.wires).length≤c_wires∧c_wires≤9223372036854775807∧RSl Zam w D A_wires x.wires:=by
 obtain ⟨p1,q1,rfl,h1,k1⟩:=h
 obtain ⟨A2,c2,rfl,f2,g2,r2⟩:=h1
 obtain ⟨A3,c3,rfl,f3,g3,r3⟩:=k1
 exact ⟨A2,c2,A3,c3,rfl,f2,g2,r2,f3,g3,r3⟩
theorem Zo0 {w:World} {D:Nat→Prop} {x:Nl} {A_signals:Option Addr} {c_signals:Nat} {A_wires:Option Addr} {c_wires:Nat} (f0:(x.signals).length≤c_signals) (f1:c_signals≤9223372036854775807) (f2:RSl Zah w D A_signals x.signals) (f3:(x.wires).length≤c_wires) (f4:c_wires≤9223372036854775807) (f5:RSl Zam w D A_wires x.wires):shNl.rep w D [.slice A_signals (x.signals).length c_signals,.slice A_wires (x.wires).length c_wires] x:=by
 exact ⟨[.slice A_signals (x.signals).length c_signals],_,rfl,⟨_,_,rfl,f0,f1,f2⟩,⟨_,_,rfl,f3,f4,f5⟩⟩
structure Ac where
 from_:Int
 sig:Int
 up:Bool
 to_:Int
 deriving DecidableEq
def Zdg :Sh Ac:=Sh.via (ZaI Zx (ZaI Zx (ZaI Zj5 Zx))) (fun x=>(x.from_,(x.sig,(x.up,x.to_))))
theorem Zer :Zdg.size=4:=rfl
theorem Zv9 {w:World} {D:Nat→Prop} {cs:List Value} {x:Ac} (h:Zdg.rep w D cs x):cs=[.int .i64 x.from_,.int .i64 x.sig,.bool x.up,.int .i64 x.to_]∧InI x.from_∧InI x.sig∧InI x.to_:=by
 obtain ⟨p1,q1,rfl,h1,k1⟩:=h
 obtain ⟨rfl,f2⟩:=h1
 obtain ⟨p3,q3,rfl,h3,k3⟩:=k1
 obtain ⟨rfl,f4⟩:=h3
 obtain ⟨p5,q5,rfl,h5,k5⟩:=k3
 obtain rfl:=h5
 obtain ⟨rfl,f7⟩:=k5
 exact ⟨rfl,f2,f4,f7⟩
theorem ZwY {w:World} {D:Nat→Prop} {x:Ac} (f0:InI x.from_) (f1:InI x.sig) (f2:InI x.to_):Zdg.rep w D [.int .i64 x.from_,.int .i64 x.sig,.bool x.up,.int .i64 x.to_] x:=by
 exact ⟨[.int .i64 x.from_],_,rfl,⟨rfl,f0⟩,⟨[.int .i64 x.sig],_,rfl,⟨rfl,f1⟩,⟨[.bool x.up],_,rfl,rfl,⟨rfl,f2⟩⟩⟩⟩
theorem RSl.Ac_at {w:World} {D:Nat→Prop} {A:Option Addr} {l:List Ac} {k:Nat} {x:Ac} (h:RSl Zdg w D A l) (hx:l[k]?=some x):
 ∃(b off:Nat),A=some ⟨b,off,none⟩∧D b∧w.cell? ⟨b,off+k * 4,none⟩=some (.int .i64 x.from_)∧w.cell? ⟨b,off+k * 4+1,none⟩=some (.int .i64 x.sig)∧w.cell? ⟨b,off+k * 4+2,none⟩=some (.bool x.up)∧w.cell? ⟨b,off+k * 4+3,none⟩=some (.int .i64 x.to_)∧InI x.from_∧InI x.sig∧InI x.to_:=by
 obtain ⟨b,off,cs,e,hb,hr,hc⟩:=h.cells_at hx
 obtain ⟨rfl,g0,g1,g2⟩:=Zv9 hr
 exact ⟨b,off,e,hb,by simpa[Zer] using hc 0 _ rfl,by simpa[Zer] using hc 1 _ rfl,by simpa[Zer] using hc 2 _ rfl,by simpa[Zer] using hc 3 _ rfl,g0,g1,g2⟩
theorem RA.Ac_at {w wr:World} {A:Option Addr} {l:List Ac} {k:Nat} {x:Ac} (h:RA Zdg w A l) (hb:Below w.heap.size w wr) (hx:l[k]?=some x):
 ∃(b off:Nat),A=some ⟨b,off,none⟩∧b<wr.heap.size∧wr.cell? ⟨b,off+k * 4,none⟩=some (.int .i64 x.from_)∧wr.cell? ⟨b,off+k * 4+1,none⟩=some (.int .i64 x.sig)∧wr.cell? ⟨b,off+k * 4+2,none⟩=some (.bool x.up)∧wr.cell? ⟨b,off+k * 4+3,none⟩=some (.int .i64 x.to_)∧InI x.from_∧InI x.sig∧InI x.to_:=RSl.Ac_at (h.to hb) hx
structure SGr where
 signals:List Sig
 codes:List (List UInt8)
 arcs:List Ac
 deriving DecidableEq
def ZqB :Sh SGr:=Sh.via (ZaI (Zk1 Zah) (ZaI (Zk1 Zag) (Zk1 Zdg))) (fun x=>(x.signals,(x.codes,x.arcs)))
theorem ZuG {w:World} {D:Nat→Prop} {cs:List Value} {x:SGr} (h:ZqB.rep w D cs x):∃(A_signals:Option Addr) (c_signals:Nat) (A_codes:Option Addr) (c_codes:Nat) (A_arcs:Option Addr) (c_arcs:Nat),cs=[.slice A_signals (x.signals).length c_signals,.slice A_codes (x.codes).length c_codes,.slice A_arcs (x.arcs).length c_arcs]∧(x.signals).length≤c_signals∧c_signals≤9223372036854775807∧RSl Zah w D A_signals x.signals∧(x.codes).length≤c_codes∧c_codes≤9223372036854775807∧RSl Zag w D A_codes x.codes∧(x.arcs).length≤c_arcs∧c_arcs≤9223372036854775807∧RSl Zdg w D A_arcs x.arcs:=by
 obtain ⟨p1,q1,rfl,h1,k1⟩:=h
 obtain ⟨A2,c2,rfl,f2,g2,r2⟩:=h1
 obtain ⟨p3,q3,rfl,h3,k3⟩:=k1
 obtain ⟨A4,c4,rfl,f4,g4,r4⟩:=h3
 obtain ⟨A5,c5,rfl,f5,g5,r5⟩:=k3
 exact ⟨A2,c2,A4,c4,A5,c5,rfl,f2,g2,r2,f4,g4,r4,f5,g5,r5⟩
theorem Zmk {w:World} {D:Nat→Prop} {x:SGr} {A_signals:Option Addr} {c_signals:Nat} {A_codes:Option Addr} {c_codes:Nat} {A_arcs:Option Addr} {c_arcs:Nat} (f0:(x.signals).length≤c_signals) (f1:c_signals≤9223372036854775807) (f2:RSl Zah w D A_signals x.signals) (f3:(x.codes).length≤c_codes) (f4:c_codes≤9223372036854775807) (f5:RSl Zag w D A_codes x.codes) (f6:(x.arcs).length≤c_arcs) (f7:c_arcs≤9223372036854775807) (f8:RSl Zdg w D A_arcs x.arcs):ZqB.rep w D [.slice A_signals (x.signals).length c_signals,.slice A_codes (x.codes).length c_codes,.slice A_arcs (x.arcs).length c_arcs] x:=by
 exact ⟨[.slice A_signals (x.signals).length c_signals],_,rfl,⟨_,_,rfl,f0,f1,f2⟩,⟨[.slice A_codes (x.codes).length c_codes],_,rfl,⟨_,_,rfl,f3,f4,f5⟩,⟨_,_,rfl,f6,f7,f8⟩⟩⟩
end Go.Proofs.YtkgnjijonikchaaGreat
