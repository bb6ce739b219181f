import Derived.Test.YtjjobbamoeaogaaDoorBase
namespace Go.Proofs.YtjjobbamoeaogaaDoor
open Go.RowKit
set_option linter.unusedVariables false
structure TF where
 at_:Int
 t:Int
 deriving DecidableEq
def shTF :Sh TF:=Sh.via (ZS Zam Zam) (fun x=>(x.at_,x.t))
theorem Zli :shTF.size=2:=rfl
theorem Zsu {w:World} {D:Nat→Prop} {cs:List Value} {x:TF} (h:shTF.rep w D cs x):cs=[.int .i64 x.at_,.int .i64 x.t]∧InI x.at_∧InI x.t:=by
 obtain ⟨p1,q1,rfl,h1,k1⟩:=h
 obtain ⟨rfl,f2⟩:=h1
 obtain ⟨rfl,f3⟩:=k1
 exact ⟨rfl,f2,f3⟩
theorem shTF_mk {w:World} {D:Nat→Prop} {x:TF} (f0:InI x.at_) (f1:InI x.t):shTF.rep w D [.int .i64 x.at_,.int .i64 x.t] x:=by
 exact ⟨[.int .i64 x.at_],_,rfl,⟨rfl,f0⟩,⟨rfl,f1⟩⟩
theorem RSl.TF_at {w:World} {D:Nat→Prop} {A:Option Addr} {l:List TF} {k:Nat} {x:TF} (h:RSl shTF w D A l) (hx:l[k]?=some x):
 ∃(b off:Nat),A=some ⟨b,off,none⟩∧D b∧w.cell? ⟨b,off+k * 2,none⟩=some (.int .i64 x.at_)∧w.cell? ⟨b,off+k * 2+1,none⟩=some (.int .i64 x.t)∧InI x.at_∧InI x.t:=by
 obtain ⟨b,off,cs,e,hb,hr,hc⟩:=h.cells_at hx
 obtain ⟨rfl,g0,g1⟩:=Zsu hr
 exact ⟨b,off,e,hb,by simpa[Zli] using hc 0 _ rfl,by simpa[Zli] using hc 1 _ rfl,g0,g1⟩
theorem RA.TF_at {w wr:World} {A:Option Addr} {l:List TF} {k:Nat} {x:TF} (h:RA shTF w A l) (hb:Below w.heap.size w wr) (hx:l[k]?=some x):
 ∃(b off:Nat),A=some ⟨b,off,none⟩∧b<wr.heap.size∧wr.cell? ⟨b,off+k * 2,none⟩=some (.int .i64 x.at_)∧wr.cell? ⟨b,off+k * 2+1,none⟩=some (.int .i64 x.t)∧InI x.at_∧InI x.t:=RSl.TF_at (h.to hb) hx
structure Tr where
 pre:List (Int)
 post:List (Int)
 deriving DecidableEq
def Zhs :Sh Tr:=Sh.via (ZS (ZdP Zam) (ZdP Zam)) (fun x=>(x.pre,x.post))
theorem Zlj :Zhs.size=2:=rfl
theorem Zsv {w:World} {D:Nat→Prop} {cs:List Value} {x:Tr} (h:Zhs.rep w D cs x):∃(A_pre:Option Addr) (c_pre:Nat) (A_post:Option Addr) (c_post:Nat),cs=[.slice A_pre (x.pre).length c_pre,.slice A_post (x.post).length c_post]∧(x.pre).length≤c_pre∧c_pre≤9223372036854775807∧RSl Zam w D A_pre x.pre∧(x.post).length≤c_post∧c_post≤9223372036854775807∧RSl Zam w D A_post x.post:=by
 obtain ⟨p1,q1,rfl,h1,k1⟩:=h
 obtain ⟨A2,c2,rfl,f2,g2,r2⟩:=h1
 obtain ⟨A3,c3,rfl,f3,g3,r3⟩:=k1
 exact ⟨A2,c2,A3,c3,rfl,f2,g2,r2,f3,g3,r3⟩
theorem shTr_mk {w:World} {D:Nat→Prop} {x:Tr} {A_pre:Option Addr} {c_pre:Nat} {A_post:Option Addr} {c_post:Nat} (f0:(x.pre).length≤c_pre) (f1:c_pre≤9223372036854775807) (f2:RSl Zam w D A_pre x.pre) (f3:(x.post).length≤c_post) (f4:c_post≤9223372036854775807) (f5:RSl Zam w D A_post x.post):Zhs.rep w D [.slice A_pre (x.pre).length c_pre,.slice A_post (x.post).length c_post] x:=by
 exact ⟨[.slice A_pre (x.pre).length c_pre],_,rfl,⟨_,_,rfl,f0,f1,f2⟩,⟨_,_,rfl,f3,f4,f5⟩⟩
theorem RSl.Tr_at {w:World} {D:Nat→Prop} {A:Option Addr} {l:List Tr} {k:Nat} {x:Tr} (h:RSl Zhs w D A l) (hx:l[k]?=some x):
 ∃(b off:Nat) (A_pre:Option Addr) (c_pre:Nat) (A_post:Option Addr) (c_post:Nat),A=some ⟨b,off,none⟩∧D b∧w.cell? ⟨b,off+k * 2,none⟩=some (.slice A_pre (x.pre).length c_pre)∧w.cell? ⟨b,off+k * 2+1,none⟩=some (.slice A_post (x.post).length c_post)∧(x.pre).length≤c_pre∧c_pre≤9223372036854775807∧RSl Zam w D A_pre x.pre∧(x.post).length≤c_post∧c_post≤9223372036854775807∧RSl Zam w D A_post x.post:=by
 obtain ⟨b,off,cs,e,hb,hr,hc⟩:=h.cells_at hx
 obtain ⟨A_pre,c_pre,A_post,c_post,rfl,g0,g1,g2,g3,g4,g5⟩:=Zsv hr
 exact ⟨b,off,A_pre,c_pre,A_post,c_post,e,hb,by simpa[Zlj] using hc 0 _ rfl,by simpa[Zlj] using hc 1 _ rfl,g0,g1,g2,g3,g4,g5⟩
theorem RA.Tr_at {w wr:World} {A:Option Addr} {l:List Tr} {k:Nat} {x:Tr} (h:RA Zhs w A l) (hb:Below w.heap.size w wr) (hx:l[k]?=some x):
 ∃(b off:Nat) (A_pre:Option Addr) (c_pre:Nat) (A_post:Option Addr) (c_post:Nat),A=some ⟨b,off,none⟩∧b<wr.heap.size∧wr.cell? ⟨b,off+k * 2,none⟩=some (.slice A_pre (x.pre).length c_pre)∧wr.cell? ⟨b,off+k * 2+1,none⟩=some (.slice A_post (x.post).length c_post)∧(x.pre).length≤c_pre∧c_pre≤9223372036854775807∧RA Zam wr A_pre x.pre∧(x.post).length≤c_post∧c_post≤9223372036854775807∧RA Zam wr A_post x.post:=RSl.Tr_at (h.to hb) hx
structure Net where
 places:Int
 trans:List Tr
 deriving DecidableEq
def Zlk :Sh Net:=Sh.via (ZS Zam (ZdP Zhs)) (fun x=>(x.places,x.trans))
theorem ZjW :Zlk.size=2:=rfl
theorem ZqV {w:World} {D:Nat→Prop} {cs:List Value} {x:Net} (h:Zlk.rep w D cs x):∃(A_trans:Option Addr) (c_trans:Nat),cs=[.int .i64 x.places,.slice A_trans (x.trans).length c_trans]∧InI x.places∧(x.trans).length≤c_trans∧c_trans≤9223372036854775807∧RSl Zhs w D A_trans x.trans:=by
 obtain ⟨p1,q1,rfl,h1,k1⟩:=h
 obtain ⟨rfl,f2⟩:=h1
 obtain ⟨A3,c3,rfl,f3,g3,r3⟩:=k1
 exact ⟨A3,c3,rfl,f2,f3,g3,r3⟩
theorem shNet_mk {w:World} {D:Nat→Prop} {x:Net} {A_trans:Option Addr} {c_trans:Nat} (f0:InI x.places) (f1:(x.trans).length≤c_trans) (f2:c_trans≤9223372036854775807) (f3:RSl Zhs w D A_trans x.trans):Zlk.rep w D [.int .i64 x.places,.slice A_trans (x.trans).length c_trans] x:=by
 exact ⟨[.int .i64 x.places],_,rfl,⟨rfl,f0⟩,⟨_,_,rfl,f1,f2,f3⟩⟩
theorem RSl.Net_at {w:World} {D:Nat→Prop} {A:Option Addr} {l:List Net} {k:Nat} {x:Net} (h:RSl Zlk w D A l) (hx:l[k]?=some x):
 ∃(b off:Nat) (A_trans:Option Addr) (c_trans:Nat),A=some ⟨b,off,none⟩∧D b∧w.cell? ⟨b,off+k * 2,none⟩=some (.int .i64 x.places)∧w.cell? ⟨b,off+k * 2+1,none⟩=some (.slice A_trans (x.trans).length c_trans)∧InI x.places∧(x.trans).length≤c_trans∧c_trans≤9223372036854775807∧RSl Zhs w D A_trans x.trans:=by
 obtain ⟨b,off,cs,e,hb,hr,hc⟩:=h.cells_at hx
 obtain ⟨A_trans,c_trans,rfl,g0,g1,g2,g3⟩:=ZqV hr
 exact ⟨b,off,A_trans,c_trans,e,hb,by simpa[ZjW] using hc 0 _ rfl,by simpa[ZjW] using hc 1 _ rfl,g0,g1,g2,g3⟩
theorem RA.Net_at {w wr:World} {A:Option Addr} {l:List Net} {k:Nat} {x:Net} (h:RA Zlk w A l) (hb:Below w.heap.size w wr) (hx:l[k]?=some x):
 ∃(b off:Nat) (A_trans:Option Addr) (c_trans:Nat),A=some ⟨b,off,none⟩∧b<wr.heap.size∧wr.cell? ⟨b,off+k * 2,none⟩=some (.int .i64 x.places)∧wr.cell? ⟨b,off+k * 2+1,none⟩=some (.slice A_trans (x.trans).length c_trans)∧InI x.places∧(x.trans).length≤c_trans∧c_trans≤9223372036854775807∧RA Zhs wr A_trans x.trans:=RSl.Net_at (h.to hb) hx
structure PSt where
 state:Int
 values:List UInt8
 deriving DecidableEq
def Zgl :Sh PSt:=Sh.via (ZS Zam ZB) (fun x=>(x.state,x.values))
theorem ZjX :Zgl.size=2:=rfl
theorem ZqW {w:World} {D:Nat→Prop} {cs:List Value} {x:PSt} (h:Zgl.rep w D cs x):cs=[.int .i64 x.state,.string ⟨(x.values).toArray⟩]∧InI x.state∧(x.values).length≤9223372036854775807:=by
 obtain ⟨p1,q1,rfl,h1,k1⟩:=h
 obtain ⟨rfl,f2⟩:=h1
 obtain ⟨rfl,f3⟩:=k1
 exact ⟨rfl,f2,f3⟩
theorem shPSt_mk {w:World} {D:Nat→Prop} {x:PSt} (f0:InI x.state) (f1:(x.values).length≤9223372036854775807):Zgl.rep w D [.int .i64 x.state,.string ⟨(x.values).toArray⟩] x:=by
 exact ⟨[.int .i64 x.state],_,rfl,⟨rfl,f0⟩,⟨rfl,f1⟩⟩
theorem RSl.PSt_at {w:World} {D:Nat→Prop} {A:Option Addr} {l:List PSt} {k:Nat} {x:PSt} (h:RSl Zgl w D A l) (hx:l[k]?=some x):
 ∃(b off:Nat),A=some ⟨b,off,none⟩∧D b∧w.cell? ⟨b,off+k * 2,none⟩=some (.int .i64 x.state)∧w.cell? ⟨b,off+k * 2+1,none⟩=some (.string ⟨(x.values).toArray⟩)∧InI x.state∧(x.values).length≤9223372036854775807:=by
 obtain ⟨b,off,cs,e,hb,hr,hc⟩:=h.cells_at hx
 obtain ⟨rfl,g0,g1⟩:=ZqW hr
 exact ⟨b,off,e,hb,by simpa[ZjX] using hc 0 _ rfl,by simpa[ZjX] using hc 1 _ rfl,g0,g1⟩
theorem RA.PSt_at {w wr:World} {A:Option Addr} {l:List PSt} {k:Nat} {x:PSt} (h:RA Zgl w A l) (hb:Below w.heap.size w wr) (hx:l[k]?=some x):
 ∃(b off:Nat),A=some ⟨b,off,none⟩∧b<wr.heap.size∧wr.cell? ⟨b,off+k * 2,none⟩=some (.int .i64 x.state)∧wr.cell? ⟨b,off+k * 2+1,none⟩=some (.string ⟨(x.values).toArray⟩)∧InI x.state∧(x.values).length≤9223372036854775807:=RSl.PSt_at (h.to hb) hx
structure Flip where
 from_:Int
 wire:Int
 to:Int
 deriving DecidableEq
def Zck :Sh Flip:=Sh.via (ZS Zam (ZS Zam Zam)) (fun x=>(x.from_,(x.wire,x.to)))
theorem ZfG :Zck.size=3:=rfl
theorem Zo0 {w:World} {D:Nat→Prop} {cs:List Value} {x:Flip} (h:Zck.rep w D cs x):cs=[.int .i64 x.from_,.int .i64 x.wire,.int .i64 x.to]∧InI x.from_∧InI x.wire∧InI x.to:=by
 obtain ⟨p1,q1,rfl,h1,k1⟩:=h
 obtain ⟨rfl,f2⟩:=h1
 obtain ⟨p3,q3,rfl,h3,k3⟩:=k1
 obtain ⟨rfl,f4⟩:=h3
 obtain ⟨rfl,f5⟩:=k3
 exact ⟨rfl,f2,f4,f5⟩
theorem shFlip_mk {w:World} {D:Nat→Prop} {x:Flip} (f0:InI x.from_) (f1:InI x.wire) (f2:InI x.to):Zck.rep w D [.int .i64 x.from_,.int .i64 x.wire,.int .i64 x.to] x:=by
 exact ⟨[.int .i64 x.from_],_,rfl,⟨rfl,f0⟩,⟨[.int .i64 x.wire],_,rfl,⟨rfl,f1⟩,⟨rfl,f2⟩⟩⟩
theorem RSl.Flip_at {w:World} {D:Nat→Prop} {A:Option Addr} {l:List Flip} {k:Nat} {x:Flip} (h:RSl Zck w D A l) (hx:l[k]?=some x):
 ∃(b off:Nat),A=some ⟨b,off,none⟩∧D b∧w.cell? ⟨b,off+k * 3,none⟩=some (.int .i64 x.from_)∧w.cell? ⟨b,off+k * 3+1,none⟩=some (.int .i64 x.wire)∧w.cell? ⟨b,off+k * 3+2,none⟩=some (.int .i64 x.to)∧InI x.from_∧InI x.wire∧InI x.to:=by
 obtain ⟨b,off,cs,e,hb,hr,hc⟩:=h.cells_at hx
 obtain ⟨rfl,g0,g1,g2⟩:=Zo0 hr
 exact ⟨b,off,e,hb,by simpa[ZfG] using hc 0 _ rfl,by simpa[ZfG] using hc 1 _ rfl,by simpa[ZfG] using hc 2 _ rfl,g0,g1,g2⟩
theorem RA.Flip_at {w wr:World} {A:Option Addr} {l:List Flip} {k:Nat} {x:Flip} (h:RA Zck w A l) (hb:Below w.heap.size w wr) (hx:l[k]?=some x):
 ∃(b off:Nat),A=some ⟨b,off,none⟩∧b<wr.heap.size∧wr.cell? ⟨b,off+k * 3,none⟩=some (.int .i64 x.from_)∧wr.cell? ⟨b,off+k * 3+1,none⟩=some (.int .i64 x.wire)∧wr.cell? ⟨b,off+k * 3+2,none⟩=some (.int .i64 x.to)∧InI x.from_∧InI x.wire∧InI x.to:=RSl.Flip_at (h.to hb) hx
structure ProdG where
 states:List PSt
 flips:List Flip
 extra:List Flip
 deriving DecidableEq
def Zht :Sh ProdG:=Sh.via (ZS (ZdP Zgl) (ZS (ZdP Zck) (ZdP Zck))) (fun x=>(x.states,(x.flips,x.extra)))
theorem ZeV :Zht.size=3:=rfl
theorem ZnC {w:World} {D:Nat→Prop} {cs:List Value} {x:ProdG} (h:Zht.rep w D cs x):∃(A_states:Option Addr) (c_states:Nat) (A_flips:Option Addr) (c_flips:Nat) (A_extra:Option Addr) (c_extra:Nat),cs=[.slice A_states (x.states).length c_states,.slice A_flips (x.flips).length c_flips,.slice A_extra (x.extra).length c_extra]∧(x.states).length≤c_states∧c_states≤9223372036854775807∧RSl Zgl w D A_states x.states∧(x.flips).length≤c_flips∧c_flips≤9223372036854775807∧RSl Zck w D A_flips x.flips∧(x.extra).length≤c_extra∧c_extra≤9223372036854775807∧RSl Zck w D A_extra x.extra:=by
 obtain ⟨p1,q1,rfl,h1,k1⟩:=h
 obtain ⟨A2,c2,rfl,f2,g2,r2⟩:=h1
 obtain ⟨p3,q3,rfl,h3,k3⟩:=k1
 obtain ⟨A4,c4,rfl,f4,g4,r4⟩:=h3
 obtain ⟨A5,c5,rfl,f5,g5,r5⟩:=k3
 exact ⟨A2,c2,A4,c4,A5,c5,rfl,f2,g2,r2,f4,g4,r4,f5,g5,r5⟩
theorem shProdG_mk {w:World} {D:Nat→Prop} {x:ProdG} {A_states:Option Addr} {c_states:Nat} {A_flips:Option Addr} {c_flips:Nat} {A_extra:Option Addr} {c_extra:Nat} (f0:(x.states).length≤c_states) (f1:c_states≤9223372036854775807) (f2:RSl Zgl w D A_states x.states) (f3:(x.flips).length≤c_flips) (f4:c_flips≤9223372036854775807) (f5:RSl Zck w D A_flips x.flips) (f6:(x.extra).length≤c_extra) (f7:c_extra≤9223372036854775807) (f8:RSl Zck w D A_extra x.extra):Zht.rep w D [.slice A_states (x.states).length c_states,.slice A_flips (x.flips).length c_flips,.slice A_extra (x.extra).length c_extra] x:=by
 exact ⟨[.slice A_states (x.states).length c_states],_,rfl,⟨_,_,rfl,f0,f1,f2⟩,⟨[.slice A_flips (x.flips).length c_flips],_,rfl,⟨_,_,rfl,f3,f4,f5⟩,⟨_,_,rfl,f6,f7,f8⟩⟩⟩
theorem RSl.ProdG_at {w:World} {D:Nat→Prop} {A:Option Addr} {l:List ProdG} {k:Nat} {x:ProdG} (h:RSl Zht w D A l) (hx:l[k]?=some x):
 ∃(b off:Nat) (A_states:Option Addr) (c_states:Nat) (A_flips:Option Addr) (c_flips:Nat) (A_extra:Option Addr) (c_extra:Nat),A=some ⟨b,off,none⟩∧D b∧w.cell? ⟨b,off+k * 3,none⟩=some (.slice A_states (x.states).length c_states)∧w.cell? ⟨b,off+k * 3+1,none⟩=some (.slice A_flips (x.flips).length c_flips)∧w.cell? ⟨b,off+k * 3+2,none⟩=some (.slice A_extra (x.extra).length c_extra)∧(x.states).length≤c_states∧c_states≤9223372036854775807∧RSl Zgl w D A_states x.states∧(x.flips).length≤c_flips∧c_flips≤9223372036854775807∧RSl Zck w D A_flips x.flips∧(x.extra).length≤c_extra∧c_extra≤9223372036854775807∧RSl Zck w D A_extra x.extra:=by
 obtain ⟨b,off,cs,e,hb,hr,hc⟩:=h.cells_at hx
 obtain ⟨A_states,c_states,A_flips,c_flips,A_extra,c_extra,rfl,g0,g1,g2,g3,g4,g5,g6,g7,g8⟩:=ZnC hr
 exact ⟨b,off,A_states,c_states,A_flips,c_flips,A_extra,c_extra,e,hb,by simpa[ZeV] using hc 0 _ rfl,by simpa[ZeV] using hc 1 _ rfl,by simpa[ZeV] using hc 2 _ rfl,g0,g1,g2,g3,g4,g5,g6,g7,g8⟩
theorem RA.ProdG_at {w wr:World} {A:Option Addr} {l:List ProdG} {k:Nat} {x:ProdG} (h:RA Zht w A l) (hb:Below w.heap.size w wr) (hx:l[k]?=some x):
 ∃(b off:Nat) (A_states:Option Addr) (c_states:Nat) (A_flips:Option Addr) (c_flips:Nat) (A_extra:Option Addr) (c_extra:Nat),A=some ⟨b,off,none⟩∧b<wr.heap.size∧wr.cell? ⟨b,off+k * 3,none⟩=some (.slice A_states (x.states).length c_states)∧wr.cell? ⟨b,off+k * 3+1,none⟩=some (.slice A_flips (x.flips).length c_flips)∧wr.cell? ⟨b,off+k * 3+2,none⟩=some (.slice A_extra (x.extra).length c_extra)∧(x.states).length≤c_states∧c_states≤9223372036854775807∧RA Zgl wr A_states x.states∧(x.flips).length≤c_flips∧c_flips≤9223372036854775807∧RA Zck wr A_flips x.flips∧(x.extra).length≤c_extra∧c_extra≤9223372036854775807∧RA Zck wr A_extra x.extra:=RSl.ProdG_at (h.to hb) hx
structure Sig where
 name:List UInt8
 kind:Int
 deriving DecidableEq
def Z1 :Sh Sig:=Sh.via (ZS ZB Zam) (fun x=>(x.name,x.kind))
theorem ZeW :Z1.size=2:=rfl
theorem ZqX {w:World} {D:Nat→Prop} {cs:List Value} {x:Sig} (h:Z1.rep w D cs x):cs=[.string ⟨(x.name).toArray⟩,.int .i64 x.kind]∧(x.name).length≤9223372036854775807∧InI x.kind:=by
 obtain ⟨p1,q1,rfl,h1,k1⟩:=h
 obtain ⟨rfl,f2⟩:=h1
 obtain ⟨rfl,f3⟩:=k1
 exact ⟨rfl,f2,f3⟩
theorem Zsw {w:World} {D:Nat→Prop} {x:Sig} (f0:(x.name).length≤9223372036854775807) (f1:InI x.kind):Z1.rep w D [.string ⟨(x.name).toArray⟩,.int .i64 x.kind] x:=by
 exact ⟨[.string ⟨(x.name).toArray⟩],_,rfl,⟨rfl,f0⟩,⟨rfl,f1⟩⟩
theorem RSl.Sig_at {w:World} {D:Nat→Prop} {A:Option Addr} {l:List Sig} {k:Nat} {x:Sig} (h:RSl Z1 w D A l) (hx:l[k]?=some x):
 ∃(b off:Nat),A=some ⟨b,off,none⟩∧D b∧w.cell? ⟨b,off+k * 2,none⟩=some (.string ⟨(x.name).toArray⟩)∧w.cell? ⟨b,off+k * 2+1,none⟩=some (.int .i64 x.kind)∧(x.name).length≤9223372036854775807∧InI x.kind:=by
 obtain ⟨b,off,cs,e,hb,hr,hc⟩:=h.cells_at hx
 obtain ⟨rfl,g0,g1⟩:=ZqX hr
 exact ⟨b,off,e,hb,by simpa[ZeW] using hc 0 _ rfl,by simpa[ZeW] using hc 1 _ rfl,g0,g1⟩
theorem RA.Sig_at {w wr:World} {A:Option Addr} {l:List Sig} {k:Nat} {x:Sig} (h:RA Z1 w A l) (hb:Below w.heap.size w wr) (hx:l[k]?=some x):
 ∃(b off:Nat),A=some ⟨b,off,none⟩∧b<wr.heap.size∧wr.cell? ⟨b,off+k * 2,none⟩=some (.string ⟨(x.name).toArray⟩)∧wr.cell? ⟨b,off+k * 2+1,none⟩=some (.int .i64 x.kind)∧(x.name).length≤9223372036854775807∧InI x.kind:=RSl.Sig_at (h.to hb) hx
structure Lab where
 sig:Int
 up:Bool
 deriving DecidableEq
def Zgm :Sh Lab:=Sh.via (ZS Zam Zlz) (fun x=>(x.sig,x.up))
theorem ZjY :Zgm.size=2:=rfl
theorem ZqY {w:World} {D:Nat→Prop} {cs:List Value} {x:Lab} (h:Zgm.rep w D cs x):cs=[.int .i64 x.sig,.bool x.up]∧InI x.sig:=by
 obtain ⟨p1,q1,rfl,h1,k1⟩:=h
 obtain ⟨rfl,f2⟩:=h1
 obtain rfl:=k1
 exact ⟨rfl,f2⟩
theorem shLab_mk {w:World} {D:Nat→Prop} {x:Lab} (f0:InI x.sig):Zgm.rep w D [.int .i64 x.sig,.bool x.up] x:=by
 exact ⟨[.int .i64 x.sig],_,rfl,⟨rfl,f0⟩,rfl⟩
theorem RSl.Lab_at {w:World} {D:Nat→Prop} {A:Option Addr} {l:List Lab} {k:Nat} {x:Lab} (h:RSl Zgm w D A l) (hx:l[k]?=some x):
 ∃(b off:Nat),A=some ⟨b,off,none⟩∧D b∧w.cell? ⟨b,off+k * 2,none⟩=some (.int .i64 x.sig)∧w.cell? ⟨b,off+k * 2+1,none⟩=some (.bool x.up)∧InI x.sig:=by
 obtain ⟨b,off,cs,e,hb,hr,hc⟩:=h.cells_at hx
 obtain ⟨rfl,g0⟩:=ZqY hr
 exact ⟨b,off,e,hb,by simpa[ZjY] using hc 0 _ rfl,by simpa[ZjY] using hc 1 _ rfl,g0⟩
theorem RA.Lab_at {w wr:World} {A:Option Addr} {l:List Lab} {k:Nat} {x:Lab} (h:RA Zgm w A l) (hb:Below w.heap.size w wr) (hx:l[k]?=some x):
 ∃(b off:Nat),A=some ⟨b,off,none⟩∧b<wr.heap.size∧wr.cell? ⟨b,off+k * 2,none⟩=some (.int .i64 x.sig)∧wr.cell? ⟨b,off+k * 2+1,none⟩=some (.bool x.up)∧InI x.sig:=RSl.Lab_at (h.to hb) hx
structure STG where
 net:Net
 signals:List Sig
 labels:List Lab
 start:List UInt8
 deriving DecidableEq
def ZnD :Sh STG:=Sh.via (ZS Zlk (ZS (ZdP Z1) (ZS (ZdP Zgm) ZB))) (fun x=>(x.net,(x.signals,(x.labels,x.start))))
theorem ZdG :ZnD.size=5:=rfl
theorem ZqZ {w:World} {D:Nat→Prop} {cs:List Value} {x:STG} (h:ZnD.rep w D cs x):∃(A_net_trans:Option Addr) (c_net_trans:Nat) (A_signals:Option Addr) (c_signals:Nat) (A_labels:Option Addr) (c_labels:Nat),cs=[.int .i64 x.net.places,.slice A_net_trans (x.net.trans).length c_net_trans,.slice A_signals (x.signals).length c_signals,.slice A_labels (x.labels).length c_labels,.string ⟨(x.start).toArray⟩]∧InI x.net.places∧(x.net.trans).length≤c_net_trans∧c_net_trans≤9223372036854775807∧RSl Zhs w D A_net_trans x.net.trans∧(x.signals).length≤c_signals∧c_signals≤9223372036854775807∧RSl Z1 w D A_signals x.signals∧(x.labels).length≤c_labels∧c_labels≤9223372036854775807∧RSl Zgm w D A_labels x.labels∧(x.start).length≤9223372036854775807:=by
 obtain ⟨p1,q1,rfl,h1,k1⟩:=h
 obtain ⟨p3,q3,rfl,h3,k3⟩:=h1
 obtain ⟨rfl,f4⟩:=h3
 obtain ⟨A5,c5,rfl,f5,g5,r5⟩:=k3
 obtain ⟨p6,q6,rfl,h6,k6⟩:=k1
 obtain ⟨A7,c7,rfl,f7,g7,r7⟩:=h6
 obtain ⟨p8,q8,rfl,h8,k8⟩:=k6
 obtain ⟨A9,c9,rfl,f9,g9,r9⟩:=h8
 obtain ⟨rfl,f10⟩:=k8
 exact ⟨A5,c5,A7,c7,A9,c9,rfl,f4,f5,g5,r5,f7,g7,r7,f9,g9,r9,f10⟩
theorem shSTG_mk {w:World} {D:Nat→Prop} {x:STG} {A_net_trans:Option Addr} {c_net_trans:Nat} {A_signals:Option Addr} {c_signals:Nat} {A_labels:Option Addr} {c_labels:Nat} (f0:InI x.net.places) (f1:(x.net.trans).length≤c_net_trans) (f2:c_net_trans≤9223372036854775807) (f3:RSl Zhs w D A_net_trans x.net.trans) (f4:(x.signals).length≤c_signals) (f5:c_signals≤9223372036854775807) (f6:RSl Z1 w D A_signals x.signals) (f7:(x.labels).length≤c_labels) (f8:c_labels≤9223372036854775807) (f9:RSl Zgm w D A_labels x.labels) (f10:(x.start).length≤9223372036854775807):ZnD.rep w D [.int .i64 x.net.places,.slice A_net_trans (x.net.trans).length c_net_trans,.slice A_signals (x.signals).length c_signals,.slice A_labels (x.labels).length c_labels,.string ⟨(x.start).toArray⟩] x:=by
 exact ⟨[.int .i64 x.net.places,.slice A_net_trans (x.net.trans).length c_net_trans],_,rfl,⟨[.int .i64 x.net.places],_,rfl,⟨rfl,f0⟩,⟨_,_,rfl,f1,f2,f3⟩⟩,⟨[.slice A_signals (x.signals).length c_signals],_,rfl,⟨_,_,rfl,f4,f5,f6⟩,⟨[.slice A_labels (x.labels).length c_labels],_,rfl,⟨_,_,rfl,f7,f8,f9⟩,⟨rfl,f10⟩⟩⟩⟩
theorem RSl.STG_at {w:World} {D:Nat→Prop} {A:Option Addr} {l:List STG} {k:Nat} {x:STG} (h:RSl ZnD w D A l) (hx:l[k]?=some x):
 ∃(b off:Nat) (A_net_trans:Option Addr) (c_net_trans:Nat) (A_signals:Option Addr) (c_signals:Nat) (A_labels:Option Addr) (c_labels:Nat),A=some ⟨b,off,none⟩∧D b∧w.cell? ⟨b,off+k * 5,none⟩=some (.int .i64 x.net.places)∧w.cell? ⟨b,off+k * 5+1,none⟩=some (.slice A_net_trans (x.net.trans).length c_net_trans)∧w.cell? ⟨b,off+k * 5+2,none⟩=some (.slice A_signals (x.signals).length c_signals)∧w.cell? ⟨b,off+k * 5+3,none⟩=some (.slice A_labels (x.labels).length c_labels)∧w.cell? ⟨b,off+k * 5+4,none⟩=some (.string ⟨(x.start).toArray⟩)∧InI x.net.places∧(x.net.trans).length≤c_net_trans∧c_net_trans≤9223372036854775807∧RSl Zhs w D A_net_trans x.net.trans∧(x.signals).length≤c_signals∧c_signals≤9223372036854775807∧RSl Z1 w D A_signals x.signals∧(x.labels).length≤c_labels∧c_labels≤9223372036854775807∧RSl Zgm w D A_labels x.labels∧(x.start).length≤9223372036854775807:=by
 obtain ⟨b,off,cs,e,hb,hr,hc⟩:=h.cells_at hx
 obtain ⟨A_net_trans,c_net_trans,A_signals,c_signals,A_labels,c_labels,rfl,g0,g1,g2,g3,g4,g5,g6,g7,g8,g9,g10⟩:=ZqZ hr
 exact ⟨b,off,A_net_trans,c_net_trans,A_signals,c_signals,A_labels,c_labels,e,hb,by simpa[ZdG] using hc 0 _ rfl,by simpa[ZdG] using hc 1 _ rfl,by simpa[ZdG] using hc 2 _ rfl,by simpa[ZdG] using hc 3 _ rfl,by simpa[ZdG] using hc 4 _ rfl,g0,g1,g2,g3,g4,g5,g6,g7,g8,g9,g10⟩
theorem RA.STG_at {w wr:World} {A:Option Addr} {l:List STG} {k:Nat} {x:STG} (h:RA ZnD w A l) (hb:Below w.heap.size w wr) (hx:l[k]?=some x):
 ∃(b off:Nat) (A_net_trans:Option Addr) (c_net_trans:Nat) (A_signals:Option Addr) (c_signals:Nat) (A_labels:Option Addr) (c_labels:Nat),A=some ⟨b,off,none⟩∧b<wr.heap.size∧wr.cell? ⟨b,off+k * 5,none⟩=some (.int .i64 x.net.places)∧wr.cell? ⟨b,off+k * 5+1,none⟩=some (.slice A_net_trans (x.net.trans).length c_net_trans)∧wr.cell? ⟨b,off+k * 5+2,none⟩=some (.slice A_signals (x.signals).length c_signals)∧wr.cell? ⟨b,off+k * 5+3,none⟩=some (.slice A_labels (x.labels).length c_labels)∧wr.cell? ⟨b,off+k * 5+4,none⟩=some (.string ⟨(x.start).toArray⟩)∧InI x.net.places∧(x.net.trans).length≤c_net_trans∧c_net_trans≤9223372036854775807∧RA Zhs wr A_net_trans x.net.trans∧(x.signals).length≤c_signals∧c_signals≤9223372036854775807∧RA Z1 wr A_signals x.signals∧(x.labels).length≤c_labels∧c_labels≤9223372036854775807∧RA Zgm wr A_labels x.labels∧(x.start).length≤9223372036854775807:=RSl.STG_at (h.to hb) hx
structure Dl where
 low:Int
 high:Int
 deriving DecidableEq
def shDl :Sh Dl:=Sh.via (ZS Zam Zam) (fun x=>(x.low,x.high))
theorem Zll :shDl.size=2:=rfl
theorem Zsy {w:World} {D:Nat→Prop} {cs:List Value} {x:Dl} (h:shDl.rep w D cs x):cs=[.int .i64 x.low,.int .i64 x.high]∧InI x.low∧InI x.high:=by
 obtain ⟨p1,q1,rfl,h1,k1⟩:=h
 obtain ⟨rfl,f2⟩:=h1
 obtain ⟨rfl,f3⟩:=k1
 exact ⟨rfl,f2,f3⟩
theorem shDl_mk {w:World} {D:Nat→Prop} {x:Dl} (f0:InI x.low) (f1:InI x.high):shDl.rep w D [.int .i64 x.low,.int .i64 x.high] x:=by
 exact ⟨[.int .i64 x.low],_,rfl,⟨rfl,f0⟩,⟨rfl,f1⟩⟩
theorem RSl.Dl_at {w:World} {D:Nat→Prop} {A:Option Addr} {l:List Dl} {k:Nat} {x:Dl} (h:RSl shDl w D A l) (hx:l[k]?=some x):
 ∃(b off:Nat),A=some ⟨b,off,none⟩∧D b∧w.cell? ⟨b,off+k * 2,none⟩=some (.int .i64 x.low)∧w.cell? ⟨b,off+k * 2+1,none⟩=some (.int .i64 x.high)∧InI x.low∧InI x.high:=by
 obtain ⟨b,off,cs,e,hb,hr,hc⟩:=h.cells_at hx
 obtain ⟨rfl,g0,g1⟩:=Zsy hr
 exact ⟨b,off,e,hb,by simpa[Zll] using hc 0 _ rfl,by simpa[Zll] using hc 1 _ rfl,g0,g1⟩
theorem RA.Dl_at {w wr:World} {A:Option Addr} {l:List Dl} {k:Nat} {x:Dl} (h:RA shDl w A l) (hb:Below w.heap.size w wr) (hx:l[k]?=some x):
 ∃(b off:Nat),A=some ⟨b,off,none⟩∧b<wr.heap.size∧wr.cell? ⟨b,off+k * 2,none⟩=some (.int .i64 x.low)∧wr.cell? ⟨b,off+k * 2+1,none⟩=some (.int .i64 x.high)∧InI x.low∧InI x.high:=RSl.Dl_at (h.to hb) hx
structure Mv where
 from_:Int
 by_:Int
 to:Int
 deriving DecidableEq
def ZkK :Sh Mv:=Sh.via (ZS Zam (ZS Zam Zam)) (fun x=>(x.from_,(x.by_,x.to)))
theorem Zib :ZkK.size=3:=rfl
theorem Zsz {w:World} {D:Nat→Prop} {cs:List Value} {x:Mv} (h:ZkK.rep w D cs x):cs=[.int .i64 x.from_,.int .i64 x.by_,.int .i64 x.to]∧InI x.from_∧InI x.by_∧InI x.to:=by
 obtain ⟨p1,q1,rfl,h1,k1⟩:=h
 obtain ⟨rfl,f2⟩:=h1
 obtain ⟨p3,q3,rfl,h3,k3⟩:=k1
 obtain ⟨rfl,f4⟩:=h3
 obtain ⟨rfl,f5⟩:=k3
 exact ⟨rfl,f2,f4,f5⟩
theorem shMv_mk {w:World} {D:Nat→Prop} {x:Mv} (f0:InI x.from_) (f1:InI x.by_) (f2:InI x.to):ZkK.rep w D [.int .i64 x.from_,.int .i64 x.by_,.int .i64 x.to] x:=by
 exact ⟨[.int .i64 x.from_],_,rfl,⟨rfl,f0⟩,⟨[.int .i64 x.by_],_,rfl,⟨rfl,f1⟩,⟨rfl,f2⟩⟩⟩
theorem RSl.Mv_at {w:World} {D:Nat→Prop} {A:Option Addr} {l:List Mv} {k:Nat} {x:Mv} (h:RSl ZkK w D A l) (hx:l[k]?=some x):
 ∃(b off:Nat),A=some ⟨b,off,none⟩∧D b∧w.cell? ⟨b,off+k * 3,none⟩=some (.int .i64 x.from_)∧w.cell? ⟨b,off+k * 3+1,none⟩=some (.int .i64 x.by_)∧w.cell? ⟨b,off+k * 3+2,none⟩=some (.int .i64 x.to)∧InI x.from_∧InI x.by_∧InI x.to:=by
 obtain ⟨b,off,cs,e,hb,hr,hc⟩:=h.cells_at hx
 obtain ⟨rfl,g0,g1,g2⟩:=Zsz hr
 exact ⟨b,off,e,hb,by simpa[Zib] using hc 0 _ rfl,by simpa[Zib] using hc 1 _ rfl,by simpa[Zib] using hc 2 _ rfl,g0,g1,g2⟩
theorem RA.Mv_at {w wr:World} {A:Option Addr} {l:List Mv} {k:Nat} {x:Mv} (h:RA ZkK w A l) (hb:Below w.heap.size w wr) (hx:l[k]?=some x):
 ∃(b off:Nat),A=some ⟨b,off,none⟩∧b<wr.heap.size∧wr.cell? ⟨b,off+k * 3,none⟩=some (.int .i64 x.from_)∧wr.cell? ⟨b,off+k * 3+1,none⟩=some (.int .i64 x.by_)∧wr.cell? ⟨b,off+k * 3+2,none⟩=some (.int .i64 x.to)∧InI x.from_∧InI x.by_∧InI x.to:=RSl.Mv_at (h.to hb) hx
structure RG where
 marks:List (List UInt8)
 moves:List Mv
 deriving DecidableEq
def shRG :Sh RG:=Sh.via (ZS (ZdP ZB) (ZdP ZkK)) (fun x=>(x.marks,x.moves))
theorem Zlm :shRG.size=2:=rfl
theorem ZsB {w:World} {D:Nat→Prop} {cs:List Value} {x:RG} (h:shRG.rep w D cs x):∃(A_marks:Option Addr) (c_marks:Nat) (A_moves:Option Addr) (c_moves:Nat),cs=[.slice A_marks (x.marks).length c_marks,.slice A_moves (x.moves).length c_moves]∧(x.marks).length≤c_marks∧c_marks≤9223372036854775807∧RSl ZB w D A_marks x.marks∧(x.moves).length≤c_moves∧c_moves≤9223372036854775807∧RSl ZkK w D A_moves x.moves:=by
 obtain ⟨p1,q1,rfl,h1,k1⟩:=h
 obtain ⟨A2,c2,rfl,f2,g2,r2⟩:=h1
 obtain ⟨A3,c3,rfl,f3,g3,r3⟩:=k1
 exact ⟨A2,c2,A3,c3,rfl,f2,g2,r2,f3,g3,r3⟩
theorem shRG_mk {w:World} {D:Nat→Prop} {x:RG} {A_marks:Option Addr} {c_marks:Nat} {A_moves:Option Addr} {c_moves:Nat} (f0:(x.marks).length≤c_marks) (f1:c_marks≤9223372036854775807) (f2:RSl ZB w D A_marks x.marks) (f3:(x.moves).length≤c_moves) (f4:c_moves≤9223372036854775807) (f5:RSl ZkK w D A_moves x.moves):shRG.rep w D [.slice A_marks (x.marks).length c_marks,.slice A_moves (x.moves).length c_moves] x:=by
 exact ⟨[.slice A_marks (x.marks).length c_marks],_,rfl,⟨_,_,rfl,f0,f1,f2⟩,⟨_,_,rfl,f3,f4,f5⟩⟩
theorem RSl.RG_at {w:World} {D:Nat→Prop} {A:Option Addr} {l:List RG} {k:Nat} {x:RG} (h:RSl shRG w D A l) (hx:l[k]?=some x):
 ∃(b off:Nat) (A_marks:Option Addr) (c_marks:Nat) (A_moves:Option Addr) (c_moves:Nat),A=some ⟨b,off,none⟩∧D b∧w.cell? ⟨b,off+k * 2,none⟩=some (.slice A_marks (x.marks).length c_marks)∧w.cell? ⟨b,off+k * 2+1,none⟩=some (.slice A_moves (x.moves).length c_moves)∧(x.marks).length≤c_marks∧c_marks≤9223372036854775807∧RSl ZB w D A_marks x.marks∧(x.moves).length≤c_moves∧c_moves≤9223372036854775807∧RSl ZkK w D A_moves x.moves:=by
 obtain ⟨b,off,cs,e,hb,hr,hc⟩:=h.cells_at hx
 obtain ⟨A_marks,c_marks,A_moves,c_moves,rfl,g0,g1,g2,g3,g4,g5⟩:=ZsB hr
 exact ⟨b,off,A_marks,c_marks,A_moves,c_moves,e,hb,by simpa[Zlm] using hc 0 _ rfl,by simpa[Zlm] using hc 1 _ rfl,g0,g1,g2,g3,g4,g5⟩
theorem RA.RG_at {w wr:World} {A:Option Addr} {l:List RG} {k:Nat} {x:RG} (h:RA shRG w A l) (hb:Below w.heap.size w wr) (hx:l[k]?=some x):
 ∃(b off:Nat) (A_marks:Option Addr) (c_marks:Nat) (A_moves:Option Addr) (c_moves:Nat),A=some ⟨b,off,none⟩∧b<wr.heap.size∧wr.cell? ⟨b,off+k * 2,none⟩=some (.slice A_marks (x.marks).length c_marks)∧wr.cell? ⟨b,off+k * 2+1,none⟩=some (.slice A_moves (x.moves).length c_moves)∧(x.marks).length≤c_marks∧c_marks≤9223372036854775807∧RA ZB wr A_marks x.marks∧(x.moves).length≤c_moves∧c_moves≤9223372036854775807∧RA ZkK wr A_moves x.moves:=RSl.RG_at (h.to hb) hx
structure Pin where
 at_:Int
 not_:Bool
 deriving DecidableEq
def Zbr :Sh Pin:=Sh.via (ZS Zam Zlz) (fun x=>(x.at_,x.not_))
theorem ZeX :Zbr.size=2:=rfl
theorem Zq0 {w:World} {D:Nat→Prop} {cs:List Value} {x:Pin} (h:Zbr.rep w D cs x):cs=[.int .i64 x.at_,.bool x.not_]∧InI x.at_:=by
 obtain ⟨p1,q1,rfl,h1,k1⟩:=h
 obtain ⟨rfl,f2⟩:=h1
 obtain rfl:=k1
 exact ⟨rfl,f2⟩
theorem ZsC {w:World} {D:Nat→Prop} {x:Pin} (f0:InI x.at_):Zbr.rep w D [.int .i64 x.at_,.bool x.not_] x:=by
 exact ⟨[.int .i64 x.at_],_,rfl,⟨rfl,f0⟩,rfl⟩
theorem RSl.Pin_at {w:World} {D:Nat→Prop} {A:Option Addr} {l:List Pin} {k:Nat} {x:Pin} (h:RSl Zbr w D A l) (hx:l[k]?=some x):
 ∃(b off:Nat),A=some ⟨b,off,none⟩∧D b∧w.cell? ⟨b,off+k * 2,none⟩=some (.int .i64 x.at_)∧w.cell? ⟨b,off+k * 2+1,none⟩=some (.bool x.not_)∧InI x.at_:=by
 obtain ⟨b,off,cs,e,hb,hr,hc⟩:=h.cells_at hx
 obtain ⟨rfl,g0⟩:=Zq0 hr
 exact ⟨b,off,e,hb,by simpa[ZeX] using hc 0 _ rfl,by simpa[ZeX] using hc 1 _ rfl,g0⟩
theorem RA.Pin_at {w wr:World} {A:Option Addr} {l:List Pin} {k:Nat} {x:Pin} (h:RA Zbr w A l) (hb:Below w.heap.size w wr) (hx:l[k]?=some x):
 ∃(b off:Nat),A=some ⟨b,off,none⟩∧b<wr.heap.size∧wr.cell? ⟨b,off+k * 2,none⟩=some (.int .i64 x.at_)∧wr.cell? ⟨b,off+k * 2+1,none⟩=some (.bool x.not_)∧InI x.at_:=RSl.Pin_at (h.to hb) hx
structure Wire where
 name:List UInt8
 kind:Int
 ins:List Pin
 cover:List (List UInt8)
 deriving DecidableEq
def Zau :Sh Wire:=Sh.via (ZS ZB (ZS Zam (ZS (ZdP Zbr) (ZdP ZB)))) (fun x=>(x.name,(x.kind,(x.ins,x.cover))))
theorem Zd2 :Zau.size=4:=rfl
theorem Zo1 {w:World} {D:Nat→Prop} {cs:List Value} {x:Wire} (h:Zau.rep w D cs x):∃(A_ins:Option Addr) (c_ins:Nat) (A_cover:Option Addr) (c_cover:Nat),cs=[.string ⟨(x.name).toArray⟩,.int .i64 x.kind,.slice A_ins (x.ins).length c_ins,.slice A_cover (x.cover).length c_cover]∧(x.name).length≤9223372036854775807∧InI x.kind∧(x.ins).length≤c_ins∧c_ins≤9223372036854775807∧RSl Zbr w D A_ins x.ins∧(x.cover).length≤c_cover∧c_cover≤9223372036854775807∧RSl ZB w D A_cover x.cover:=by
 obtain ⟨p1,q1,rfl,h1,k1⟩:=h
 obtain ⟨rfl,f2⟩:=h1
 obtain ⟨p3,q3,rfl,h3,k3⟩:=k1
 obtain ⟨rfl,f4⟩:=h3
 obtain ⟨p5,q5,rfl,h5,k5⟩:=k3
 obtain ⟨A6,c6,rfl,f6,g6,r6⟩:=h5
 obtain ⟨A7,c7,rfl,f7,g7,r7⟩:=k5
 exact ⟨A6,c6,A7,c7,rfl,f2,f4,f6,g6,r6,f7,g7,r7⟩
theorem Zln {w:World} {D:Nat→Prop} {x:Wire} {A_ins:Option Addr} {c_ins:Nat} {A_cover:Option Addr} {c_cover:Nat} (f0:(x.name).length≤9223372036854775807) (f1:InI x.kind) (f2:(x.ins).length≤c_ins) (f3:c_ins≤9223372036854775807) (f4:RSl Zbr w D A_ins x.ins) (f5:(x.cover).length≤c_cover) (f6:c_cover≤9223372036854775807) (f7:RSl ZB w D A_cover x.cover):Zau.rep w D [.string ⟨(x.name).toArray⟩,.int .i64 x.kind,.slice A_ins (x.ins).length c_ins,.slice A_cover (x.cover).length c_cover] x:=by
 exact ⟨[.string ⟨(x.name).toArray⟩],_,rfl,⟨rfl,f0⟩,⟨[.int .i64 x.kind],_,rfl,⟨rfl,f1⟩,⟨[.slice A_ins (x.ins).length c_ins],_,rfl,⟨_,_,rfl,f2,f3,f4⟩,⟨_,_,rfl,f5,f6,f7⟩⟩⟩⟩
theorem RSl.Wire_at {w:World} {D:Nat→Prop} {A:Option Addr} {l:List Wire} {k:Nat} {x:Wire} (h:RSl Zau w D A l) (hx:l[k]?=some x):
 ∃(b off:Nat) (A_ins:Option Addr) (c_ins:Nat) (A_cover:Option Addr) (c_cover:Nat),A=some ⟨b,off,none⟩∧D b∧w.cell? ⟨b,off+k * 4,none⟩=some (.string ⟨(x.name).toArray⟩)∧w.cell? ⟨b,off+k * 4+1,none⟩=some (.int .i64 x.kind)∧w.cell? ⟨b,off+k * 4+2,none⟩=some (.slice A_ins (x.ins).length c_ins)∧w.cell? ⟨b,off+k * 4+3,none⟩=some (.slice A_cover (x.cover).length c_cover)∧(x.name).length≤9223372036854775807∧InI x.kind∧(x.ins).length≤c_ins∧c_ins≤9223372036854775807∧RSl Zbr w D A_ins x.ins∧(x.cover).length≤c_cover∧c_cover≤9223372036854775807∧RSl ZB w D A_cover x.cover:=by
 obtain ⟨b,off,cs,e,hb,hr,hc⟩:=h.cells_at hx
 obtain ⟨A_ins,c_ins,A_cover,c_cover,rfl,g0,g1,g2,g3,g4,g5,g6,g7⟩:=Zo1 hr
 exact ⟨b,off,A_ins,c_ins,A_cover,c_cover,e,hb,by simpa[Zd2] using hc 0 _ rfl,by simpa[Zd2] using hc 1 _ rfl,by simpa[Zd2] using hc 2 _ rfl,by simpa[Zd2] using hc 3 _ rfl,g0,g1,g2,g3,g4,g5,g6,g7⟩
theorem RA.Wire_at {w wr:World} {A:Option Addr} {l:List Wire} {k:Nat} {x:Wire} (h:RA Zau w A l) (hb:Below w.heap.size w wr) (hx:l[k]?=some x):
 ∃(b off:Nat) (A_ins:Option Addr) (c_ins:Nat) (A_cover:Option Addr) (c_cover:Nat),A=some ⟨b,off,none⟩∧b<wr.heap.size∧wr.cell? ⟨b,off+k * 4,none⟩=some (.string ⟨(x.name).toArray⟩)∧wr.cell? ⟨b,off+k * 4+1,none⟩=some (.int .i64 x.kind)∧wr.cell? ⟨b,off+k * 4+2,none⟩=some (.slice A_ins (x.ins).length c_ins)∧wr.cell? ⟨b,off+k * 4+3,none⟩=some (.slice A_cover (x.cover).length c_cover)∧(x.name).length≤9223372036854775807∧InI x.kind∧(x.ins).length≤c_ins∧c_ins≤9223372036854775807∧RA Zbr wr A_ins x.ins∧(x.cover).length≤c_cover∧c_cover≤9223372036854775807∧RA ZB wr A_cover x.cover:=RSl.Wire_at (h.to hb) hx
structure Nl where
 signals:List Sig
 wires:List Wire
 deriving DecidableEq
def shNl :Sh Nl:=Sh.via (ZS (ZdP Z1) (ZdP Zau)) (fun x=>(x.signals,x.wires))
theorem Zlo :shNl.size=2:=rfl
theorem ZsE {w:World} {D:Nat→Prop} {cs:List Value} {x:Nl} (h:shNl.rep w D cs x):∃(A_signals:Option Addr) (c_signals:Nat) (A_wires:Option Addr) (c_wires:Nat),cs=[.slice A_signals (x.signals).length c_signals,.slice A_wires (x.wires).length c_wires]∧(x.signals).length≤c_signals∧c_signals≤9223372036854775807∧RSl Z1 w D A_signals x.signals∧(x.wires).length≤c_wires∧c_wires≤9223372036854775807∧RSl Zau w D A_wires x.wires:=by
 obtain ⟨p1,q1,rfl,h1,k1⟩:=h
 obtain ⟨A2,c2,rfl,f2,g2,r2⟩:=h1
 obtain ⟨A3,c3,rfl,f3,g3,r3⟩:=k1
 exact ⟨A2,c2,A3,c3,rfl,f2,g2,r2,f3,g3,r3⟩
theorem shNl_mk {w:World} {D:Nat→Prop} {x:Nl} {A_signals:Option Addr} {c_signals:Nat} {A_wires:Option Addr} {c_wires:Nat} (f0:(x.signals).length≤c_signals) (f1:c_signals≤9223372036854775807) (f2:RSl Z1 w D A_signals x.signals) (f3:(x.wires).length≤c_wires) (f4:c_wires≤9223372036854775807) (f5:RSl Zau w D A_wires x.wires):shNl.rep w D [.slice A_signals (x.signals).length c_signals,.slice A_wires (x.wires).length c_wires] x:=by
 exact ⟨[.slice A_signals (x.signals).length c_signals],_,rfl,⟨_,_,rfl,f0,f1,f2⟩,⟨_,_,rfl,f3,f4,f5⟩⟩
theorem RSl.Nl_at {w:World} {D:Nat→Prop} {A:Option Addr} {l:List Nl} {k:Nat} {x:Nl} (h:RSl shNl w D A l) (hx:l[k]?=some x):
 ∃(b off:Nat) (A_signals:Option Addr) (c_signals:Nat) (A_wires:Option Addr) (c_wires:Nat),A=some ⟨b,off,none⟩∧D b∧w.cell? ⟨b,off+k * 2,none⟩=some (.slice A_signals (x.signals).length c_signals)∧w.cell? ⟨b,off+k * 2+1,none⟩=some (.slice A_wires (x.wires).length c_wires)∧(x.signals).length≤c_signals∧c_signals≤9223372036854775807∧RSl Z1 w D A_signals x.signals∧(x.wires).length≤c_wires∧c_wires≤9223372036854775807∧RSl Zau w D A_wires x.wires:=by
 obtain ⟨b,off,cs,e,hb,hr,hc⟩:=h.cells_at hx
 obtain ⟨A_signals,c_signals,A_wires,c_wires,rfl,g0,g1,g2,g3,g4,g5⟩:=ZsE hr
 exact ⟨b,off,A_signals,c_signals,A_wires,c_wires,e,hb,by simpa[Zlo] using hc 0 _ rfl,by simpa[Zlo] using hc 1 _ rfl,g0,g1,g2,g3,g4,g5⟩
theorem RA.Nl_at {w wr:World} {A:Option Addr} {l:List Nl} {k:Nat} {x:Nl} (h:RA shNl w A l) (hb:Below w.heap.size w wr) (hx:l[k]?=some x):
 ∃(b off:Nat) (A_signals:Option Addr) (c_signals:Nat) (A_wires:Option Addr) (c_wires:Nat),A=some ⟨b,off,none⟩∧b<wr.heap.size∧wr.cell? ⟨b,off+k * 2,none⟩=some (.slice A_signals (x.signals).length c_signals)∧wr.cell? ⟨b,off+k * 2+1,none⟩=some (.slice A_wires (x.wires).length c_wires)∧(x.signals).length≤c_signals∧c_signals≤9223372036854775807∧RA Z1 wr A_signals x.signals∧(x.wires).length≤c_wires∧c_wires≤9223372036854775807∧RA Zau wr A_wires x.wires:=RSl.Nl_at (h.to hb) hx
structure Ac where
 from_:Int
 sig:Int
 up:Bool
 to_:Int
 deriving DecidableEq
def ZkL :Sh Ac:=Sh.via (ZS Zam (ZS Zam (ZS Zlz Zam))) (fun x=>(x.from_,(x.sig,(x.up,x.to_))))
theorem Zf0 :ZkL.size=4:=rfl
theorem ZsF {w:World} {D:Nat→Prop} {cs:List Value} {x:Ac} (h:ZkL.rep w D cs x):cs=[.int .i64 x.from_,.int .i64 x.sig,.bool x.up,.int .i64 x.to_]∧InI x.from_∧InI x.sig∧InI x.to_:=by
 obtain ⟨p1,q1,rfl,h1,k1⟩:=h
 obtain ⟨rfl,f2⟩:=h1
 obtain ⟨p3,q3,rfl,h3,k3⟩:=k1
 obtain ⟨rfl,f4⟩:=h3
 obtain ⟨p5,q5,rfl,h5,k5⟩:=k3
 obtain rfl:=h5
 obtain ⟨rfl,f7⟩:=k5
 exact ⟨rfl,f2,f4,f7⟩
theorem shAc_mk {w:World} {D:Nat→Prop} {x:Ac} (f0:InI x.from_) (f1:InI x.sig) (f2:InI x.to_):ZkL.rep w D [.int .i64 x.from_,.int .i64 x.sig,.bool x.up,.int .i64 x.to_] x:=by
 exact ⟨[.int .i64 x.from_],_,rfl,⟨rfl,f0⟩,⟨[.int .i64 x.sig],_,rfl,⟨rfl,f1⟩,⟨[.bool x.up],_,rfl,rfl,⟨rfl,f2⟩⟩⟩⟩
theorem RSl.Ac_at {w:World} {D:Nat→Prop} {A:Option Addr} {l:List Ac} {k:Nat} {x:Ac} (h:RSl ZkL w D A l) (hx:l[k]?=some x):
 ∃(b off:Nat),A=some ⟨b,off,none⟩∧D b∧w.cell? ⟨b,off+k * 4,none⟩=some (.int .i64 x.from_)∧w.cell? ⟨b,off+k * 4+1,none⟩=some (.int .i64 x.sig)∧w.cell? ⟨b,off+k * 4+2,none⟩=some (.bool x.up)∧w.cell? ⟨b,off+k * 4+3,none⟩=some (.int .i64 x.to_)∧InI x.from_∧InI x.sig∧InI x.to_:=by
 obtain ⟨b,off,cs,e,hb,hr,hc⟩:=h.cells_at hx
 obtain ⟨rfl,g0,g1,g2⟩:=ZsF hr
 exact ⟨b,off,e,hb,by simpa[Zf0] using hc 0 _ rfl,by simpa[Zf0] using hc 1 _ rfl,by simpa[Zf0] using hc 2 _ rfl,by simpa[Zf0] using hc 3 _ rfl,g0,g1,g2⟩
theorem RA.Ac_at {w wr:World} {A:Option Addr} {l:List Ac} {k:Nat} {x:Ac} (h:RA ZkL w A l) (hb:Below w.heap.size w wr) (hx:l[k]?=some x):
 ∃(b off:Nat),A=some ⟨b,off,none⟩∧b<wr.heap.size∧wr.cell? ⟨b,off+k * 4,none⟩=some (.int .i64 x.from_)∧wr.cell? ⟨b,off+k * 4+1,none⟩=some (.int .i64 x.sig)∧wr.cell? ⟨b,off+k * 4+2,none⟩=some (.bool x.up)∧wr.cell? ⟨b,off+k * 4+3,none⟩=some (.int .i64 x.to_)∧InI x.from_∧InI x.sig∧InI x.to_:=RSl.Ac_at (h.to hb) hx
structure SGr where
 signals:List Sig
 codes:List (List UInt8)
 arcs:List Ac
 deriving DecidableEq
def ZnE :Sh SGr:=Sh.via (ZS (ZdP Z1) (ZS (ZdP ZB) (ZdP ZkL))) (fun x=>(x.signals,(x.codes,x.arcs)))
theorem ZgF :ZnE.size=3:=rfl
theorem Zq1 {w:World} {D:Nat→Prop} {cs:List Value} {x:SGr} (h:ZnE.rep w D cs x):∃(A_signals:Option Addr) (c_signals:Nat) (A_codes:Option Addr) (c_codes:Nat) (A_arcs:Option Addr) (c_arcs:Nat),cs=[.slice A_signals (x.signals).length c_signals,.slice A_codes (x.codes).length c_codes,.slice A_arcs (x.arcs).length c_arcs]∧(x.signals).length≤c_signals∧c_signals≤9223372036854775807∧RSl Z1 w D A_signals x.signals∧(x.codes).length≤c_codes∧c_codes≤9223372036854775807∧RSl ZB w D A_codes x.codes∧(x.arcs).length≤c_arcs∧c_arcs≤9223372036854775807∧RSl ZkL w D A_arcs x.arcs:=by
 obtain ⟨p1,q1,rfl,h1,k1⟩:=h
 obtain ⟨A2,c2,rfl,f2,g2,r2⟩:=h1
 obtain ⟨p3,q3,rfl,h3,k3⟩:=k1
 obtain ⟨A4,c4,rfl,f4,g4,r4⟩:=h3
 obtain ⟨A5,c5,rfl,f5,g5,r5⟩:=k3
 exact ⟨A2,c2,A4,c4,A5,c5,rfl,f2,g2,r2,f4,g4,r4,f5,g5,r5⟩
theorem shSGr_mk {w:World} {D:Nat→Prop} {x:SGr} {A_signals:Option Addr} {c_signals:Nat} {A_codes:Option Addr} {c_codes:Nat} {A_arcs:Option Addr} {c_arcs:Nat} (f0:(x.signals).length≤c_signals) (f1:c_signals≤9223372036854775807) (f2:RSl Z1 w D A_signals x.signals) (f3:(x.codes).length≤c_codes) (f4:c_codes≤9223372036854775807) (f5:RSl ZB w D A_codes x.codes) (f6:(x.arcs).length≤c_arcs) (f7:c_arcs≤9223372036854775807) (f8:RSl ZkL w D A_arcs x.arcs):ZnE.rep w D [.slice A_signals (x.signals).length c_signals,.slice A_codes (x.codes).length c_codes,.slice A_arcs (x.arcs).length c_arcs] x:=by
 exact ⟨[.slice A_signals (x.signals).length c_signals],_,rfl,⟨_,_,rfl,f0,f1,f2⟩,⟨[.slice A_codes (x.codes).length c_codes],_,rfl,⟨_,_,rfl,f3,f4,f5⟩,⟨_,_,rfl,f6,f7,f8⟩⟩⟩
theorem RSl.SGr_at {w:World} {D:Nat→Prop} {A:Option Addr} {l:List SGr} {k:Nat} {x:SGr} (h:RSl ZnE w D A l) (hx:l[k]?=some x):
 ∃(b off:Nat) (A_signals:Option Addr) (c_signals:Nat) (A_codes:Option Addr) (c_codes:Nat) (A_arcs:Option Addr) (c_arcs:Nat),A=some ⟨b,off,none⟩∧D b∧w.cell? ⟨b,off+k * 3,none⟩=some (.slice A_signals (x.signals).length c_signals)∧w.cell? ⟨b,off+k * 3+1,none⟩=some (.slice A_codes (x.codes).length c_codes)∧w.cell? ⟨b,off+k * 3+2,none⟩=some (.slice A_arcs (x.arcs).length c_arcs)∧(x.signals).length≤c_signals∧c_signals≤9223372036854775807∧RSl Z1 w D A_signals x.signals∧(x.codes).length≤c_codes∧c_codes≤9223372036854775807∧RSl ZB w D A_codes x.codes∧(x.arcs).length≤c_arcs∧c_arcs≤9223372036854775807∧RSl ZkL w D A_arcs x.arcs:=by
 obtain ⟨b,off,cs,e,hb,hr,hc⟩:=h.cells_at hx
 obtain ⟨A_signals,c_signals,A_codes,c_codes,A_arcs,c_arcs,rfl,g0,g1,g2,g3,g4,g5,g6,g7,g8⟩:=Zq1 hr
 exact ⟨b,off,A_signals,c_signals,A_codes,c_codes,A_arcs,c_arcs,e,hb,by simpa[ZgF] using hc 0 _ rfl,by simpa[ZgF] using hc 1 _ rfl,by simpa[ZgF] using hc 2 _ rfl,g0,g1,g2,g3,g4,g5,g6,g7,g8⟩
theorem RA.SGr_at {w wr:World} {A:Option Addr} {l:List SGr} {k:Nat} {x:SGr} (h:RA ZnE w A l) (hb:Below w.heap.size w wr) (hx:l[k]?=some x):
 ∃(b off:Nat) (A_signals:Option Addr) (c_signals:Nat) (A_codes:Option Addr) (c_codes:Nat) (A_arcs:Option Addr) (c_arcs:Nat),A=some ⟨b,off,none⟩∧b<wr.heap.size∧wr.cell? ⟨b,off+k * 3,none⟩=some (.slice A_signals (x.signals).length c_signals)∧wr.cell? ⟨b,off+k * 3+1,none⟩=some (.slice A_codes (x.codes).length c_codes)∧wr.cell? ⟨b,off+k * 3+2,none⟩=some (.slice A_arcs (x.arcs).length c_arcs)∧(x.signals).length≤c_signals∧c_signals≤9223372036854775807∧RA Z1 wr A_signals x.signals∧(x.codes).length≤c_codes∧c_codes≤9223372036854775807∧RA ZB wr A_codes x.codes∧(x.arcs).length≤c_arcs∧c_arcs≤9223372036854775807∧RA ZkL wr A_arcs x.arcs:=RSl.SGr_at (h.to hb) hx
structure SPr where
 state:Int
 values:List UInt8
 deriving DecidableEq
def ZnF :Sh SPr:=Sh.via (ZS Zam ZB) (fun x=>(x.state,x.values))
theorem ZjZ :ZnF.size=2:=rfl
theorem Zq2 {w:World} {D:Nat→Prop} {cs:List Value} {x:SPr} (h:ZnF.rep w D cs x):cs=[.int .i64 x.state,.string ⟨(x.values).toArray⟩]∧InI x.state∧(x.values).length≤9223372036854775807:=by
 obtain ⟨p1,q1,rfl,h1,k1⟩:=h
 obtain ⟨rfl,f2⟩:=h1
 obtain ⟨rfl,f3⟩:=k1
 exact ⟨rfl,f2,f3⟩
theorem shSPr_mk {w:World} {D:Nat→Prop} {x:SPr} (f0:InI x.state) (f1:(x.values).length≤9223372036854775807):ZnF.rep w D [.int .i64 x.state,.string ⟨(x.values).toArray⟩] x:=by
 exact ⟨[.int .i64 x.state],_,rfl,⟨rfl,f0⟩,⟨rfl,f1⟩⟩
theorem RSl.SPr_at {w:World} {D:Nat→Prop} {A:Option Addr} {l:List SPr} {k:Nat} {x:SPr} (h:RSl ZnF w D A l) (hx:l[k]?=some x):
 ∃(b off:Nat),A=some ⟨b,off,none⟩∧D b∧w.cell? ⟨b,off+k * 2,none⟩=some (.int .i64 x.state)∧w.cell? ⟨b,off+k * 2+1,none⟩=some (.string ⟨(x.values).toArray⟩)∧InI x.state∧(x.values).length≤9223372036854775807:=by
 obtain ⟨b,off,cs,e,hb,hr,hc⟩:=h.cells_at hx
 obtain ⟨rfl,g0,g1⟩:=Zq2 hr
 exact ⟨b,off,e,hb,by simpa[ZjZ] using hc 0 _ rfl,by simpa[ZjZ] using hc 1 _ rfl,g0,g1⟩
theorem RA.SPr_at {w wr:World} {A:Option Addr} {l:List SPr} {k:Nat} {x:SPr} (h:RA ZnF w A l) (hb:Below w.heap.size w wr) (hx:l[k]?=some x):
 ∃(b off:Nat),A=some ⟨b,off,none⟩∧b<wr.heap.size∧wr.cell? ⟨b,off+k * 2,none⟩=some (.int .i64 x.state)∧wr.cell? ⟨b,off+k * 2+1,none⟩=some (.string ⟨(x.values).toArray⟩)∧InI x.state∧(x.values).length≤9223372036854775807:=RSl.SPr_at (h.to hb) hx
structure Hzd where
 at_:Int
 wire:Int
 by_:Int
 deriving DecidableEq
def ZnG :Sh Hzd:=Sh.via (ZS Zam (ZS Zam Zam)) (fun x=>(x.at_,(x.wire,x.by_)))
theorem ZgG :ZnG.size=3:=rfl
theorem Zq3 {w:World} {D:Nat→Prop} {cs:List Value} {x:Hzd} (h:ZnG.rep w D cs x):cs=[.int .i64 x.at_,.int .i64 x.wire,.int .i64 x.by_]∧InI x.at_∧InI x.wire∧InI x.by_:=by
 obtain ⟨p1,q1,rfl,h1,k1⟩:=h
 obtain ⟨rfl,f2⟩:=h1
 obtain ⟨p3,q3,rfl,h3,k3⟩:=k1
 obtain ⟨rfl,f4⟩:=h3
 obtain ⟨rfl,f5⟩:=k3
 exact ⟨rfl,f2,f4,f5⟩
theorem shHzd_mk {w:World} {D:Nat→Prop} {x:Hzd} (f0:InI x.at_) (f1:InI x.wire) (f2:InI x.by_):ZnG.rep w D [.int .i64 x.at_,.int .i64 x.wire,.int .i64 x.by_] x:=by
 exact ⟨[.int .i64 x.at_],_,rfl,⟨rfl,f0⟩,⟨[.int .i64 x.wire],_,rfl,⟨rfl,f1⟩,⟨rfl,f2⟩⟩⟩
theorem RSl.Hzd_at {w:World} {D:Nat→Prop} {A:Option Addr} {l:List Hzd} {k:Nat} {x:Hzd} (h:RSl ZnG w D A l) (hx:l[k]?=some x):
 ∃(b off:Nat),A=some ⟨b,off,none⟩∧D b∧w.cell? ⟨b,off+k * 3,none⟩=some (.int .i64 x.at_)∧w.cell? ⟨b,off+k * 3+1,none⟩=some (.int .i64 x.wire)∧w.cell? ⟨b,off+k * 3+2,none⟩=some (.int .i64 x.by_)∧InI x.at_∧InI x.wire∧InI x.by_:=by
 obtain ⟨b,off,cs,e,hb,hr,hc⟩:=h.cells_at hx
 obtain ⟨rfl,g0,g1,g2⟩:=Zq3 hr
 exact ⟨b,off,e,hb,by simpa[ZgG] using hc 0 _ rfl,by simpa[ZgG] using hc 1 _ rfl,by simpa[ZgG] using hc 2 _ rfl,g0,g1,g2⟩
theorem RA.Hzd_at {w wr:World} {A:Option Addr} {l:List Hzd} {k:Nat} {x:Hzd} (h:RA ZnG w A l) (hb:Below w.heap.size w wr) (hx:l[k]?=some x):
 ∃(b off:Nat),A=some ⟨b,off,none⟩∧b<wr.heap.size∧wr.cell? ⟨b,off+k * 3,none⟩=some (.int .i64 x.at_)∧wr.cell? ⟨b,off+k * 3+1,none⟩=some (.int .i64 x.wire)∧wr.cell? ⟨b,off+k * 3+2,none⟩=some (.int .i64 x.by_)∧InI x.at_∧InI x.wire∧InI x.by_:=RSl.Hzd_at (h.to hb) hx
structure Gt where
 sig:Int
 kind:Int
 set:List (List UInt8)
 reset:List (List UInt8)
 deriving DecidableEq
def ZkM :Sh Gt:=Sh.via (ZS Zam (ZS Zam (ZS (ZdP ZB) (ZdP ZB)))) (fun x=>(x.sig,(x.kind,(x.set,x.reset))))
theorem Zf1 :ZkM.size=4:=rfl
theorem ZsG {w:World} {D:Nat→Prop} {cs:List Value} {x:Gt} (h:ZkM.rep w D cs x):∃(A_set:Option Addr) (c_set:Nat) (A_reset:Option Addr) (c_reset:Nat),cs=[.int .i64 x.sig,.int .i64 x.kind,.slice A_set (x.set).length c_set,.slice A_reset (x.reset).length c_reset]∧InI x.sig∧InI x.kind∧(x.set).length≤c_set∧c_set≤9223372036854775807∧RSl ZB w D A_set x.set∧(x.reset).length≤c_reset∧c_reset≤9223372036854775807∧RSl ZB w D A_reset x.reset:=by
 obtain ⟨p1,q1,rfl,h1,k1⟩:=h
 obtain ⟨rfl,f2⟩:=h1
 obtain ⟨p3,q3,rfl,h3,k3⟩:=k1
 obtain ⟨rfl,f4⟩:=h3
 obtain ⟨p5,q5,rfl,h5,k5⟩:=k3
 obtain ⟨A6,c6,rfl,f6,g6,r6⟩:=h5
 obtain ⟨A7,c7,rfl,f7,g7,r7⟩:=k5
 exact ⟨A6,c6,A7,c7,rfl,f2,f4,f6,g6,r6,f7,g7,r7⟩
theorem shGt_mk {w:World} {D:Nat→Prop} {x:Gt} {A_set:Option Addr} {c_set:Nat} {A_reset:Option Addr} {c_reset:Nat} (f0:InI x.sig) (f1:InI x.kind) (f2:(x.set).length≤c_set) (f3:c_set≤9223372036854775807) (f4:RSl ZB w D A_set x.set) (f5:(x.reset).length≤c_reset) (f6:c_reset≤9223372036854775807) (f7:RSl ZB w D A_reset x.reset):ZkM.rep w D [.int .i64 x.sig,.int .i64 x.kind,.slice A_set (x.set).length c_set,.slice A_reset (x.reset).length c_reset] x:=by
 exact ⟨[.int .i64 x.sig],_,rfl,⟨rfl,f0⟩,⟨[.int .i64 x.kind],_,rfl,⟨rfl,f1⟩,⟨[.slice A_set (x.set).length c_set],_,rfl,⟨_,_,rfl,f2,f3,f4⟩,⟨_,_,rfl,f5,f6,f7⟩⟩⟩⟩
theorem RSl.Gt_at {w:World} {D:Nat→Prop} {A:Option Addr} {l:List Gt} {k:Nat} {x:Gt} (h:RSl ZkM w D A l) (hx:l[k]?=some x):
 ∃(b off:Nat) (A_set:Option Addr) (c_set:Nat) (A_reset:Option Addr) (c_reset:Nat),A=some ⟨b,off,none⟩∧D b∧w.cell? ⟨b,off+k * 4,none⟩=some (.int .i64 x.sig)∧w.cell? ⟨b,off+k * 4+1,none⟩=some (.int .i64 x.kind)∧w.cell? ⟨b,off+k * 4+2,none⟩=some (.slice A_set (x.set).length c_set)∧w.cell? ⟨b,off+k * 4+3,none⟩=some (.slice A_reset (x.reset).length c_reset)∧InI x.sig∧InI x.kind∧(x.set).length≤c_set∧c_set≤9223372036854775807∧RSl ZB w D A_set x.set∧(x.reset).length≤c_reset∧c_reset≤9223372036854775807∧RSl ZB w D A_reset x.reset:=by
 obtain ⟨b,off,cs,e,hb,hr,hc⟩:=h.cells_at hx
 obtain ⟨A_set,c_set,A_reset,c_reset,rfl,g0,g1,g2,g3,g4,g5,g6,g7⟩:=ZsG hr
 exact ⟨b,off,A_set,c_set,A_reset,c_reset,e,hb,by simpa[Zf1] using hc 0 _ rfl,by simpa[Zf1] using hc 1 _ rfl,by simpa[Zf1] using hc 2 _ rfl,by simpa[Zf1] using hc 3 _ rfl,g0,g1,g2,g3,g4,g5,g6,g7⟩
theorem RA.Gt_at {w wr:World} {A:Option Addr} {l:List Gt} {k:Nat} {x:Gt} (h:RA ZkM w A l) (hb:Below w.heap.size w wr) (hx:l[k]?=some x):
 ∃(b off:Nat) (A_set:Option Addr) (c_set:Nat) (A_reset:Option Addr) (c_reset:Nat),A=some ⟨b,off,none⟩∧b<wr.heap.size∧wr.cell? ⟨b,off+k * 4,none⟩=some (.int .i64 x.sig)∧wr.cell? ⟨b,off+k * 4+1,none⟩=some (.int .i64 x.kind)∧wr.cell? ⟨b,off+k * 4+2,none⟩=some (.slice A_set (x.set).length c_set)∧wr.cell? ⟨b,off+k * 4+3,none⟩=some (.slice A_reset (x.reset).length c_reset)∧InI x.sig∧InI x.kind∧(x.set).length≤c_set∧c_set≤9223372036854775807∧RA ZB wr A_set x.set∧(x.reset).length≤c_reset∧c_reset≤9223372036854775807∧RA ZB wr A_reset x.reset:=RSl.Gt_at (h.to hb) hx
structure Crc where
 signals:List Sig
 gates:List Gt
 deriving DecidableEq
def ZnH :Sh Crc:=Sh.via (ZS (ZdP Z1) (ZdP ZkM)) (fun x=>(x.signals,x.gates))
theorem Zj0 :ZnH.size=2:=rfl
theorem Zq4 {w:World} {D:Nat→Prop} {cs:List Value} {x:Crc} (h:ZnH.rep w D cs x):∃(A_signals:Option Addr) (c_signals:Nat) (A_gates:Option Addr) (c_gates:Nat),cs=[.slice A_signals (x.signals).length c_signals,.slice A_gates (x.gates).length c_gates]∧(x.signals).length≤c_signals∧c_signals≤9223372036854775807∧RSl Z1 w D A_signals x.signals∧(x.gates).length≤c_gates∧c_gates≤9223372036854775807∧RSl ZkM w D A_gates x.gates:=by
 obtain ⟨p1,q1,rfl,h1,k1⟩:=h
 obtain ⟨A2,c2,rfl,f2,g2,r2⟩:=h1
 obtain ⟨A3,c3,rfl,f3,g3,r3⟩:=k1
 exact ⟨A2,c2,A3,c3,rfl,f2,g2,r2,f3,g3,r3⟩
theorem shCrc_mk {w:World} {D:Nat→Prop} {x:Crc} {A_signals:Option Addr} {c_signals:Nat} {A_gates:Option Addr} {c_gates:Nat} (f0:(x.signals).length≤c_signals) (f1:c_signals≤9223372036854775807) (f2:RSl Z1 w D A_signals x.signals) (f3:(x.gates).length≤c_gates) (f4:c_gates≤9223372036854775807) (f5:RSl ZkM w D A_gates x.gates):ZnH.rep w D [.slice A_signals (x.signals).length c_signals,.slice A_gates (x.gates).length c_gates] x:=by
 exact ⟨[.slice A_signals (x.signals).length c_signals],_,rfl,⟨_,_,rfl,f0,f1,f2⟩,⟨_,_,rfl,f3,f4,f5⟩⟩
theorem RSl.Crc_at {w:World} {D:Nat→Prop} {A:Option Addr} {l:List Crc} {k:Nat} {x:Crc} (h:RSl ZnH w D A l) (hx:l[k]?=some x):
 ∃(b off:Nat) (A_signals:Option Addr) (c_signals:Nat) (A_gates:Option Addr) (c_gates:Nat),A=some ⟨b,off,none⟩∧D b∧w.cell? ⟨b,off+k * 2,none⟩=some (.slice A_signals (x.signals).length c_signals)∧w.cell? ⟨b,off+k * 2+1,none⟩=some (.slice A_gates (x.gates).length c_gates)∧(x.signals).length≤c_signals∧c_signals≤9223372036854775807∧RSl Z1 w D A_signals x.signals∧(x.gates).length≤c_gates∧c_gates≤9223372036854775807∧RSl ZkM w D A_gates x.gates:=by
 obtain ⟨b,off,cs,e,hb,hr,hc⟩:=h.cells_at hx
 obtain ⟨A_signals,c_signals,A_gates,c_gates,rfl,g0,g1,g2,g3,g4,g5⟩:=Zq4 hr
 exact ⟨b,off,A_signals,c_signals,A_gates,c_gates,e,hb,by simpa[Zj0] using hc 0 _ rfl,by simpa[Zj0] using hc 1 _ rfl,g0,g1,g2,g3,g4,g5⟩
theorem RA.Crc_at {w wr:World} {A:Option Addr} {l:List Crc} {k:Nat} {x:Crc} (h:RA ZnH w A l) (hb:Below w.heap.size w wr) (hx:l[k]?=some x):
 ∃(b off:Nat) (A_signals:Option Addr) (c_signals:Nat) (A_gates:Option Addr) (c_gates:Nat),A=some ⟨b,off,none⟩∧b<wr.heap.size∧wr.cell? ⟨b,off+k * 2,none⟩=some (.slice A_signals (x.signals).length c_signals)∧wr.cell? ⟨b,off+k * 2+1,none⟩=some (.slice A_gates (x.gates).length c_gates)∧(x.signals).length≤c_signals∧c_signals≤9223372036854775807∧RA Z1 wr A_signals x.signals∧(x.gates).length≤c_gates∧c_gates≤9223372036854775807∧RA ZkM wr A_gates x.gates:=RSl.Crc_at (h.to hb) hx
structure RCv where
 sig:Int
 up:Bool
 cubes:List (List UInt8)
 deriving DecidableEq
def ZnI :Sh RCv:=Sh.via (ZS Zam (ZS Zlz (ZdP ZB))) (fun x=>(x.sig,(x.up,x.cubes)))
theorem ZgH :ZnI.size=3:=rfl
theorem Zq5 {w:World} {D:Nat→Prop} {cs:List Value} {x:RCv} (h:ZnI.rep w D cs x):∃(A_cubes:Option Addr) (c_cubes:Nat),cs=[.int .i64 x.sig,.bool x.up,.slice A_cubes (x.cubes).length c_cubes]∧InI x.sig∧(x.cubes).length≤c_cubes∧c_cubes≤9223372036854775807∧RSl ZB w D A_cubes x.cubes:=by
 obtain ⟨p1,q1,rfl,h1,k1⟩:=h
 obtain ⟨rfl,f2⟩:=h1
 obtain ⟨p3,q3,rfl,h3,k3⟩:=k1
 obtain rfl:=h3
 obtain ⟨A5,c5,rfl,f5,g5,r5⟩:=k3
 exact ⟨A5,c5,rfl,f2,f5,g5,r5⟩
theorem shRCv_mk {w:World} {D:Nat→Prop} {x:RCv} {A_cubes:Option Addr} {c_cubes:Nat} (f0:InI x.sig) (f1:(x.cubes).length≤c_cubes) (f2:c_cubes≤9223372036854775807) (f3:RSl ZB w D A_cubes x.cubes):ZnI.rep w D [.int .i64 x.sig,.bool x.up,.slice A_cubes (x.cubes).length c_cubes] x:=by
 exact ⟨[.int .i64 x.sig],_,rfl,⟨rfl,f0⟩,⟨[.bool x.up],_,rfl,rfl,⟨_,_,rfl,f1,f2,f3⟩⟩⟩
theorem RSl.RCv_at {w:World} {D:Nat→Prop} {A:Option Addr} {l:List RCv} {k:Nat} {x:RCv} (h:RSl ZnI w D A l) (hx:l[k]?=some x):
 ∃(b off:Nat) (A_cubes:Option Addr) (c_cubes:Nat),A=some ⟨b,off,none⟩∧D b∧w.cell? ⟨b,off+k * 3,none⟩=some (.int .i64 x.sig)∧w.cell? ⟨b,off+k * 3+1,none⟩=some (.bool x.up)∧w.cell? ⟨b,off+k * 3+2,none⟩=some (.slice A_cubes (x.cubes).length c_cubes)∧InI x.sig∧(x.cubes).length≤c_cubes∧c_cubes≤9223372036854775807∧RSl ZB w D A_cubes x.cubes:=by
 obtain ⟨b,off,cs,e,hb,hr,hc⟩:=h.cells_at hx
 obtain ⟨A_cubes,c_cubes,rfl,g0,g1,g2,g3⟩:=Zq5 hr
 exact ⟨b,off,A_cubes,c_cubes,e,hb,by simpa[ZgH] using hc 0 _ rfl,by simpa[ZgH] using hc 1 _ rfl,by simpa[ZgH] using hc 2 _ rfl,g0,g1,g2,g3⟩
theorem RA.RCv_at {w wr:World} {A:Option Addr} {l:List RCv} {k:Nat} {x:RCv} (h:RA ZnI w A l) (hb:Below w.heap.size w wr) (hx:l[k]?=some x):
 ∃(b off:Nat) (A_cubes:Option Addr) (c_cubes:Nat),A=some ⟨b,off,none⟩∧b<wr.heap.size∧wr.cell? ⟨b,off+k * 3,none⟩=some (.int .i64 x.sig)∧wr.cell? ⟨b,off+k * 3+1,none⟩=some (.bool x.up)∧wr.cell? ⟨b,off+k * 3+2,none⟩=some (.slice A_cubes (x.cubes).length c_cubes)∧InI x.sig∧(x.cubes).length≤c_cubes∧c_cubes≤9223372036854775807∧RA ZB wr A_cubes x.cubes:=RSl.RCv_at (h.to hb) hx
end Go.Proofs.YtjjobbamoeaogaaDoor
