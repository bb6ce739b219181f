import Derived.Test.YthobodfbjjjiiaaBase
namespace Go.Proofs.Ythobodfbjjjiiaa
open Go.RowKit
set_option linter.unusedVariables false
structure TF where
 at_:Int
 t:Int
 deriving DecidableEq
structure Tr where
 pre:List (Int)
 post:List (Int)
 deriving DecidableEq
def ZrX :Sh Tr:=Sh.via (Zbf (Zg8 Ze8) (Zg8 Ze8)) (fun x=>(x.pre,x.post))
theorem ZtU :ZrX.size=2:=rfl
theorem Zuy {w:World} {D:Nat→Prop} {cs:List Value} {x:Tr} (h:ZrX.rep w D cs x):∃(A_pre:Option Addr) (c_pre:Nat) (A_post:Option Addr) (c_post:Nat),cs=[.slice A_pre (x.pre).length c_pre,.slice A_post (x.post).length c_post]∧(x.pre).length≤c_pre∧c_pre≤9223372036854775807∧RSl Ze8 w D A_pre x.pre∧(x.post).length≤c_post∧c_post≤9223372036854775807∧RSl Ze8 w D A_post x.post:=by
 obtain ⟨p1,q1,rfl,h1,k1⟩:=h
 obtain ⟨A2,c2,rfl,f2,g2,r2⟩:=h1
 obtain ⟨A3,c3,rfl,f3,g3,r3⟩:=k1
 exact ⟨A2,c2,A3,c3,rfl,f2,g2,r2,f3,g3,r3⟩
theorem ZuN {w:World} {D:Nat→Prop} {x:Tr} {A_pre:Option Addr} {c_pre:Nat} {A_post:Option Addr} {c_post:Nat} (f0:(x.pre).length≤c_pre) (f1:c_pre≤9223372036854775807) (f2:RSl Ze8 w D A_pre x.pre) (f3:(x.post).length≤c_post) (f4:c_post≤9223372036854775807) (f5:RSl Ze8 w D A_post x.post):ZrX.rep w D [.slice A_pre (x.pre).length c_pre,.slice A_post (x.post).length c_post] x:=by
 exact ⟨[.slice A_pre (x.pre).length c_pre],_,rfl,⟨_,_,rfl,f0,f1,f2⟩,⟨_,_,rfl,f3,f4,f5⟩⟩
theorem RSl.Tr_at {w:World} {D:Nat→Prop} {A:Option Addr} {l:List Tr} {k:Nat} {x:Tr} (h:RSl ZrX w D A l) (hx:l[k]?=some x):
 ∃(b off:Nat) (A_pre:Option Addr) (c_pre:Nat) (A_post:Option Addr) (c_post:Nat),A=some ⟨b,off,none⟩∧D b∧w.cell? ⟨b,off+k * 2,none⟩=some (.slice A_pre (x.pre).length c_pre)∧w.cell? ⟨b,off+k * 2+1,none⟩=some (.slice A_post (x.post).length c_post)∧(x.pre).length≤c_pre∧c_pre≤9223372036854775807∧RSl Ze8 w D A_pre x.pre∧(x.post).length≤c_post∧c_post≤9223372036854775807∧RSl Ze8 w D A_post x.post:=by
 obtain ⟨b,off,cs,e,hb,hr,hc⟩:=h.cells_at hx
 obtain ⟨A_pre,c_pre,A_post,c_post,rfl,g0,g1,g2,g3,g4,g5⟩:=Zuy hr
 exact ⟨b,off,A_pre,c_pre,A_post,c_post,e,hb,by simpa[ZtU] using hc 0 _ rfl,by simpa[ZtU] using hc 1 _ rfl,g0,g1,g2,g3,g4,g5⟩
theorem RA.Tr_at {w wr:World} {A:Option Addr} {l:List Tr} {k:Nat} {x:Tr} (h:RA ZrX w A l) (hb:Below w.heap.size w wr) (hx:l[k]?=some x):
 ∃(b off:Nat) (A_pre:Option Addr) (c_pre:Nat) (A_post:Option Addr) (c_post:Nat),A=some ⟨b,off,none⟩∧b<wr.heap.size∧wr.cell? ⟨b,off+k * 2,none⟩=some (.slice A_pre (x.pre).length c_pre)∧wr.cell? ⟨b,off+k * 2+1,none⟩=some (.slice A_post (x.post).length c_post)∧(x.pre).length≤c_pre∧c_pre≤9223372036854775807∧RA Ze8 wr A_pre x.pre∧(x.post).length≤c_post∧c_post≤9223372036854775807∧RA Ze8 wr A_post x.post:=RSl.Tr_at (h.to hb) hx
structure Net where
 places:Int
 trans:List Tr
 deriving DecidableEq
def Zuc :Sh Net:=Sh.via (Zbf Ze8 (Zg8 ZrX)) (fun x=>(x.places,x.trans))
structure PSt where
 state:Int
 values:List UInt8
 deriving DecidableEq
structure Flip where
 from_:Int
 wire:Int
 to:Int
 deriving DecidableEq
structure ProdG where
 states:List PSt
 flips:List Flip
 extra:List Flip
 deriving DecidableEq
structure Sig where
 name:List UInt8
 kind:Int
 deriving DecidableEq
def Zrj :Sh Sig:=Sh.via (Zbf Zjr Ze8) (fun x=>(x.name,x.kind))
theorem ZsR :Zrj.size=2:=rfl
theorem Zum {w:World} {D:Nat→Prop} {cs:List Value} {x:Sig} (h:Zrj.rep w D cs x):cs=[.string ⟨(x.name).toArray⟩,.int .i64 x.kind]∧(x.name).length≤9223372036854775807∧InI x.kind:=by
 obtain ⟨p1,q1,rfl,h1,k1⟩:=h
 obtain ⟨rfl,f2⟩:=h1
 obtain ⟨rfl,f3⟩:=k1
 exact ⟨rfl,f2,f3⟩
theorem Zt5 {w:World} {D:Nat→Prop} {x:Sig} (f0:(x.name).length≤9223372036854775807) (f1:InI x.kind):Zrj.rep w D [.string ⟨(x.name).toArray⟩,.int .i64 x.kind] x:=by
 exact ⟨[.string ⟨(x.name).toArray⟩],_,rfl,⟨rfl,f0⟩,⟨rfl,f1⟩⟩
theorem RSl.Sig_at {w:World} {D:Nat→Prop} {A:Option Addr} {l:List Sig} {k:Nat} {x:Sig} (h:RSl Zrj w D A l) (hx:l[k]?=some x):
 ∃(b off:Nat),A=some ⟨b,off,none⟩∧D b∧w.cell? ⟨b,off+k * 2,none⟩=some (.string ⟨(x.name).toArray⟩)∧w.cell? ⟨b,off+k * 2+1,none⟩=some (.int .i64 x.kind)∧(x.name).length≤9223372036854775807∧InI x.kind:=by
 obtain ⟨b,off,cs,e,hb,hr,hc⟩:=h.cells_at hx
 obtain ⟨rfl,g0,g1⟩:=Zum hr
 exact ⟨b,off,e,hb,by simpa[ZsR] using hc 0 _ rfl,by simpa[ZsR] using hc 1 _ rfl,g0,g1⟩
theorem RA.Sig_at {w wr:World} {A:Option Addr} {l:List Sig} {k:Nat} {x:Sig} (h:RA Zrj w A l) (hb:Below w.heap.size w wr) (hx:l[k]?=some x):
 ∃(b off:Nat),A=some ⟨b,off,none⟩∧b<wr.heap.size∧wr.cell? ⟨b,off+k * 2,none⟩=some (.string ⟨(x.name).toArray⟩)∧wr.cell? ⟨b,off+k * 2+1,none⟩=some (.int .i64 x.kind)∧(x.name).length≤9223372036854775807∧InI x.kind:=RSl.Sig_at (h.to hb) hx
structure Lab where
 sig:Int
 up:Bool
 deriving DecidableEq
def ZrG :Sh Lab:=Sh.via (Zbf Ze8 Zl8) (fun x=>(x.sig,x.up))
theorem ZtM :ZrG.size=2:=rfl
theorem Zun {w:World} {D:Nat→Prop} {cs:List Value} {x:Lab} (h:ZrG.rep w D cs x):cs=[.int .i64 x.sig,.bool x.up]∧InI x.sig:=by
 obtain ⟨p1,q1,rfl,h1,k1⟩:=h
 obtain ⟨rfl,f2⟩:=h1
 obtain rfl:=k1
 exact ⟨rfl,f2⟩
theorem Zuz {w:World} {D:Nat→Prop} {x:Lab} (f0:InI x.sig):ZrG.rep w D [.int .i64 x.sig,.bool x.up] x:=by
 exact ⟨[.int .i64 x.sig],_,rfl,⟨rfl,f0⟩,rfl⟩
theorem RSl.Lab_at {w:World} {D:Nat→Prop} {A:Option Addr} {l:List Lab} {k:Nat} {x:Lab} (h:RSl ZrG w D A l) (hx:l[k]?=some x):
 ∃(b off:Nat),A=some ⟨b,off,none⟩∧D b∧w.cell? ⟨b,off+k * 2,none⟩=some (.int .i64 x.sig)∧w.cell? ⟨b,off+k * 2+1,none⟩=some (.bool x.up)∧InI x.sig:=by
 obtain ⟨b,off,cs,e,hb,hr,hc⟩:=h.cells_at hx
 obtain ⟨rfl,g0⟩:=Zun hr
 exact ⟨b,off,e,hb,by simpa[ZtM] using hc 0 _ rfl,by simpa[ZtM] using hc 1 _ rfl,g0⟩
theorem RA.Lab_at {w wr:World} {A:Option Addr} {l:List Lab} {k:Nat} {x:Lab} (h:RA ZrG w A l) (hb:Below w.heap.size w wr) (hx:l[k]?=some x):
 ∃(b off:Nat),A=some ⟨b,off,none⟩∧b<wr.heap.size∧wr.cell? ⟨b,off+k * 2,none⟩=some (.int .i64 x.sig)∧wr.cell? ⟨b,off+k * 2+1,none⟩=some (.bool x.up)∧InI x.sig:=RSl.Lab_at (h.to hb) hx
structure STG where
 net:Net
 signals:List Sig
 labels:List Lab
 start:List UInt8
 deriving DecidableEq
def Zt6 :Sh STG:=Sh.via (Zbf Zuc (Zbf (Zg8 Zrj) (Zbf (Zg8 ZrG) Zjr))) (fun x=>(x.net,(x.signals,(x.labels,x.start))))
theorem Zuo {w:World} {D:Nat→Prop} {cs:List Value} {x:STG} (h:Zt6.rep w D cs x):∃(A_net_trans:Option Addr) (c_net_trans:Nat) (A_signals:Option Addr) (c_signals:Nat) (A_labels:Option Addr) (c_labels:Nat),cs=[.int .i64 x.net.places,.slice A_net_trans (x.net.trans).length c_net_trans,.slice A_signals (x.signals).length c_signals,.slice A_labels (x.labels).length c_labels,.string ⟨(x.start).toArray⟩]∧InI x.net.places∧(x.net.trans).length≤c_net_trans∧c_net_trans≤9223372036854775807∧RSl ZrX w D A_net_trans x.net.trans∧(x.signals).length≤c_signals∧c_signals≤9223372036854775807∧RSl Zrj w D A_signals x.signals∧(x.labels).length≤c_labels∧c_labels≤9223372036854775807∧RSl ZrG w D A_labels x.labels∧(x.start).length≤9223372036854775807:=by
 obtain ⟨p1,q1,rfl,h1,k1⟩:=h
 obtain ⟨p3,q3,rfl,h3,k3⟩:=h1
 obtain ⟨rfl,f4⟩:=h3
 obtain ⟨A5,c5,rfl,f5,g5,r5⟩:=k3
 obtain ⟨p6,q6,rfl,h6,k6⟩:=k1
 obtain ⟨A7,c7,rfl,f7,g7,r7⟩:=h6
 obtain ⟨p8,q8,rfl,h8,k8⟩:=k6
 obtain ⟨A9,c9,rfl,f9,g9,r9⟩:=h8
 obtain ⟨rfl,f10⟩:=k8
 exact ⟨A5,c5,A7,c7,A9,c9,rfl,f4,f5,g5,r5,f7,g7,r7,f9,g9,r9,f10⟩
theorem Zt7 {w:World} {D:Nat→Prop} {x:STG} {A_net_trans:Option Addr} {c_net_trans:Nat} {A_signals:Option Addr} {c_signals:Nat} {A_labels:Option Addr} {c_labels:Nat} (f0:InI x.net.places) (f1:(x.net.trans).length≤c_net_trans) (f2:c_net_trans≤9223372036854775807) (f3:RSl ZrX w D A_net_trans x.net.trans) (f4:(x.signals).length≤c_signals) (f5:c_signals≤9223372036854775807) (f6:RSl Zrj w D A_signals x.signals) (f7:(x.labels).length≤c_labels) (f8:c_labels≤9223372036854775807) (f9:RSl ZrG w D A_labels x.labels) (f10:(x.start).length≤9223372036854775807):Zt6.rep w D [.int .i64 x.net.places,.slice A_net_trans (x.net.trans).length c_net_trans,.slice A_signals (x.signals).length c_signals,.slice A_labels (x.labels).length c_labels,.string ⟨(x.start).toArray⟩] x:=by
 exact ⟨[.int .i64 x.net.places,.slice A_net_trans (x.net.trans).length c_net_trans],_,rfl,⟨[.int .i64 x.net.places],_,rfl,⟨rfl,f0⟩,⟨_,_,rfl,f1,f2,f3⟩⟩,⟨[.slice A_signals (x.signals).length c_signals],_,rfl,⟨_,_,rfl,f4,f5,f6⟩,⟨[.slice A_labels (x.labels).length c_labels],_,rfl,⟨_,_,rfl,f7,f8,f9⟩,⟨rfl,f10⟩⟩⟩⟩
structure Dl where
 low:Int
 high:Int
 deriving DecidableEq
structure Mv where
 from_:Int
 by_:Int
 to:Int
 deriving DecidableEq
structure RG where
 marks:List (List UInt8)
 moves:List Mv
 deriving DecidableEq
structure Pin where
 at_:Int
 not_:Bool
 deriving DecidableEq
structure Wire where
 name:List UInt8
 kind:Int
 ins:List Pin
 cover:List (List UInt8)
 deriving DecidableEq
structure Ac where
 from_:Int
 sig:Int
 up:Bool
 to_:Int
 deriving DecidableEq
def Zts :Sh Ac:=Sh.via (Zbf Ze8 (Zbf Ze8 (Zbf Zl8 Ze8))) (fun x=>(x.from_,(x.sig,(x.up,x.to_))))
theorem Ztu :Zts.size=4:=rfl
theorem ZuA {w:World} {D:Nat→Prop} {cs:List Value} {x:Ac} (h:Zts.rep w D cs x):cs=[.int .i64 x.from_,.int .i64 x.sig,.bool x.up,.int .i64 x.to_]∧InI x.from_∧InI x.sig∧InI x.to_:=by
 obtain ⟨p1,q1,rfl,h1,k1⟩:=h
 obtain ⟨rfl,f2⟩:=h1
 obtain ⟨p3,q3,rfl,h3,k3⟩:=k1
 obtain ⟨rfl,f4⟩:=h3
 obtain ⟨p5,q5,rfl,h5,k5⟩:=k3
 obtain rfl:=h5
 obtain ⟨rfl,f7⟩:=k5
 exact ⟨rfl,f2,f4,f7⟩
theorem ZuO {w:World} {D:Nat→Prop} {x:Ac} (f0:InI x.from_) (f1:InI x.sig) (f2:InI x.to_):Zts.rep w D [.int .i64 x.from_,.int .i64 x.sig,.bool x.up,.int .i64 x.to_] x:=by
 exact ⟨[.int .i64 x.from_],_,rfl,⟨rfl,f0⟩,⟨[.int .i64 x.sig],_,rfl,⟨rfl,f1⟩,⟨[.bool x.up],_,rfl,rfl,⟨rfl,f2⟩⟩⟩⟩
theorem RSl.Ac_at {w:World} {D:Nat→Prop} {A:Option Addr} {l:List Ac} {k:Nat} {x:Ac} (h:RSl Zts w D A l) (hx:l[k]?=some x):
 ∃(b off:Nat),A=some ⟨b,off,none⟩∧D b∧w.cell? ⟨b,off+k * 4,none⟩=some (.int .i64 x.from_)∧w.cell? ⟨b,off+k * 4+1,none⟩=some (.int .i64 x.sig)∧w.cell? ⟨b,off+k * 4+2,none⟩=some (.bool x.up)∧w.cell? ⟨b,off+k * 4+3,none⟩=some (.int .i64 x.to_)∧InI x.from_∧InI x.sig∧InI x.to_:=by
 obtain ⟨b,off,cs,e,hb,hr,hc⟩:=h.cells_at hx
 obtain ⟨rfl,g0,g1,g2⟩:=ZuA hr
 exact ⟨b,off,e,hb,by simpa[Ztu] using hc 0 _ rfl,by simpa[Ztu] using hc 1 _ rfl,by simpa[Ztu] using hc 2 _ rfl,by simpa[Ztu] using hc 3 _ rfl,g0,g1,g2⟩
theorem RA.Ac_at {w wr:World} {A:Option Addr} {l:List Ac} {k:Nat} {x:Ac} (h:RA Zts w A l) (hb:Below w.heap.size w wr) (hx:l[k]?=some x):
 ∃(b off:Nat),A=some ⟨b,off,none⟩∧b<wr.heap.size∧wr.cell? ⟨b,off+k * 4,none⟩=some (.int .i64 x.from_)∧wr.cell? ⟨b,off+k * 4+1,none⟩=some (.int .i64 x.sig)∧wr.cell? ⟨b,off+k * 4+2,none⟩=some (.bool x.up)∧wr.cell? ⟨b,off+k * 4+3,none⟩=some (.int .i64 x.to_)∧InI x.from_∧InI x.sig∧InI x.to_:=RSl.Ac_at (h.to hb) hx
structure SGr where
 signals:List Sig
 codes:List (List UInt8)
 arcs:List Ac
 deriving DecidableEq
end Go.Proofs.Ythobodfbjjjiiaa
