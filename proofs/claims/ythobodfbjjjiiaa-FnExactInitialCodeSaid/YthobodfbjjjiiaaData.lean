import Derived.Test.YthobodfbjjjiiaaBase
namespace Go.Proofs.Ythobodfbjjjiiaa
open Go.RowKit
set_option linter.unusedVariables false
structure TF where
 at_:Int
 t:Int
 deriving DecidableEq
structure Tr where
 pre:List (Int)
 post:List (Int)
 deriving DecidableEq
def shTr :Sh Tr:=Sh.via (Zbf (Zg8 Ze8) (Zg8 Ze8)) (fun x=>(x.pre,x.post))
structure Net where
 places:Int
 trans:List Tr
 deriving DecidableEq
def shNet :Sh Net:=Sh.via (Zbf Ze8 (Zg8 shTr)) (fun x=>(x.places,x.trans))
structure PSt where
 state:Int
 values:List UInt8
 deriving DecidableEq
structure Flip where
 from_:Int
 wire:Int
 to:Int
 deriving DecidableEq
structure ProdG where
 states:List PSt
 flips:List Flip
 extra:List Flip
 deriving DecidableEq
structure Sig where
 name:List UInt8
 kind:Int
 deriving DecidableEq
def shSig :Sh Sig:=Sh.via (Zbf Zjr Ze8) (fun x=>(x.name,x.kind))
structure Lab where
 sig:Int
 up:Bool
 deriving DecidableEq
def shLab :Sh Lab:=Sh.via (Zbf Ze8 Zl8) (fun x=>(x.sig,x.up))
structure STG where
 net:Net
 signals:List Sig
 labels:List Lab
 start:List UInt8
 deriving DecidableEq
def shSTG :Sh STG:=Sh.via (Zbf shNet (Zbf (Zg8 shSig) (Zbf (Zg8 shLab) Zjr))) (fun x=>(x.net,(x.signals,(x.labels,x.start))))
structure Dl where
 low:Int
 high:Int
 deriving DecidableEq
structure Mv where
 from_:Int
 by_:Int
 to:Int
 deriving DecidableEq
structure RG where
 marks:List (List UInt8)
 moves:List Mv
 deriving DecidableEq
structure Pin where
 at_:Int
 not_:Bool
 deriving DecidableEq
structure Wire where
 name:List UInt8
 kind:Int
 ins:List Pin
 cover:List (List UInt8)
 deriving DecidableEq
structure Ac where
 from_:Int
 sig:Int
 up:Bool
 to_:Int
 deriving DecidableEq
structure SGr where
 signals:List Sig
 codes:List (List UInt8)
 arcs:List Ac
 deriving DecidableEq
end Go.Proofs.Ythobodfbjjjiiaa
