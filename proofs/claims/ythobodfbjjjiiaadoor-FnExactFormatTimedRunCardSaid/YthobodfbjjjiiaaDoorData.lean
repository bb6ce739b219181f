import Derived.Test.YthobodfbjjjiiaaDoorBase
namespace Go.Proofs.YthobodfbjjjiiaaDoor
open Go.RowKit
set_option linter.unusedVariables false
structure TF where
 at_:Int
 t:Int
 deriving DecidableEq
structure Tr where
 pre:List (Int)
 post:List (Int)
 deriving DecidableEq
structure Net where
 places:Int
 trans:List Tr
 deriving DecidableEq
structure PSt where
 state:Int
 values:List UInt8
 deriving DecidableEq
structure Flip where
 from_:Int
 wire:Int
 to:Int
 deriving DecidableEq
structure ProdG where
 states:List PSt
 flips:List Flip
 extra:List Flip
 deriving DecidableEq
structure Sig where
 name:List UInt8
 kind:Int
 deriving DecidableEq
structure Lab where
 sig:Int
 up:Bool
 deriving DecidableEq
structure STG where
 net:Net
 signals:List Sig
 labels:List Lab
 start:List UInt8
 deriving DecidableEq
structure Dl where
 low:Int
 high:Int
 deriving DecidableEq
structure Mv where
 from_:Int
 by_:Int
 to:Int
 deriving DecidableEq
structure RG where
 marks:List (List UInt8)
 moves:List Mv
 deriving DecidableEq
structure Pin where
 at_:Int
 not_:Bool
 deriving DecidableEq
structure Wire where
 name:List UInt8
 kind:Int
 ins:List Pin
 cover:List (List UInt8)
 deriving DecidableEq
structure Ac where
 from_:Int
 sig:Int
 up:Bool
 to_:Int
 deriving DecidableEq
structure SGr where
 signals:List Sig
 codes:List (List UInt8)
 arcs:List Ac
 deriving DecidableEq
end Go.Proofs.YthobodfbjjjiiaaDoor
