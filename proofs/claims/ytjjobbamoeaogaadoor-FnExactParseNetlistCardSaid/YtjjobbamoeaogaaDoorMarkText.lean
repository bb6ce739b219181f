import Derived.Test.YtjjobbamoeaogaaDoorRows
import Derived.Test.YtjjobbamoeaogaaDoorMark
namespace Go.Proofs.YtjjobbamoeaogaaDoor
open Go.RowKit
set_option linter.unusedVariables false
theorem Zlh (a b:List UInt8):(⟨a.toArray⟩:ByteArray)++⟨b.toArray⟩=⟨(a++b).toArray⟩:=ByteArray.ext (by rw[ByteArray.data_append];simp)
set_option maxHeartbeats 1000000 in
theorem Zss (k : Nat) (w : World) (hk:k≤4611686018427387904):
 Calls Tryd.prog 39 #[.int .i64 k] w fun e w'=>e=.returned (.string ⟨(Zdg k).toArray⟩)∧Below w.heap.size w w':=by
 by_cases h0:k=0
 ·have q0:decide (k=0)=true:=by simp;omega
  have H0:=Za2 h0;clear h0
  go_enter Tryd.func39,Tryd.ntmps39
  go_wp2_with fail
  go_ret
  exact ⟨by simp[Zdg,H0.out],by (repeat' (first|(with_reducible first|exact Below.refl _ _|assumption|refine ZW ?_ _|refine Below.drew ?_|refine Below.alloc ?_ ?_ _|refine Below.setCell ?_ ?_ _|refine Below.then_ ?_ (by assumption) ?_)|go_size))⟩
 ·have q0 : decide (k = 0) = false :=by simp;omega
  obtain ⟨R,hR⟩:∃R,ZkJ 20 k []=R:=⟨_,rfl⟩
  have HR:=Za2 hR;clear hR
  have HT:Hid (Zdg k=109::R):=by show _=_;rw[←HR.out];simp[Zdg,h0]
  have HP : Hid (k < 10 ^ 20) := by show k<_;have:(10:Nat) ^ 20=100000000000000000000:=by decide
                                    omega
  clear h0
  go_enter Tryd.func39,Tryd.ntmps39
  go_wp2_with fail
  clear q0
  go_loopw [0,3] (fun kv sv wr=>∃(f j:Nat) (acc:List UInt8),kv=.int .i64 j∧sv=.string ⟨acc.toArray⟩∧j≤k∧acc.length+f=20∧Hid (ZkJ f j acc=R)∧Hid (j<10 ^ f)∧Below w.heap.size w wr) (fun kv _ _=>(intOf kv).toNat)
  case atStart=>exact ⟨20,k,[],rfl,rfl,Nat.le_refl _,rfl,HR,HP,Below.refl _ _⟩
  case round=>
   clear HR HP
   obtain ⟨f,j,acc,rfl,rfl,hjk,hlen,hgo,hp,hb⟩:=hrel
   have hsz:=hb.size
   by_cases hj:j=0
   ·have HA:Hid (acc=R):=by
     show _=_
     rw[←hgo.out,hj]
     cases f<;>simp[ZkJ]
    have q1:decide (0<j)=false:=by simp;omega
    clear hj hgo
    go_wp2_with fail
    go_ret
    exact ⟨by rw[HT.out,←HA.out,Zlh];rfl,by (repeat' (first|(with_reducible first|exact Below.refl _ _|assumption|refine ZW ?_ _|refine Below.drew ?_|refine Below.alloc ?_ ?_ _|refine Below.setCell ?_ ?_ _|refine Below.then_ ?_ (by assumption) ?_)|go_size))⟩
   ·cases f with
    | zero=>
     have:=hp.out
     simp at this
     omega
    | succ f=>
     have q1:decide (0<j)=true:=by simp;omega
     obtain ⟨d,hd⟩:∃d,UInt8.ofNat (48+j % 10)=d:=⟨_,rfl⟩
     have hdn:(d.toNat:Int)=48+(j:Int) % 10:=by rw[←hd];simp;omega
     have HG2:Hid (ZkJ f (j / 10) (d::acc)=R):=by
      show _=_
      have h:=hgo.out
      unfold ZkJ at h
      rw[if_neg hj,hd] at h
      exact h
     have HP2:Hid (j / 10<10 ^ f):=by
      have h:=hp.out
      rw[Nat.pow_succ] at h
      show j / 10<10 ^ f
      omega
     have HD:=Za2 hd;clear hd
     have HDN:=Za2 hdn;clear hdn
     have hcb:(convert 78 9 (.slice (some ⟨wr.heap.size,0,none⟩) 1 1)).run Tryd.prog (wr.alloc (.cells #[.int .u8 (48+(j:Int) % 10)] 5))=.ok (.string ⟨[d].toArray⟩) (wr.alloc (.cells #[.int .u8 (48+(j:Int) % 10)] 5)):=
      run_convert_bytes_back _ 78 9 5 ⟨wr.heap.size,0,none⟩ 1 [d] Tryd.underlying78 Tryd.underlying5 Tryd.underlying9 (fun i hi=>by
       have:i=0:=by simp at hi;omega
       subst this
       rw[←HDN.out]
       simp[go_sem,Addr.add])
     have hca:(⟨[d].toArray⟩:ByteArray)++⟨acc.toArray⟩=⟨(d::acc).toArray⟩:=Zlh [d] acc
     clear hgo hp
     set_option maxRecDepth 4000 in
     go_wp2_with fail
     go_roundw
     case rel=>exact ⟨f,j / 10,d::acc,by go_num,by first|rfl|rw[hca],by omega,by simp;omega,HG2,HP2,by (repeat' (first|(with_reducible first|exact Below.refl _ _|assumption|refine ZW ?_ _|refine Below.drew ?_|refine Below.alloc ?_ ?_ _|refine Below.setCell ?_ ?_ _|refine Below.then_ ?_ (by assumption) ?_)|go_size))⟩
     case measure=>simp[intOf];omega
theorem Zds (k:Int) (w:World) (h0:0≤k) (hk:k≤4611686018427387904):
 Calls Tryd.prog 39 #[.int .i64 k] w fun e w'=>e=.returned (.string ⟨(Zdg k.toNat).toArray⟩)∧Below w.heap.size w w':=by
 obtain ⟨n,rfl⟩:=Int.eq_ofNat_of_zero_le h0
 exact Zss n w (by omega)
theorem wtL_cons {α:Type} (f:α→Nat) (x:α) (r:List α):wtL f (x::r)=1+f x+wtL f r:=by simp[wtL];omega
end Go.Proofs.YtjjobbamoeaogaaDoor
