import Derived.Test.YthobodfbjjjiiaaDoorTab
import Derived.Test.YthobodfbjjjiiaaDoorShelf
import Derived.Test.YthobodfbjjjiiaaDoorIpr
import Derived.Test.YthobodfbjjjiiaaDoorHnd
namespace Go.Proofs.YthobodfbjjjiiaaDoor
open Go.RowKit
set_option linter.unusedVariables false
set_option linter.unusedSimpArgs false
noncomputable def Z0 :List PV→Option PV
 | [.lst l,.str sep]=>match ZcS l with
  |some xs=>if xs.length≤140737488355328∧(Lib.join xs sep).length≤140737488355328 then some (.str (Lib.join xs sep)) else none
  |none=>none
 |_=>none
noncomputable def Zbk :Ent:=⟨37,[.ck .val,.ck .val],.ck .val,true,Z0⟩
theorem Zdl :FnOk Go.Proofs.Tryd.prog Zbk:=valOk Go.Proofs.Tryd.func37 (by kernel_rfl) (by kernel_rfl) 2 _ fun w F xs vs r hF hx hr=>by
 unfold Z0 at hr
 split at hr
 case h_2=>cases hr
 rename_i l sep
 split at hr
 case h_2=>cases hr
 rename_i zs hzs
 split at hr
 case isFalse=>cases hr
 rename_i h
 cases hr
 rw[ZfB l zs hzs] at hx
 cases hx with
 | cons h1 t=>
  cases t with
  | cons h2 t=>
   cases t
   cases h2
   obtain ⟨A,c,rfl,hA,hc⟩:=ZhV h1
   refine ⟨rfl,.string ⟨(Lib.join zs sep).toArray⟩,fun _ _=>.str _, ?_⟩
   by_cases h0:zs=[]
   ·subst h0
    exact (Tryd.strings_Join_none A c ⟨sep.toArray⟩ w).mono fun e w' he=>⟨by rw[he.1];rfl,by rw[he.2];exact Below.refl _ _⟩
   ·obtain ⟨b,off,rfl,hb,hcell⟩:=hA h0
    have e1:(zs.map fun s=>(⟨s.toArray⟩:ByteArray)).map (·.data.toList)=zs:=by
     rw[List.map_map]
     conv=>rhs;rw[←List.map_id zs]
     exact List.map_congr_left fun s _=>by simp
    have key:=Tryd.strings_Join b off c (zs.map fun s=>(⟨s.toArray⟩:ByteArray)) ⟨sep.toArray⟩ w (fun j x hx=>by
     rw[List.getElem?_map,Option.map_eq_some_iff] at hx
     obtain ⟨s,hs,rfl⟩:=hx
     exact hcell j s hs) (hF b hb) (by rw[List.length_map];exact h.1) (by rw[List.length_map];exact hc) (by rw[e1];simpa using h.2)
    rw[List.length_map,e1] at key
    exact key.mono fun e w' he=>⟨by rw[he.1],he.2⟩
end Go.Proofs.YthobodfbjjjiiaaDoor
