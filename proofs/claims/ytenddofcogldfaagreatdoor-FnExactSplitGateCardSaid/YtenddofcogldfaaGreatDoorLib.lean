import Derived.Test.YtenddofcogldfaaGreatDoorTab
import Derived.Test.YtenddofcogldfaaGreatDoorShelf
import Derived.Test.YtenddofcogldfaaGreatDoorHnd
import Derived.Test.YtenddofcogldfaaGreatDoorNif
import Derived.Test.YtenddofcogldfaaGreatDoorSpe
namespace Go.Proofs.YtenddofcogldfaaGreatDoor
open Go.RowKit
set_option linter.unusedVariables false
set_option linter.unusedSimpArgs false
theorem Zq7 {w:World} {F:Nat→Prop} (hF:FOk w F):Lib.TabIs Go.Proofs.Tryz.prog w "internal/strconv.uint64pow10" .u64 Lib.pow10Tab:=by
 obtain ⟨_,T,fr,cs,h1,h2⟩:=hF.gk 0 (Lib.pow10Tab.map fun z=>Value.int .u64 z) (by unfold GT;repeat (first|exact List.mem_cons_self|apply List.mem_cons_of_mem))
 have hg:Go.Proofs.Tryz.prog.globalNamed "internal/strconv.uint64pow10"=some 0:=by kernel_rfl
 show World.var? _ _ _=_
 unfold World.var?
 rw[hg,←h2]
 simp[h1]
noncomputable def ZbE :List PV→Option PV
 |[.int .i64 n]=>if -9223372036854775808≤n∧n≤9223372036854775807 then some (.str (Lib.itoa n)) else none
 |_=>none
noncomputable def Zef :Ent:=⟨74,[.ck .val],.ck .val,true,ZbE⟩
theorem Zhi :FnOk Go.Proofs.Tryz.prog Zef:=valOkG Go.Proofs.Tryz.func74 (by kernel_rfl) (by kernel_rfl) 1 _ fun w F xs vs r hF hx hr=>by
 unfold ZbE at hr
 split at hr
 case h_2=>cases hr
 rename_i n
 split at hr
 case isFalse=>cases hr
 rename_i h
 cases hr
 cases hx with
 | cons h1 t=>
  cases t
  cases h1
  refine ⟨rfl,.string ⟨(Lib.itoa n).toArray⟩,fun _ _=>.str _,(Tryz.strconv_Itoa n h.1 h.2 w (Zq7 hF)).mono fun e w' he=>⟨he.1, ?_⟩⟩
  obtain ⟨k,os,rfl⟩:=he.2
  exact {os:=rfl,tape:=rfl,output:=rfl,size:=by simp[Sort.grow,World.drewN],block:=fun b hb=>by simp[Sort.grow,World.drewN,Array.getElem?_append,hb]}
end Go.Proofs.YtenddofcogldfaaGreatDoor
