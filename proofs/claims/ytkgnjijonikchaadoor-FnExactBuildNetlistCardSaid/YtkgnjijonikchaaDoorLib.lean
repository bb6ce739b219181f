import Derived.Test.YtkgnjijonikchaaDoorTab
import Derived.Test.YtkgnjijonikchaaDoorShelf
import Derived.Test.YtkgnjijonikchaaDoorIpr
import Derived.Test.YtkgnjijonikchaaDoorCln
import Derived.Test.YtkgnjijonikchaaDoorHnd
import Derived.Test.YtkgnjijonikchaaDoorNif
namespace Go.Proofs.YtkgnjijonikchaaDoor
open Go.RowKit
set_option linter.unusedVariables false
set_option linter.unusedSimpArgs false
noncomputable def Zet :List PV→Option PV
 | [.lst l,.str sep]=>match ZgI l with
  |some xs=>if xs.length≤140737488355328∧(Lib.join xs sep).length≤140737488355328 then some (.str (Lib.join xs sep)) else none
  |none=>none
 |_=>none
noncomputable def Zh6 :Ent:=⟨83,[.ck .val,.ck .val],.ck .val,true,Zet⟩
theorem Zo0 :FnOk Go.Proofs.Tryd.prog Zh6:=valOk Go.Proofs.Tryd.func83 (by kernel_rfl) (by kernel_rfl) 2 _ fun w F xs vs r hF hx hr=>by
 unfold Zet at hr
 split at hr
 case h_2=>cases hr
 rename_i l sep
 split at hr
 case h_2=>cases hr
 rename_i zs hzs
 split at hr
 case isFalse=>cases hr
 rename_i h
 cases hr
 rw[Zh7 l zs hzs] at hx
 cases hx with
 | cons h1 t=>
  cases t with
  | cons h2 t=>
   cases t
   cases h2
   obtain ⟨A,c,rfl,hA,hc⟩:=ZjU h1
   refine ⟨rfl,.string ⟨(Lib.join zs sep).toArray⟩,fun _ _=>.str _, ?_⟩
   by_cases h0:zs=[]
   ·subst h0
    exact (Tryd.strings_Join_none A c ⟨sep.toArray⟩ w).mono fun e w' he=>⟨by rw[he.1];rfl,by rw[he.2];exact Below.refl _ _⟩
   ·obtain ⟨b,off,rfl,hb,hcell⟩:=hA h0
    have e1:(zs.map fun s=>(⟨s.toArray⟩:ByteArray)).map (·.data.toList)=zs:=by
     rw[List.map_map]
     conv=>rhs;rw[←List.map_id zs]
     exact List.map_congr_left fun s _=>by simp
    have key:=Tryd.strings_Join b off c (zs.map fun s=>(⟨s.toArray⟩:ByteArray)) ⟨sep.toArray⟩ w (fun j x hx=>by
     rw[List.getElem?_map,Option.map_eq_some_iff] at hx
     obtain ⟨s,hs,rfl⟩:=hx
     exact hcell j s hs) (hF b hb) (by rw[List.length_map];exact h.1) (by rw[List.length_map];exact hc) (by rw[e1];simpa using h.2)
    rw[List.length_map,e1] at key
    exact key.mono fun e w' he=>⟨by rw[he.1],he.2⟩
theorem ZpK {w:World} {F:Nat→Prop} (hF:FOk w F):Lib.TabIs Go.Proofs.Tryd.prog w "internal/strconv.uint64pow10" .u64 Lib.pow10Tab:=by
 obtain ⟨_,T,fr,cs,h1,h2⟩:=hF.gk 3 (Lib.pow10Tab.map fun z=>Value.int .u64 z) (by unfold GT;repeat (first|exact List.mem_cons_self|apply List.mem_cons_of_mem))
 have hg:Go.Proofs.Tryd.prog.globalNamed "internal/strconv.uint64pow10"=some 3:=by kernel_rfl
 show World.var? _ _ _=_
 unfold World.var?
 rw[hg,←h2]
 simp[h1]
noncomputable def Zas :List PV→Option PV
 |[.int .i64 n]=>if -9223372036854775808≤n∧n≤9223372036854775807 then some (.str (Lib.itoa n)) else none
 |_=>none
noncomputable def ZcR :Ent:=⟨66,[.ck .val],.ck .val,true,Zas⟩
theorem ZdW :FnOk Go.Proofs.Tryd.prog ZcR:=valOkG Go.Proofs.Tryd.func66 (by kernel_rfl) (by kernel_rfl) 1 _ fun w F xs vs r hF hx hr=>by
 unfold Zas at hr
 split at hr
 case h_2=>cases hr
 rename_i n
 split at hr
 case isFalse=>cases hr
 rename_i h
 cases hr
 cases hx with
 | cons h1 t=>
  cases t
  cases h1
  refine ⟨rfl,.string ⟨(Lib.itoa n).toArray⟩,fun _ _=>.str _,(Tryd.strconv_Itoa n h.1 h.2 w (ZpK hF)).mono fun e w' he=>⟨he.1, ?_⟩⟩
  obtain ⟨k,os,rfl⟩:=he.2
  exact {os:=rfl,tape:=rfl,output:=rfl,size:=by simp[Sort.grow,World.drewN],block:=fun b hb=>by simp[Sort.grow,World.drewN,Array.getElem?_append,hb]}
noncomputable def Zak :List PV→Option PV:=clnS
noncomputable def Zcj :Ent:=⟨26,[.ck .val],.ck (.own true 9 1),false,Zak⟩
theorem Zeb :FnOk Go.Proofs.Tryd.prog Zcj:=clnOk Go.Proofs.Tryd.func26 (by kernel_rfl) (by kernel_rfl) _ (fun b off n c zs w h1 h2 h3=>Tryd.slices_Clone_string b off n c zs w h1 h2 h3) (fun n c w=>Tryd.slices_Clone_string_nil n c w) (fun a c w=>Tryd.slices_Clone_string_zero a c w)
end Go.Proofs.YtkgnjijonikchaaDoor
