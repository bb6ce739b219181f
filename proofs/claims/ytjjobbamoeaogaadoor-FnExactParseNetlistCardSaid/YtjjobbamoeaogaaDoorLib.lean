import Derived.Test.YtjjobbamoeaogaaDoorTab
import Derived.Test.YtjjobbamoeaogaaDoorShelf
import Derived.Test.YtjjobbamoeaogaaDoorIpr
import Derived.Test.YtjjobbamoeaogaaDoorHnd
namespace Go.Proofs.YtjjobbamoeaogaaDoor
open Go.RowKit
set_option linter.unusedVariables false
set_option linter.unusedSimpArgs false
noncomputable def Zbf :List PV→Option PV
 | [.lst l,.str sep]=>match ZgW l with
  |some xs=>if xs.length≤140737488355328∧(Lib.join xs sep).length≤140737488355328 then some (.str (Lib.join xs sep)) else none
  |none=>none
 |_=>none
noncomputable def ZeE :Ent:=⟨36,[.ck .val,.ck .val],.ck .val,true,Zbf⟩
theorem ZhL :FnOk Go.Proofs.Tryd.prog ZeE:=valOk Go.Proofs.Tryd.func36 (by kernel_rfl) (by kernel_rfl) 2 _ fun w F xs vs r hF hx hr=>by
 unfold Zbf at hr
 split at hr
 case h_2=>cases hr
 rename_i l sep
 split at hr
 case h_2=>cases hr
 rename_i zs hzs
 split at hr
 case isFalse=>cases hr
 rename_i h
 cases hr
 rw[Zly l zs hzs] at hx
 cases hx with
 | cons h1 t=>
  cases t with
  | cons h2 t=>
   cases t
   cases h2
   obtain ⟨A,c,rfl,hA,hc⟩:=Zpm h1
   refine ⟨rfl,.string ⟨(Lib.join zs sep).toArray⟩,fun _ _=>.str _, ?_⟩
   by_cases h0:zs=[]
   ·subst h0
    exact (Tryd.strings_Join_none A c ⟨sep.toArray⟩ w).mono fun e w' he=>⟨by rw[he.1];rfl,by rw[he.2];exact Below.refl _ _⟩
   ·obtain ⟨b,off,rfl,hb,hcell⟩:=hA h0
    have e1:(zs.map fun s=>(⟨s.toArray⟩:ByteArray)).map (·.data.toList)=zs:=by
     rw[List.map_map]
     conv=>rhs;rw[←List.map_id zs]
     exact List.map_congr_left fun s _=>by simp
    have key:=Tryd.strings_Join b off c (zs.map fun s=>(⟨s.toArray⟩:ByteArray)) ⟨sep.toArray⟩ w (fun j x hx=>by
     rw[List.getElem?_map,Option.map_eq_some_iff] at hx
     obtain ⟨s,hs,rfl⟩:=hx
     exact hcell j s hs) (hF b hb) (by rw[List.length_map];exact h.1) (by rw[List.length_map];exact hc) (by rw[e1];simpa using h.2)
    rw[List.length_map,e1] at key
    exact key.mono fun e w' he=>⟨by rw[he.1],he.2⟩
theorem Zpl (s:ByteArray) (c:UInt8):Lib.countB s ⟨#[c]⟩=Lib.countByte s.data.toList c:=by
 show Lib.count s.data.toList [c]=_
 rw[Lib.count_one]
 rfl
theorem Zrd (s:ByteArray) (c:UInt8) (w:World) (hs:s.size<4294967281):Calls Go.Proofs.Tryd.prog 15 #[.string s,.string ⟨#[c]⟩] w fun e w'=>
 e=.returned (.slice (some ⟨w.heap.size,0,none⟩) (Lib.countB s ⟨#[c]⟩+1) (Lib.countB s ⟨#[c]⟩+1))∧w'=w.alloc (.cells ((Lib.splitB ⟨#[c]⟩ 0 (Lib.countB s ⟨#[c]⟩) s).map Value.string).toArray 9):=by
 have hle:=Lib.countB_le ⟨#[c]⟩ (Nat.le_refl _) s.size s (Nat.le_refl _)
 have hlen:=Lib.splitB_all ⟨#[c]⟩ (Nat.le_refl _) 0 _ s rfl
 have c0:=Any.strings_genSplit_core {Tryd.lays146 with} (by kernel_rfl) s ⟨#[c]⟩ 0 (-1) (Lib.countB s ⟨#[c]⟩+1) w hs (Nat.le_refl _) (Nat.zero_le _)
  (fun x cs _=>by rw[show Lib.indexB x ⟨#[c]⟩=Lib.indexByte x.data.toList c from Lib.index_one x.data.toList c];exact Tryd.strings_Index_one x c _) (by rw[Zpl];exact Tryd.strings_Count_one s c w) (by decide) (by decide) (by rw[if_pos (by decide)];omega)
 rw[Nat.add_sub_cancel,hlen] at c0
 have e2:Lib.cellsOf (Lib.splitB ⟨#[c]⟩ 0 (Lib.countB s ⟨#[c]⟩) s) (Lib.countB s ⟨#[c]⟩+1)=((Lib.splitB ⟨#[c]⟩ 0 (Lib.countB s ⟨#[c]⟩) s).map Value.string).toArray:=by rw[←hlen];exact Lib.cellsOf_full _
 rw[e2] at c0
 have L:=Tryd.lays146
 have t3:=L.t3;have t9:=L.t9;have t31:=L.t31
 have a3:=L.a3;have a9:=L.a9;have a31:=L.a31
 have z3:=L.z3;have v3:=L.v3;have z9:=L.z9;have v9:=L.v9;have z31:=L.z31;have v31:=L.v31
 have e221:∀args w,(callFunc (Tryd.lays146_ren.f 221) args).run Go.Proofs.Tryd.prog w=.ok (.enter (Tryd.lays146_ren.f 221) args) w:=enters_of L.f221 (by kernel_rfl) rfl
 go_enter L.f146,Body.n146_ntmps Tryd.lays146_ren
 go_wp2_with (go_at_fn (Tryd.lays146_ren.f 221);refine c0.mono ?_;rintro e w' ⟨rfl,hw⟩;rw[hw])
 go_ret
 exact ⟨rfl,rfl⟩
noncomputable def ZaT :List PV→Option PV
 |[.str s,.str [c]]=>if s.length<4294967281 then some (.lst ((Lib.split s [c]).map .str)) else none
 |_=>none
noncomputable def Zee :Ent:=⟨15,[.ck .val,.ck .val],.tt,false,ZaT⟩
theorem ZgV :FnOk Go.Proofs.Tryd.prog Zee:=ttOk Go.Proofs.Tryd.func15 (by kernel_rfl) (by kernel_rfl) 2 9 _ fun w F xs vs r hx hr=>by
 unfold ZaT at hr
 split at hr
 case h_2=>cases hr
 rename_i s c
 split at hr
 case isFalse=>cases hr
 rename_i h
 cases hr
 cases hx with
 | cons h1 t=>
  cases t with
  | cons h2 t=>
   cases t
   cases h1
   cases h2
   have hd:=Lib.splitB_data ⟨#[c]⟩ 0 (Lib.countB ⟨s.toArray⟩ ⟨#[c]⟩) ⟨s.toArray⟩
   have hsp:(Lib.splitB ⟨#[c]⟩ 0 (Lib.countB ⟨s.toArray⟩ ⟨#[c]⟩) ⟨s.toArray⟩).map (·.data.toList)=Lib.split s [c]:=by rw[hd];rfl
   have hl:=Lib.splitB_all ⟨#[c]⟩ (Nat.le_refl _) 0 _ ⟨s.toArray⟩ rfl
   have hll:(Lib.split s [c]).length=Lib.countB ⟨s.toArray⟩ ⟨#[c]⟩+1:=by rw[←hsp,List.length_map,hl]
   have hcl:=Lib.countB_le ⟨#[c]⟩ (Nat.le_refl _) s.length ⟨s.toArray⟩ (by show s.toArray.size≤_;simp)
   have hcl':Lib.countB ⟨s.toArray⟩ ⟨#[c]⟩≤s.length:=by
    have:(⟨s.toArray⟩:ByteArray).size=s.length:=by show s.toArray.size=_;simp
    omega
   refine ⟨_,rfl,by unfold maxLen;omega,(Zrd ⟨s.toArray⟩ c w (by show s.toArray.size<_;simpa using h)).mono fun e w' he=> ?_⟩
   obtain ⟨e1,e2⟩:=he
   rw[hll]
   refine ⟨e1,e2.trans ?_⟩
   congr 3
   rw[←hsp,List.map_map]
   rfl
end Go.Proofs.YtjjobbamoeaogaaDoor
