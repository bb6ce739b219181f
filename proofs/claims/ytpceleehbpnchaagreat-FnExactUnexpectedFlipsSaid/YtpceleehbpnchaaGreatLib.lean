import Derived.Test.YtpceleehbpnchaaGreatTab
import Derived.Test.YtpceleehbpnchaaGreatShelf
import Derived.Test.YtpceleehbpnchaaGreatIpr
import Derived.Test.YtpceleehbpnchaaGreatDist
import Derived.Test.YtpceleehbpnchaaGreatHnd
import Derived.Test.YtpceleehbpnchaaGreatRep
import Derived.Test.YtpceleehbpnchaaGreatSy
import Derived.Test.YtpceleehbpnchaaGreatSys
namespace Go.Proofs.YtpceleehbpnchaaGreat
open Go.RowKit
set_option linter.unusedVariables false
set_option linter.unusedSimpArgs false
noncomputable def Za3 :List PV→Option PV
 |[.str s,.int .i64 n]=>if 0≤n∧n≤9223372036854775807∧(s.length:Int) * n≤140737488355328 then some (.str (Lib.repeatL s n.toNat)) else none
 |_=>none
noncomputable def Zf2 :Ent:=⟨227,[.ck .val,.ck .val],.ck .val,true,Za3⟩
theorem Zks :FnOk Go.Proofs.Tryz.prog Zf2:=libOk Go.Proofs.Tryz.func227 (by kernel_rfl) (by kernel_rfl) 2 _ fun w F xs vs r hx hr=>by
 unfold Za3 at hr
 split at hr
 case h_2=>cases hr
 rename_i s n
 split at hr
 case isFalse=>cases hr
 rename_i h
 cases hr
 cases hx with
 | cons h1 t=>
  cases t with
  | cons h2 t=>
   cases t
   cases h1
   cases h2
   obtain ⟨c,rfl⟩:=Int.eq_ofNat_of_zero_le h.1
   have h3:=h.2.2
   rw[←Int.natCast_mul] at h3
   refine ⟨rfl,_,fun _ _=>.str _,(Tryz.strings_Repeat ⟨s.toArray⟩ c w (by omega) ?_).mono fun e w' he=> ?_⟩
   ·show s.toArray.size * c≤_
    simp only[List.size_toArray]
    omega
   ·refine ⟨he.1.trans ?_,he.2⟩
    simp[ByteArray.toList]
noncomputable def Zck :List PV→Option PV:=ZlE List.reverse
noncomputable def Zea :Ent:=⟨245,[.ck (.own true 3 1)],.ck .none,false,Zck⟩
theorem Zhi :FnOk Go.Proofs.Tryz.prog Zea:=ipOk ZtF Go.Proofs.Tryz.func245 (by kernel_rfl) (by kernel_rfl) _ ZgY Zkb List.reverse (fun zs=>by simp) _ (ZjJ _)
 (fun w=>Tryz.slices_Reverse_int_empty none 0 w) (fun g cap zs w h _ hl=>(Tryz.slices_Reverse_int g 0 cap zs w h (by omega)).mono fun e w' he=>⟨he.1,by obtain ⟨n,h⟩:=he.2;exact ⟨n, #[],by rw[h];simp⟩⟩)
noncomputable def Zkt :List PV→Option PV:=ZlE fun zs=>zs.mergeSort fun x y=>decide (x≤y)
noncomputable def Zku :Ent:=⟨120,[.ck (.own true 3 1)],.ck .none,false,Zkt⟩
theorem ZvW :FnOk Go.Proofs.Tryz.prog Zku:=ipOk ZtF Go.Proofs.Tryz.func120 (by kernel_rfl) (by kernel_rfl) _ ZgY Zkb _ (fun zs=>by simp) _ (ZjJ _)
 (fun w=>Tryz.slices_Sort_int_none none 0 w) (fun g cap zs w h hg hl=>Tryz.slices_Sort_int g 0 cap zs w h hg hl)
theorem ZxF (zs:List Int):(Lib.compact zs).length≤zs.length:=by
 unfold Lib.compact Lib.compactUpTo
 rw[List.length_map]
 exact Nat.le_trans (List.length_filter_le _ _) (by simp)
noncomputable def Ziq :List PV→Option PV:=ZlE Lib.compact
noncomputable def Zir :Ent:=⟨121,[.ck (.own true 3 1)],.ck (.own true 3 1),false,Ziq⟩
theorem ZrX :FnOk Go.Proofs.Tryz.prog Zir:=cpOk Go.Proofs.Tryz.func121 (by kernel_rfl) (by kernel_rfl) _ Lib.compact ZxF _ (ZjJ _)
 (fun w=>Tryz.slices_Compact_int_empty none 0 w) (fun g cap zs w h hl hc=>Tryz.slices_Compact_int g 0 cap zs w h hl hc)
theorem ZBm :ZyQ:=fun x y w h1 h2=>Tryz.bits_Mul x y h1 h2 w
noncomputable def Zec :List PV→Option PV
 |[.lst [.int .i64 v],.int .i64 n]=>if -9223372036854775808≤v∧v≤9223372036854775807∧1≤n∧n≤1048576 then some (.lst ((List.replicate n.toNat v).map pI)) else none
 |_=>none
noncomputable def ZiE :Ent:=⟨132,[.ck .val,.ck .val],.ck (.own true 3 1),false,Zec⟩
theorem ZtE :FnOk Go.Proofs.Tryz.prog ZiE:=rowOk Go.Proofs.Tryz.func132 (by kernel_rfl) (by kernel_rfl) 2 3 _ fun w F xs vs r hF hx hr=>by
 unfold Zec at hr
 split at hr
 case h_2=>cases hr
 rename_i v n
 split at hr
 case isFalse=>cases hr
 rename_i h
 cases hr
 cases hx with
 | cons h1 t=>
  cases t with
  | cons h2 t=>
   cases t
   cases h2
   obtain ⟨A,c,rfl,ha,hc,hm⟩:=Zqt (S:=Zt) (f:=pI) (l:=[v]) (fun x hx=>by rw[List.mem_singleton] at hx;subst hx;exact ZBr ⟨h.1,h.2.1⟩) hF h1
   obtain ⟨N,rfl⟩:=Int.eq_ofNat_of_zero_le (show 0≤n by omega)
   refine ⟨List.replicate N v,rfl,(ZlF ZBm v N A c w ⟨h.1,h.2.1⟩ hc (by unfold maxLen at hm;omega) ha (by omega) (by omega)).mono fun e w' he=> ?_⟩
   rw[List.length_replicate]
   exact he
noncomputable def Zdu :List PV→Option PV
 | [.int .i64 n,.lst l,.int .i64 s]=>match Zqs l with
  |some es=>if 0≤n∧n≤1000∧0≤s∧s<n∧es.length≤100000∧(es.all fun e=>decide (e.1<n.toNat∧e.2<n.toNat))=true then some (.lst ((Zbr n.toNat es s.toNat).map pI)) else none
  |none=>none
 |_=>none
noncomputable def ZgX :Ent:=⟨222,[.ck .val,.ck .val,.ck .val],.ck (.own true 3 1),false,Zdu⟩
theorem ZjI :FnOk Go.Proofs.Tryz.prog ZgX:=rowOk Go.Proofs.Tryz.func222 (by kernel_rfl) (by kernel_rfl) 3 3 _ fun w F xs vs r hF hx hr=>by
 unfold Zdu at hr
 split at hr
 case h_2=>cases hr
 rename_i n l s
 split at hr
 case h_2=>cases hr
 rename_i es hes
 split at hr
 case isFalse=>cases hr
 rename_i h
 obtain ⟨g1,g2,g3,g4,g5,g6⟩:=h
 cases hr
 cases hx with
 | cons h1 t=>
  cases t with
  | cons h2 t=>
   cases t with
   | cons h3 t=>
    cases t
    cases h1
    cases h3
    rw[Zv2 hes] at h2
    obtain ⟨N,rfl⟩:=Int.eq_ofNat_of_zero_le g1
    obtain ⟨k,rfl⟩:=Int.eq_ofNat_of_zero_le g3
    have hb:∀e∈es,e.1<N∧e.2<N:=fun e he=>by have:=List.all_eq_true.1 g6 e he;simpa using this
    obtain ⟨A,c,rfl,ha,hc,hm⟩:=Zqt (S:=ZtG) (f:=pSt) (l:=es) (fun x hx=>ZzO rfl (by have:=(hb x hx).1;omega) (by have:=(hb x hx).2;omega)) hF h2
    refine ⟨Zbr N es k,rfl,(Zqo ZBm N k es A c w hb (by omega) (by omega) hc (by unfold maxLen at hm;omega) g5 ha).mono fun e w' he=> ?_⟩
    obtain ⟨A',c',rfl,ho,hbl⟩:=he
    exact ⟨A',c',by rw[show (Zbr N es k).length=N from (Zhk (by omega) hb).len],ho,hbl⟩
noncomputable def ZbX :List PV→Option PV
 | [.lst l,.str sep]=>match ZlD l with
  |some xs=>if xs.length≤140737488355328∧(Lib.join xs sep).length≤140737488355328 then some (.str (Lib.join xs sep)) else none
  |none=>none
 |_=>none
noncomputable def Zhj :Ent:=⟨156,[.ck .val,.ck .val],.ck .val,true,ZbX⟩
theorem ZmJ :FnOk Go.Proofs.Tryz.prog Zhj:=valOk Go.Proofs.Tryz.func156 (by kernel_rfl) (by kernel_rfl) 2 _ fun w F xs vs r hF hx hr=>by
 unfold ZbX at hr
 split at hr
 case h_2=>cases hr
 rename_i l sep
 split at hr
 case h_2=>cases hr
 rename_i zs hzs
 split at hr
 case isFalse=>cases hr
 rename_i h
 cases hr
 rw[ZrZ l zs hzs] at hx
 cases hx with
 | cons h1 t=>
  cases t with
  | cons h2 t=>
   cases t
   cases h2
   obtain ⟨A,c,rfl,hA,hc⟩:=ZxI h1
   refine ⟨rfl,.string ⟨(Lib.join zs sep).toArray⟩,fun _ _=>.str _, ?_⟩
   by_cases h0:zs=[]
   ·subst h0
    exact (Tryz.strings_Join_none A c ⟨sep.toArray⟩ w).mono fun e w' he=>⟨by rw[he.1];rfl,by rw[he.2];exact Below.refl _ _⟩
   ·obtain ⟨b,off,rfl,hb,hcell⟩:=hA h0
    have e1:(zs.map fun s=>(⟨s.toArray⟩:ByteArray)).map (·.data.toList)=zs:=by
     rw[List.map_map]
     conv=>rhs;rw[←List.map_id zs]
     exact List.map_congr_left fun s _=>by simp
    have key:=Tryz.strings_Join b off c (zs.map fun s=>(⟨s.toArray⟩:ByteArray)) ⟨sep.toArray⟩ w (fun j x hx=>by
     rw[List.getElem?_map,Option.map_eq_some_iff] at hx
     obtain ⟨s,hs,rfl⟩:=hx
     exact hcell j s hs) (hF b hb) (by rw[List.length_map];exact h.1) (by rw[List.length_map];exact hc) (by rw[e1];simpa using h.2)
    rw[List.length_map,e1] at key
    exact key.mono fun e w' he=>⟨by rw[he.1],he.2⟩
end Go.Proofs.YtpceleehbpnchaaGreat
