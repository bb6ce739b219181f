import Derived.Test.YtkgnjijonikchaaGreatTab
import Derived.Test.YtkgnjijonikchaaGreatShelf
import Derived.Test.YtkgnjijonikchaaGreatIpr
import Derived.Test.YtkgnjijonikchaaGreatCmpPairs
import Derived.Test.YtkgnjijonikchaaGreatDist
import Derived.Test.YtkgnjijonikchaaGreatHnd
import Derived.Test.YtkgnjijonikchaaGreatIpk
import Derived.Test.YtkgnjijonikchaaGreatRep
import Derived.Test.YtkgnjijonikchaaGreatSy
import Derived.Test.YtkgnjijonikchaaGreatSys
namespace Go.Proofs.YtkgnjijonikchaaGreat
open Go.RowKit
set_option linter.unusedVariables false
set_option linter.unusedSimpArgs false
noncomputable def ZaR :List PV→Option PV
 |[.str s,.int .i64 n]=>if 0≤n∧n≤9223372036854775807∧(s.length:Int) * n≤140737488355328 then some (.str (Lib.repeatL s n.toNat)) else none
 |_=>none
noncomputable def ZeM :Ent:=⟨156,[.ck .val,.ck .val],.ck .val,true,ZaR⟩
theorem Zii :FnOk Go.Proofs.Tryz.prog ZeM:=libOk Go.Proofs.Tryz.func156 (by kernel_rfl) (by kernel_rfl) 2 _ fun w F xs vs r hx hr=>by
 unfold ZaR at hr
 split at hr
 case h_2=>cases hr
 rename_i s n
 split at hr
 case isFalse=>cases hr
 rename_i h
 cases hr
 cases hx with
 | cons h1 t=>
  cases t with
  | cons h2 t=>
   cases t
   cases h1
   cases h2
   obtain ⟨c,rfl⟩:=Int.eq_ofNat_of_zero_le h.1
   have h3:=h.2.2
   rw[←Int.natCast_mul] at h3
   refine ⟨rfl,_,fun _ _=>.str _,(Tryz.strings_Repeat ⟨s.toArray⟩ c w (by omega) ?_).mono fun e w' he=> ?_⟩
   ·show s.toArray.size * c≤_
    simp only[List.size_toArray]
    omega
   ·refine ⟨he.1.trans ?_,he.2⟩
    simp[ByteArray.toList]
theorem Zwp :Zro:=fun x y w h1 h2=>Tryz.bits_Mul x y h1 h2 w
noncomputable def Zdw :List PV→Option PV
 |[.lst [.int .i64 v],.int .i64 n]=>if -9223372036854775808≤v∧v≤9223372036854775807∧0≤n∧n≤1048576 then some (.lst ((List.replicate n.toNat v).map pI)) else none
 |_=>none
noncomputable def Zg4 :Ent:=⟨79,[.ck .val,.ck .val],.ck (.own true 3 1),false,Zdw⟩
theorem ZpG :FnOk Go.Proofs.Tryz.prog Zg4:=rowOk Go.Proofs.Tryz.func79 (by kernel_rfl) (by kernel_rfl) 2 3 _ fun w F xs vs r hF hx hr=>by
 unfold Zdw at hr
 split at hr
 case h_2=>cases hr
 rename_i v n
 split at hr
 case isFalse=>cases hr
 rename_i h
 cases hr
 cases hx with
 | cons h1 t=>
  cases t with
  | cons h2 t=>
   cases t
   cases h2
   obtain ⟨A,c,rfl,ha,hc,hm⟩:=Zm4 (S:=Zx) (f:=pI) (l:=[v]) (fun x hx=>by rw[List.mem_singleton] at hx;subst hx;exact Zu0 ⟨h.1,h.2.1⟩) hF h1
   obtain ⟨N,rfl⟩:=Int.eq_ofNat_of_zero_le (show 0≤n by omega)
   refine ⟨List.replicate N v,rfl,(Zrp Zwp v N A c w ⟨h.1,h.2.1⟩ hc (by unfold maxLen at hm;omega) ha (by omega)).mono fun e w' he=> ?_⟩
   rw[List.length_replicate]
   exact he
noncomputable def ZdS :List PV→Option PV
 | [.int .i64 n,.lst l,.int .i64 s]=>match Zm3 l with
  |some es=>if 0≤n∧n≤1000∧0≤s∧s<n∧es.length≤100000∧(es.all fun e=>decide (e.1<n.toNat∧e.2<n.toNat))=true then some (.lst ((Zdr n.toNat es s.toNat).map pI)) else none
  |none=>none
 |_=>none
noncomputable def Ziu :Ent:=⟨147,[.ck .val,.ck .val,.ck .val],.ck (.own true 3 1),false,ZdS⟩
theorem ZmX :FnOk Go.Proofs.Tryz.prog Ziu:=rowOk Go.Proofs.Tryz.func147 (by kernel_rfl) (by kernel_rfl) 3 3 _ fun w F xs vs r hF hx hr=>by
 unfold ZdS at hr
 split at hr
 case h_2=>cases hr
 rename_i n l s
 split at hr
 case h_2=>cases hr
 rename_i es hes
 split at hr
 case isFalse=>cases hr
 rename_i h
 obtain ⟨g1,g2,g3,g4,g5,g6⟩:=h
 cases hr
 cases hx with
 | cons h1 t=>
  cases t with
  | cons h2 t=>
   cases t with
   | cons h3 t=>
    cases t
    cases h1
    cases h3
    rw[Zrs hes] at h2
    obtain ⟨N,rfl⟩:=Int.eq_ofNat_of_zero_le g1
    obtain ⟨k,rfl⟩:=Int.eq_ofNat_of_zero_le g3
    have hb:∀e∈es,e.1<N∧e.2<N:=fun e he=>by have:=List.all_eq_true.1 g6 e he;simpa using this
    obtain ⟨A,c,rfl,ha,hc,hm⟩:=Zm4 (S:=ZpH) (f:=pSt) (l:=es) (fun x hx=>ZuX rfl (by have:=(hb x hx).1;omega) (by have:=(hb x hx).2;omega)) hF h2
    refine ⟨Zdr N es k,rfl,(ZmZ Zwp N k es A c w hb (by omega) (by omega) hc (by unfold maxLen at hm;omega) g5 ha).mono fun e w' he=> ?_⟩
    obtain ⟨A',c',rfl,ho,hbl⟩:=he
    exact ⟨A',c',by rw[show (Zdr N es k).length=N from (Zm2 (by omega) hb).len],ho,hbl⟩
noncomputable def ZaS :List PV→Option PV:=ZsS
noncomputable def ZaT :Ent:=⟨35,[.ck (.own true 67 2),.clo 36],.ck .none,false,ZaS⟩
theorem Zes :FnOk Go.Proofs.Tryz.prog ZaT:=ipkOk kcP Go.Proofs.Tryz.func35 (by kernel_rfl) (by kernel_rfl) _ cmP prOf ZtY _ Zrn
 (fun w=>AnyF.slices_SortFunc_none Tryz.sortPairs none 0 (fnV 36) w)
 (fun g cap zs w h hg hl=>AnyQ.slices_SortFunc_total Tryz.sortPairs 2 Go.Proofs.Tryz.isAgg67 Go.Proofs.Tryz.sizeOf67 encP kcP.len kcP.one cmP swoP 36 #[] g 0 cap zs.toArray w
  (fun args w=>by simp[callFunc,Go.Proofs.Tryz.func36,Go.Proofs.Tryz.f36]) (fun m os dk _ x y=>ZmY x y _) h hg (by simpa using hl) totP)
end Go.Proofs.YtkgnjijonikchaaGreat
