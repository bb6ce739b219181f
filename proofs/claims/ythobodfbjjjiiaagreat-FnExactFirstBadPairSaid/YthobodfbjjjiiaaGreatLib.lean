import Derived.Test.YthobodfbjjjiiaaGreatTab
import Derived.Test.YthobodfbjjjiiaaGreatShelf
import Derived.Test.YthobodfbjjjiiaaGreatDist
import Derived.Test.YthobodfbjjjiiaaGreatHnd
import Derived.Test.YthobodfbjjjiiaaGreatRep
import Derived.Test.YthobodfbjjjiiaaGreatSy
import Derived.Test.YthobodfbjjjiiaaGreatSys
namespace Go.Proofs.YthobodfbjjjiiaaGreat
open Go.RowKit
set_option linter.unusedVariables false
set_option linter.unusedSimpArgs false
noncomputable def Za0 :List PV→Option PV
 |[.str s,.int .i64 n]=>if 0≤n∧n≤9223372036854775807∧(s.length:Int) * n≤140737488355328 then some (.str (Lib.repeatL s n.toNat)) else none
 |_=>none
noncomputable def ZfR :Ent:=⟨170,[.ck .val,.ck .val],.ck .val,true,Za0⟩
theorem Zj8 :FnOk Go.Proofs.Tryz.prog ZfR:=libOk Go.Proofs.Tryz.func170 (by kernel_rfl) (by kernel_rfl) 2 _ fun w F xs vs r hx hr=>by
 unfold Za0 at hr
 split at hr
 case h_2=>cases hr
 rename_i s n
 split at hr
 case isFalse=>cases hr
 rename_i h
 cases hr
 cases hx with
 | cons h1 t=>
  cases t with
  | cons h2 t=>
   cases t
   cases h1
   cases h2
   obtain ⟨c,rfl⟩:=Int.eq_ofNat_of_zero_le h.1
   have h3:=h.2.2
   rw[←Int.natCast_mul] at h3
   refine ⟨rfl,_,fun _ _=>.str _,(Tryz.strings_Repeat ⟨s.toArray⟩ c w (by omega) ?_).mono fun e w' he=> ?_⟩
   ·show s.toArray.size * c≤_
    simp only[List.size_toArray]
    omega
   ·refine ⟨he.1.trans ?_,he.2⟩
    simp[ByteArray.toList]
theorem Zzv :ZuD:=fun x y w h1 h2=>Tryz.bits_Mul x y h1 h2 w
noncomputable def Zef :List PV→Option PV
 |[.lst [.int .i64 v],.int .i64 n]=>if -9223372036854775808≤v∧v≤9223372036854775807∧0≤n∧n≤1048576 then some (.lst ((List.replicate n.toNat v).map pI)) else none
 |_=>none
noncomputable def Zir :Ent:=⟨85,[.ck .val,.ck .val],.ck (.own true 3 1),false,Zef⟩
theorem Zsw :FnOk Go.Proofs.Tryz.prog Zir:=rowOk Go.Proofs.Tryz.func85 (by kernel_rfl) (by kernel_rfl) 2 3 _ fun w F xs vs r hF hx hr=>by
 unfold Zef at hr
 split at hr
 case h_2=>cases hr
 rename_i v n
 split at hr
 case isFalse=>cases hr
 rename_i h
 cases hr
 cases hx with
 | cons h1 t=>
  cases t with
  | cons h2 t=>
   cases t
   cases h2
   obtain ⟨A,c,rfl,ha,hc,hm⟩:=ZpJ (S:=ZI) (f:=pI) (l:=[v]) (fun x hx=>by rw[List.mem_singleton] at hx;subst hx;exact Zzz ⟨h.1,h.2.1⟩) hF h1
   obtain ⟨N,rfl⟩:=Int.eq_ofNat_of_zero_le (show 0≤n by omega)
   refine ⟨List.replicate N v,rfl,(ZuE Zzv v N A c w ⟨h.1,h.2.1⟩ hc (by unfold maxLen at hm;omega) ha (by omega)).mono fun e w' he=> ?_⟩
   rw[List.length_replicate]
   exact he
noncomputable def ZeQ :List PV→Option PV
 | [.int .i64 n,.lst l,.int .i64 s]=>match ZpI l with
  |some es=>if 0≤n∧n≤1000∧0≤s∧s<n∧es.length≤100000∧(es.all fun e=>decide (e.1<n.toNat∧e.2<n.toNat))=true then some (.lst ((Zec n.toNat es s.toNat).map pI)) else none
  |none=>none
 |_=>none
noncomputable def Zkl :Ent:=⟨161,[.ck .val,.ck .val,.ck .val],.ck (.own true 3 1),false,ZeQ⟩
theorem ZpB :FnOk Go.Proofs.Tryz.prog Zkl:=rowOk Go.Proofs.Tryz.func161 (by kernel_rfl) (by kernel_rfl) 3 3 _ fun w F xs vs r hF hx hr=>by
 unfold ZeQ at hr
 split at hr
 case h_2=>cases hr
 rename_i n l s
 split at hr
 case h_2=>cases hr
 rename_i es hes
 split at hr
 case isFalse=>cases hr
 rename_i h
 obtain ⟨g1,g2,g3,g4,g5,g6⟩:=h
 cases hr
 cases hx with
 | cons h1 t=>
  cases t with
  | cons h2 t=>
   cases t with
   | cons h3 t=>
    cases t
    cases h1
    cases h3
    rw[ZuI hes] at h2
    obtain ⟨N,rfl⟩:=Int.eq_ofNat_of_zero_le g1
    obtain ⟨k,rfl⟩:=Int.eq_ofNat_of_zero_le g3
    have hb:∀e∈es,e.1<N∧e.2<N:=fun e he=>by have:=List.all_eq_true.1 g6 e he;simpa using this
    obtain ⟨A,c,rfl,ha,hc,hm⟩:=ZpJ (S:=Zsx) (f:=pSt) (l:=es) (fun x hx=>Zx3 rfl (by have:=(hb x hx).1;omega) (by have:=(hb x hx).2;omega)) hF h2
    refine ⟨Zec N es k,rfl,(ZpC Zzv N k es A c w hb (by omega) (by omega) hc (by unfold maxLen at hm;omega) g5 ha).mono fun e w' he=> ?_⟩
    obtain ⟨A',c',rfl,ho,hbl⟩:=he
    exact ⟨A',c',by rw[show (Zec N es k).length=N from (ZpH (by omega) hb).len],ho,hbl⟩
end Go.Proofs.YthobodfbjjjiiaaGreat
