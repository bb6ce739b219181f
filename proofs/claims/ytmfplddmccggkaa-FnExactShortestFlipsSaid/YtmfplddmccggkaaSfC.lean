/-
  The contracts of ShortestFlips, of the program's and of the reference's: both give back the same row, of their own.
-/
import Derived.Test.YtmfplddmccggkaaOwn
import Derived.Test.YtmfplddmccggkaaLawPp
import Derived.Test.YtmfplddmccggkaaShortestFlipsP
namespace Go.Proofs.Ytmfplddmccggkaa.Lw
open Go.RowKit
set_option linter.unusedVariables false
set_option linter.unusedSimpArgs false
theorem encPSt : EncOk shPSt (fun b => [pI b.state, .str b.values]) := encVia (v := fun x : PSt => (x.state, x.values)) (encPair encInt encStr)
theorem encFlip : EncOk shFlip (fun f => [pI f.from_] ++ ([pI f.wire] ++ [pI f.to])) := encVia (v := fun x : Flip => (x.from_, (x.wire, x.to))) (encPair encInt (encPair encInt encInt))
theorem encPrX : EncOk shProdG (fun p => [.lst (p.states.map fun b => .agg [pI b.state, .str b.values])] ++ ([.lst (p.flips.map fun f => .agg ([pI f.from_] ++ ([pI f.wire] ++ [pI f.to])))] ++ [.lst (p.extra.map fun f => .agg ([pI f.from_] ++ ([pI f.wire] ++ [pI f.to])))])) :=
  encVia (v := fun x : ProdG => (x.states, (x.flips, x.extra))) (encPair (encSlAgg encPSt) (encPair (encSlAgg encFlip) (encSlAgg encFlip)))
theorem bdPSt : BdOk shPSt (fun b => b.values.length ≤ 9223372036854775807) := BdOk.mono (bdVia (v := fun x : PSt => (x.state, x.values)) (bdPair (S := shInt) bdTrue bdStr)) (fun a h => h.2)
theorem bdPrX : BdOk shProdG PrFit := BdOk.mono (bdVia (v := fun x : ProdG => (x.states, (x.flips, x.extra))) (bdPair (bdSl bdPSt) (bdPair (bdSl (S := shFlip) bdTrue) (bdSl (S := shFlip) bdTrue)))) (fun a h => ⟨h.1.1, h.1.2, h.2.1.1⟩)
theorem impl_ShortestFlips (p : ProdG) (k : Int) (A_p_states : Option Addr) (c_p_states : Nat) (A_p_flips : Option Addr) (c_p_flips : Nat) (A_p_extra : Option Addr) (c_p_extra : Nat) (w : World) (fp0 : (p.states).length ≤ c_p_states) (fp1 : c_p_states ≤ 9223372036854775807) (fp2 : RA shPSt w A_p_states p.states) (fp3 : (p.flips).length ≤ c_p_flips) (fp4 : c_p_flips ≤ 9223372036854775807) (fp5 : RA shFlip w A_p_flips p.flips) (fp6 : (p.extra).length ≤ c_p_extra) (fp7 : c_p_extra ≤ 9223372036854775807) (fp8 : RA shFlip w A_p_extra p.extra) :
    Calls Try.prog 9 #[.agg #[.slice A_p_states (p.states).length c_p_states, .slice A_p_flips (p.flips).length c_p_flips, .slice A_p_extra (p.extra).length c_p_extra], .int .i64 k] w fun e w' => ∃ A c, e = .returned (.tuple #[.slice A ((sfP p k).1).length c, .bool (sfP p k).2]) ∧ Own shInt w' w.heap.size 3 A c (sfP p k).1 ∧ Below w.heap.size w w' := by
  have hr2 := shProdG_mk (w := w) (D := fun b => b < w.heap.size) (x := p) (by assumption) (by assumption) (by assumption) (by assumption) (by assumption) (by assumption) (by assumption) (by assumption) (by assumption)
  have hf2 := bdPrX.out hr2
  have hs : e_i_ShortestFlips.spec [ePr p, pI k] = some (.tup [.lst ((sfP p k).1.map pI), pB (sfP p k).2]) := (congrFun (show e_i_ShortestFlips.spec = s_i_ShortestFlips from rfl) _).trans (at_i_ShortestFlips p k hf2)
  have hv2 := encPrX.vrAgg hr2
  exact FnOk.ownBool (S := shInt) ok_i_ShortestFlips rfl rfl rfl (.cons hv2 (.cons (.int _ _) .nil)) hs (fun x hx => cellsInt (by have := sfP_in p k x hx; constructor <;> omega))
theorem spec_ShortestFlips (p : ProdG) (k : Int) (A_p_states : Option Addr) (c_p_states : Nat) (A_p_flips : Option Addr) (c_p_flips : Nat) (A_p_extra : Option Addr) (c_p_extra : Nat) (w : World) (fp0 : (p.states).length ≤ c_p_states) (fp1 : c_p_states ≤ 9223372036854775807) (fp2 : RA shPSt w A_p_states p.states) (fp3 : (p.flips).length ≤ c_p_flips) (fp4 : c_p_flips ≤ 9223372036854775807) (fp5 : RA shFlip w A_p_flips p.flips) (fp6 : (p.extra).length ≤ c_p_extra) (fp7 : c_p_extra ≤ 9223372036854775807) (fp8 : RA shFlip w A_p_extra p.extra) :
    Calls Try.prog 7 #[.agg #[.slice A_p_states (p.states).length c_p_states, .slice A_p_flips (p.flips).length c_p_flips, .slice A_p_extra (p.extra).length c_p_extra], .int .i64 k] w fun e w' => ∃ A c, e = .returned (.tuple #[.slice A ((sfP p k).1).length c, .bool (sfP p k).2]) ∧ Own shInt w' w.heap.size 3 A c (sfP p k).1 ∧ Below w.heap.size w w' := by
  have hr2 := shProdG_mk (w := w) (D := fun b => b < w.heap.size) (x := p) (by assumption) (by assumption) (by assumption) (by assumption) (by assumption) (by assumption) (by assumption) (by assumption) (by assumption)
  have hf2 := bdPrX.out hr2
  have hs : e_r_ShortestFlips.spec [ePr p, pI k] = some (.tup [.lst ((sfP p k).1.map pI), pB (sfP p k).2]) := (congrFun (show e_r_ShortestFlips.spec = s_r_ShortestFlips from rfl) _).trans (at_r_ShortestFlips p k hf2)
  have hv2 := encPrX.vrAgg hr2
  exact FnOk.ownBool (S := shInt) ok_r_ShortestFlips rfl rfl rfl (.cons hv2 (.cons (.int _ _) .nil)) hs (fun x hx => cellsInt (by have := sfP_in p k x hx; constructor <;> omega))
end Go.Proofs.Ytmfplddmccggkaa.Lw
