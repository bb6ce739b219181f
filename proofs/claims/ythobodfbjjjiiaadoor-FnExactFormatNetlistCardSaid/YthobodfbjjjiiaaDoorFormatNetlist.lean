import Derived.Test.YthobodfbjjjiiaaDoorRows
import Derived.Test.YthobodfbjjjiiaaDoorOpen
import Derived.Test.YthobodfbjjjiiaaDoorJoin
import Derived.Test.YthobodfbjjjiiaaDoorFormatNetlistP
import Derived.Test.YthobodfbjjjiiaaDoorCards
import Derived.Test.YthobodfbjjjiiaaDoorTie
import Derived.SevenTiedAt
import Derived.ProofKit
import Derived.LaidMore
import Derived.OpenShut
import Derived.Stop.Joined
import Derived.LaidSub
import Derived.Lib.LaidTab
namespace Go.Proofs.YthobodfbjjjiiaaDoor.saidFormatNetlist
open Go.RowKit Go.ChangeShapes Go.WideShapes Go.ChangeAt
set_option linter.unusedVariables false
theorem own : ownKnob Tryd.prog.godebug = none := by kernel_rfl
theorem laidOut : laidOutB Tryd.prog = true := by kernel_rfl
def shSignal : Sh (List UInt8 × Int) := Sh.via (Zhg Zou ZhW) (fun a => (a.1, a.2))
theorem encSignal : EncOk shSignal (fun a => [.str a.1, pI a.2]) := ZoA (v := fun a : List UInt8 × Int => (a.1, a.2)) (Zks ZpB Zjj)
theorem bdSignal : BdOk shSignal (ZkD 9223372036854775807) := BdOk.mono (Zqj (v := fun a : List UInt8 × Int => (a.1, a.2)) (ZnI Zqi ZpC)) (fun a h => h.1)
theorem opensSignal : Opens Tryd.prog shSignal 122 :=
 ZiH (ZfD Tryd.underlying122 (by kernel_rfl) (ZfC rfl (by kernel_rfl) (Zni Tryd.underlying9) (Zgh rfl (by kernel_rfl) (Zff Tryd.underlying3)))) _ (fun p => ⟨p.1, p.2⟩) (fun _ => rfl)
def shPin : Sh (Int × Bool) := Sh.via (Zhg ZhW ZpA) (fun a => (a.1, a.2))
theorem encPin : EncOk shPin (fun a => [pI a.1, pB a.2]) := ZoA (v := fun a : Int × Bool => (a.1, a.2)) (Zks Zjj Zqz)
theorem opensPin : Opens Tryd.prog shPin 188 :=
 ZiH (ZfD Tryd.underlying188 (by kernel_rfl) (ZfC rfl (by kernel_rfl) (Zff Tryd.underlying3) (Zgh rfl (by kernel_rfl) (Zpy Tryd.underlying4)))) _ (fun p => ⟨p.1, p.2⟩) (fun _ => rfl)
def shWire : Sh (PWire) := Sh.via (Zhg Zou (Zhg ZhW (Zhg (Zo0 shPin) (Zo0 Zou)))) (fun a => (a.name, a.kind, a.ins, a.cover))
theorem encWire : EncOk shWire (fun a => [.str a.name, pI a.kind, .lst ((a.ins).map ZkE), .lst ((a.cover).map PV.str)]) := ZoA (v := fun a : PWire => (a.name, a.kind, a.ins, a.cover)) (Zks ZpB (Zks Zjj (Zks (ZnH encPin) (Zqh ZpB rfl))))
theorem bdWire : BdOk shWire (ZlB 9223372036854775807) := BdOk.mono (Zqj (v := fun a : PWire => (a.name, a.kind, a.ins, a.cover)) (ZnI Zqi (ZnI ZpC (ZnI (bdSl ZpC) (bdSl Zqi))))) (fun a h => ⟨h.1, h.2.2.1.1, h.2.2.2⟩)
theorem opensWire : Opens Tryd.prog shWire 126 :=
 ZiH (ZfD Tryd.underlying126 (by kernel_rfl) (ZfC rfl (by kernel_rfl) (Zni Tryd.underlying9) (ZfC rfl (by kernel_rfl) (Zff Tryd.underlying3) (ZfC rfl (by kernel_rfl) (Zgg Tryd.underlying124 (by kernel_rfl) (by decide) opensPin) (Zgh rfl (by kernel_rfl) (Zgg Tryd.underlying66 (by kernel_rfl) (by decide) (Zni Tryd.underlying9))))))) _ (fun p => ⟨p.1, p.2.1, p.2.2.1, p.2.2.2⟩) (fun _ => rfl)
def shNetlist : Sh (PNet) := Sh.via (Zhg (Zo0 shSignal) (Zo0 shWire)) (fun a => (a.signals, a.wires))
theorem encNetlist : EncOk shNetlist (fun a => [.lst ((a.signals).map Zj8), .lst ((a.wires).map ZiK)]) := ZoA (v := fun a : PNet => (a.signals, a.wires)) (Zks (ZnH encSignal) (ZnH encWire))
theorem bdNetlist : BdOk shNetlist (Zli 9223372036854775807) := BdOk.mono (Zqj (v := fun a : PNet => (a.signals, a.wires)) (ZnI (bdSl bdSignal) (bdSl bdWire))) (fun a h => ⟨h.1, h.2⟩)
theorem opensNetlist : Opens Tryd.prog shNetlist 33 :=
 ZiH (ZfD Tryd.underlying33 (by kernel_rfl) (ZfC rfl (by kernel_rfl) (Zgg Tryd.underlying30 (by kernel_rfl) (by decide) opensSignal) (Zgh rfl (by kernel_rfl) (Zgg Tryd.underlying31 (by kernel_rfl) (by decide) opensWire)))) _ (fun p => ⟨p.1, p.2⟩) (fun _ => rfl)
theorem door_met (os : Os) (args : Array Value) : laidMetH Tryd.prog Rows.fnExactFormatNetlistRow.laid ((World.doorLaid Tryd.prog 44 os).forCall (fun _ _ => 0) ⟨#[], args, []⟩).memory :=
 laidMetH_of_parts3 (fuel := 8) (laidMet_of_run' 8 (by kernel_rfl) (by kernel_rfl)) (by kernel_rfl) (by kernel_rfl)
theorem cells_of_texts {H : Type} {enc : TypeId × Value → H} {P : Program} {w : World} {base : Nat} {sp : Nat → Bool} {held : Bool} {fuel : Nat} {t e : TypeId} {n : Nat} {cs : List Value} {zs : List (List UInt8)} {p : List MemPlace}
 (ht : P.underlying t = some (.array n e)) (he : P.underlying e = some .string) (hce : P.cellsOf e = 1) (hct : P.cellsOf t = n)
 (h : DataW.trod enc P w base sp held fuel t cs = some (.agg (zs.map fun z => .lit (.string z)), p)) : cs = zs.map fun z => Value.string ⟨z.toArray⟩ := by
 cases fuel with
 | zero => simp [DataW.trod] at h
 | succ fuel =>
  simp only [DataW.trod, ht, hce, hct, Nat.mul_one] at h
  split at h
  ·rename_i hl
   obtain ⟨xs, hm, hx⟩ := Option.map_eq_some_iff.1 h
   have hxs : xs.map (·.1) = zs.map fun z => (DataW.lit (.string z) : DataW H) := by
    have := congrArg Prod.fst hx
    simpa using this
   have hxl : xs.length = n := by simpa using Lib.mapM_length hm
   have hzl : zs.length = n := by
    have := congrArg List.length hxs
    simp at this
    omega
   apply List.ext_getElem?
   intro i
   by_cases hi : i < n
   ·obtain ⟨b, hb, hf⟩ := Lib.mapM_at hm i i (by simp [hi])
    obtain ⟨z, hc, rfl, _⟩ := DataW.trod_string he hf
    have h1 : cs[i]? = some (.string z) := by
     have := congrArg (·[0]?) hc
     simpa [List.getElem?_take, List.getElem?_drop] using this
    have h2 : (xs.map (·.1))[i]? = some (DataW.lit (.string z.data.toList) : DataW H) := by simp [hb]
    rw [hxs] at h2
    simp only [List.getElem?_map, Option.map_eq_some_iff, DataW.lit.injEq, Lit.string.injEq] at h2
    obtain ⟨z', hz', rfl⟩ := h2
    simp [h1, hz']
   ·rw [List.getElem?_eq_none (by omega), List.getElem?_eq_none (by simp; omega)]
  ·cases h
theorem gok_texts {P : Program} {W : World} {name : String} {zs : List (List UInt8)} {g : Nat} {t e : TypeId} {n : Nat}
 (hg : P.globalNamed name = some g) (hty : (P.globals[g]?).map (·.type) = some t) (ht : P.underlying t = some (.array n e)) (he : P.underlying e = some .string) (hce : P.cellsOf e = 1) (hct : P.cellsOf t = n)
 (h : laidMet P [(name, .agg (zs.map fun z => .lit (.string z)))] W) : g < W.heap.size ∧ ∃ (T : TypeId) (fr : Nat × Nat) (cs : Array Value), W.heap[g]? = some (.cells cs T fr) ∧ cs.toList = zs.map fun z => Value.string ⟨z.toArray⟩ := by
 obtain ⟨ps, ⟨g', t', cs, fuel, p, q, hg', ht', hvar, hd, _, _⟩, _⟩ := h
 obtain rfl := Option.some.inj (hg.symm.trans hg')
 obtain rfl := Option.some.inj (hty.symm.trans ht')
 have hc := cells_of_texts ht he hce hct hd
 unfold World.var? at hvar
 rw [hg] at hvar
 dsimp only [Option.bind] at hvar
 split at hvar
 case h_1 cs' T fr heq =>
  cases hvar
  exact ⟨(Array.getElem?_eq_some_iff.1 heq).1, T, fr, _, heq, by simpa using hc⟩
 case h_2 => cases hvar
theorem trodVars_two {H : Type} {enc : TypeId × Value → H} {P : Program} {w : World} {sp : Nat → Bool} {a b : String} {gs : List (DataW H)} {q : List MemPlace} (h : DataW.TrodVars enc P w sp [a, b] gs q) : ∃ g1 g2, gs = [g1, g2] := by
 match gs, h with
 | [g1, g2], _ => exact ⟨g1, g2, rfl⟩
 | [], h => exact h.elim
 | [_], h => obtain ⟨_, _, _, _, _, _, _, _, _, _, h2, _⟩ := h; exact h2.elim
 | _ :: _ :: _ :: _, h =>
  obtain ⟨_, _, _, _, _, _, _, _, _, _, h2, _⟩ := h
  obtain ⟨_, _, _, _, _, _, _, _, _, _, h3, _⟩ := h2
  exact h3.elim
def varsRead (P : Program) (n : String) : Bool := match P.globalNamed n with
 | some g => (match (P.globals[g]?).map (·.type) with | some t => P.readableRec t && decide (t < P.types.size) | none => true)
 | none => true
theorem below_trodVars {H : Type} {enc : TypeId × Value → H} {P : Program} (hl : laidOutB P = true) {W W' : World} (hb : Below W.heap.size W W') :
 ∀ {ns : List String} {ds : List (DataW H)} {ps : List MemPlace}, ns.all (varsRead P) = true → DataW.TrodVars enc P W (fun _ => true) ns ds ps → (∀ x ∈ ps, x.block < W.heap.size) → DataW.TrodVars enc P W' (fun b => decide (b < W.heap.size)) ns ds ps
 | [], [], _, _, h, _ => h
 | n :: ns, d :: ds, _, hr, ⟨g, t, cs, fuel, p, q, h1, h2, h3, h4, h5, e⟩, hlt => by
  subst e
  rw [List.all_cons, Bool.and_eq_true] at hr
  have hr1 := hr.1
  unfold varsRead at hr1
  rw [h1] at hr1
  dsimp only at hr1
  rw [h2] at hr1
  simp only [Bool.and_eq_true, decide_eq_true_eq] at hr1
  have h3' : W'.var? P n = some cs := by
   unfold World.var? at h3 ⊢
   rw [h1] at h3 ⊢
   dsimp only [Option.bind] at h3 ⊢
   split at h3
   case h_1 cs' T fr heq =>
    cases h3
    rw [hb.block g (Array.getElem?_eq_some_iff.1 heq).1, heq]
   case h_2 => cases h3
  obtain ⟨fuel', h6⟩ := Below.trod hl hr1.1 hr1.2 (v := .agg cs) ⟨fuel, h4⟩ hb (fun x hx => hlt x (by simp [hx]))
  exact ⟨g, t, cs, fuel', p, q, h1, h2, h3', h6, below_trodVars hl hb hr.2 h5 (fun x hx => hlt x (by simp [hx])), rfl⟩
 | [], _ :: _, _, _, h, _ => h.elim
 | _ :: _, [], _, _, h, _ => h.elim
theorem law_postV {H : Type} {enc : TypeId × Value → H} {P : Program} {f : Func} {s : ChangeSpec} {W W' : World} {args : Array Value} {ds gs : List (DataW H)} {p q : List MemPlace} {tb : TypeId} (hl : laidOutB P = true) (hvars : s.vars.all (varsRead P) = true)
 (hread : f.params.toList.all (fun t => P.readableRec t && decide (t < P.types.size)) = true) (hres : f.resultTypes = #[tb]) (hbool : P.underlying tb = some .bool)
 (hW : DataW.Whole enc P f.params.toList s.vars false W args.toList ds gs (p ++ q)) (hA : DataW.TrodAll enc P W 0 (fun _ => true) true f.params.toList args.toList ds p) (hV : DataW.TrodVars enc P W (fun _ => true) s.vars gs q)
 (hfn : s.fn H (ds ++ gs) = { results := [.lit (.bool true)], args := ds, vars := gs }) (hb : Below W.heap.size W W') :
 s.post enc P f false true false false W args (.bool true) W' := by
 refine ⟨ds, gs, p ++ q, [], p, q, hW, ?_, ?_, ?_, hb.frame _, fun h => by cases h⟩
 ·rw [hfn, hres]
  exact trodAll_mk1 (shut_bool hbool true)
 ·rw [hfn]
  refine Zcq hl hb (fun t ht => ?_) hA (fun x hx => hW.lt x (by simp [hx]))
  have := List.all_eq_true.1 hread t ht
  simpa using this
 ·rw [hfn]
  exact below_trodVars hl hb hvars hV (fun x hx => hW.lt x (by simp [hx]))
theorem gok_of {W : World} (h : laidMetH Tryd.prog Rows.fnExactFormatNetlistRow.laid W) : GOk W (fun b => b < W.heap.size) := by
 rw [MakeChecks.laidMetH_plain _ _ _ (by kernel_rfl)] at h
 intro g l hgl
 unfold GT at hgl
 rcases List.mem_cons.1 hgl with hgl | hgl
 ·obtain ⟨rfl, rfl⟩ := Prod.mk.inj hgl
  have e0 : (Rows.fnExactFormatNetlistRow.laid.filter fun x => x.1 == "loop.example/g00862/impl.wireWords") = [("loop.example/g00862/impl.wireWords", .agg (([[], [105, 110], [97, 110, 100], [111, 114], [104, 111, 108, 100], [99, 111, 118, 101, 114]] : List (List UInt8)).map fun z => .lit (.string z)))] := by kernel_rfl
  have h1 := h.filter fun x => x.1 == "loop.example/g00862/impl.wireWords"
  rw [e0] at h1
  exact gok_texts (show Tryd.prog.globalNamed "loop.example/g00862/impl.wireWords" = some 0 by kernel_rfl) (show (Tryd.prog.globals[0]?).map (·.type) = some 80 by kernel_rfl) (show Tryd.prog.underlying 80 = some (.array 6 9) by kernel_rfl) (show Tryd.prog.underlying 9 = some .string by kernel_rfl) (by kernel_rfl) (by kernel_rfl) h1
 rcases List.mem_cons.1 hgl with hgl | hgl
 ·obtain ⟨rfl, rfl⟩ := Prod.mk.inj hgl
  have e0 : (Rows.fnExactFormatNetlistRow.laid.filter fun x => x.1 == "loop.example/g00862/impl.kindMarks") = [("loop.example/g00862/impl.kindMarks", .agg (([[], [], [33], [63]] : List (List UInt8)).map fun z => .lit (.string z)))] := by kernel_rfl
  have h1 := h.filter fun x => x.1 == "loop.example/g00862/impl.kindMarks"
  rw [e0] at h1
  exact gok_texts (show Tryd.prog.globalNamed "loop.example/g00862/impl.kindMarks" = some 1 by kernel_rfl) (show (Tryd.prog.globals[1]?).map (·.type) = some 81 by kernel_rfl) (show Tryd.prog.underlying 81 = some (.array 4 9) by kernel_rfl) (show Tryd.prog.underlying 9 = some .string by kernel_rfl) (by kernel_rfl) (by kernel_rfl) h1
 ·cases hgl
set_option maxRecDepth 100000 in
theorem lifted (os : Os) (started : os.Started) (H : Type) (enc : TypeId × Value → H) :
 ReturnsInHanded {} Tryd.checked os 5 .any (fun w args => (Rows.fnExactFormatNetlistSpec.pre enc Tryd.prog Tryd.f5 [] false w args ∧ laidMetH Tryd.prog Rows.fnExactFormatNetlistRow.laid w) ∧ sizedMet enc Tryd.prog Tryd.f5 (OpenSpec.ofChange Rows.fnExactFormatNetlistSpec) false w args) (Rows.fnExactFormatNetlistSpec.post enc Tryd.prog Tryd.f5 false true false false) := by
 refine returnsInHanded_of_change_and (C := Tryd.checked) (X := fun w _ => laidMetH Tryd.prog Rows.fnExactFormatNetlistRow.laid w) (fun _ _ _ hh h => h.of_heap hh) own started (by kernel_rfl) Tryd.func5
  (ChangeSpec.witness_shaped (enc := enc) (C := Tryd.checked) (os := os) (X := fun w _ => laidMetH Tryd.prog Rows.fnExactFormatNetlistRow.laid w) false (World.doorLaid Tryd.prog 44 os) #[.agg #[.slice none 0 0, .slice none 0 0]] 8 rfl (World.shaped_of_RefB (by kernel_rfl) (by kernel_rfl)) (by kernel_rfl) (by kernel_rfl) (by kernel_rfl) (door_met os _)) ?_
 intro W base args ds gs before hval0 hW hcnd _ hL _
 have hg : GOk W (fun b => b < W.heap.size) := gok_of hL
 have hval : ∀ (j : Nat) t v, Tryd.f5.params[j]? = some t → args[j]? = some v → Value.okWide Tryd.prog W .any base t v := hval0
 have hW' := hW
 obtain ⟨p, q, hA0, hV, rfl, hfz, hnd⟩ := hW
 have hA : DataW.TrodAll enc Tryd.prog W 0 (fun _ => true) true Tryd.f5.params.toList args.toList ds p := hA0
 have hA1 := hA
 rw [Tryd.params5] at hA hval
 obtain ⟨v0, vs0, d0, ds0, p0, q0, hargs, rfl, rfl, h0, r0⟩ := trodAll_cons hA
 obtain ⟨rfl, rfl, rfl⟩ := trodAll_nil r0
 obtain rfl : args = #[v0] := by cases args; simp_all
 obtain ⟨g1, g2, rfl⟩ := trodVars_two (show DataW.TrodVars enc Tryd.prog W (fun _ => true) ["loop.example/g00862/impl.wireWords", "loop.example/g00862/impl.kindMarks"] gs q from hV)
 simp only [List.append_nil] at hW' hA1
 obtain ⟨cs0, n, rfl, hr0⟩ := Zpz Tryd.underlying33 opensNetlist (hval 0 33 v0 rfl rfl) h0
 have hs : Zku.spec [Zla n] = some (pB true) := (congrFun (show Zku.spec = Zkv from rfl) _).trans (Znc n (bdNetlist.out hr0))
 refine (FnOk.bool ZlM rfl rfl (.cons (encNetlist.vrAgg hr0) .nil) hs).mono fun e W' ⟨he, hb⟩ => ?_
 subst he
 exact ⟨_, rfl, law_postV laidOut (by kernel_rfl) (by kernel_rfl) rfl Tryd.underlying4 hW' hA1 hV rfl hb⟩
set_option maxHeartbeats 4000000 in
set_option maxRecDepth 100000 in
theorem joined : joinedFacts Tryd.pinned.checked.prog 5 Tryd.f5 Rows.fnExactFormatNetlistSpec Rows.fnExactFormatNetlistRow = true := by
 unfold joinedFacts
 repeat' (first | with_reducible (refine Bool.and_eq_true_iff.mpr ⟨?_, ?_⟩) | decide +kernel)
theorem proved : Rows.FnExactFormatNetlistSaid :=
 OpenClaim.holds_of_wide 5 Tryd.f5 rfl rfl rfl rfl rfl rfl rfl ⟨rfl, rfl, rfl, rfl, rfl⟩ rfl rfl rfl rfl rfl (by kernel_rfl) Tryd.func5 joined
  (of_decide_eq_true (by kernel_rfl)) (by unfold Func.isWrapper; first | (rw [if_pos (by decide +kernel)]; kernel_rfl) | (rw [if_neg (by decide +kernel)]; exact ⟨rfl, rfl⟩))
  (fun os started H enc _ => lifted os started H enc)
theorem card : Rows.FnExactFormatNetlistCardSaid :=
 Claim7.holds_tied_plain_at .later [] [.widerDeep, .data] true (true, "9dd05de7a9ec566f64bc81a9db803ff5da8f42e08fa14991f333ba2021163c5d") false
  proved (fun _ h => by cases h) (by kernel_rfl) (fun _ h => by cases h) fnExactFormatNetlist_row_tie rfl ⟨rfl, rfl⟩ (by kernel_rfl) rfl
  (fun f fn hf hfn => by
   obtain rfl : f = 5 := Option.some.inj ((show Tryd.prog.funcNamed Rows.fnExactFormatNetlistRow.func = some 5 by kernel_rfl).symm.trans hf) |>.symm
   obtain rfl : fn = Tryd.f5 := (Option.some.inj (Tryd.func5.symm.trans hfn)).symm
   exact ⟨by kernel_rfl, fun j t ht => by
    rw [Tryd.params5] at ht
    have hm : t ∈ [33] := by simpa using Array.mem_of_getElem? ht
    have hall : ([33].all fun u => !Tryd.prog.wantsStandIn u) = true := by kernel_rfl
    exact (show Tryd.prog.wantsStandIn t = false by simpa using List.all_eq_true.1 hall t hm)⟩)
  (by kernel_rfl)
end Go.Proofs.YthobodfbjjjiiaaDoor.saidFormatNetlist
