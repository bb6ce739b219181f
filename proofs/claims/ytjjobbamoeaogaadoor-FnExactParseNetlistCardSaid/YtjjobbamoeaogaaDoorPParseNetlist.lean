import Derived.Test.YtjjobbamoeaogaaDoorOpen
import Derived.Test.YtjjobbamoeaogaaDoorLParseNetlist
import Derived.Test.YtjjobbamoeaogaaDoorCards
import Derived.Test.YtjjobbamoeaogaaDoorTie
import Derived.SevenTiedAt
import Derived.ProofKit
import Derived.LaidMore
import Derived.Lay
import Derived.OpenShut
import Derived.Stop.Joined
import Derived.LaidSub
import Derived.Lib.LaidTab
namespace Go.Proofs.YtjjobbamoeaogaaDoor.saidParseNetlist
open Go.RowKit Go.ChangeShapes Go.WideShapes Go.ChangeAt Go.Proofs.YtjjobbamoeaogaaDoor.Lw
set_option linter.unusedVariables false
theorem own : ownKnob Tryd.prog.godebug = none := by kernel_rfl
theorem laidOut : laidOutB Tryd.prog = true := by kernel_rfl
theorem door_met (os : Os) (args : Array Value) : laidMetH Tryd.prog Rows.fnExactParseNetlistRow.laid ((World.laidAll Tryd.prog os Rows.fnExactParseNetlistRow.laid).forCall (fun _ _ => 0) ⟨#[], args, []⟩).memory := by
 rw [MakeChecks.laidMetH_plain _ _ _ (by kernel_rfl)]
 exact laidMet_laidAll _ (by kernel_rfl) (by kernel_rfl)
theorem cells_of_texts {H : Type} {enc : TypeId × Value → H} {P : Program} {w : World} {base : Nat} {sp : Nat → Bool} {held : Bool} {fuel : Nat} {t e : TypeId} {n : Nat} {cs : List Value} {zs : List (List UInt8)} {p : List MemPlace}
 (ht : P.underlying t = some (.array n e)) (he : P.underlying e = some .string) (hce : P.cellsOf e = 1) (hct : P.cellsOf t = n)
 (h : DataW.trod enc P w base sp held fuel t cs = some (.agg (zs.map fun z => .lit (.string z)), p)) : cs = zs.map fun z => Value.string ⟨z.toArray⟩ := by
 cases fuel with
 | zero => simp [DataW.trod] at h
 | succ fuel =>
  simp only [DataW.trod, ht, hce, hct, Nat.mul_one] at h
  split at h
  ·rename_i hl
   obtain ⟨xs, hm, hx⟩ := Option.map_eq_some_iff.1 h
   have hxs : xs.map (·.1) = zs.map fun z => (DataW.lit (.string z) : DataW H) := by
    have := congrArg Prod.fst hx
    simpa using this
   have hxl : xs.length = n := by simpa using Lib.mapM_length hm
   have hzl : zs.length = n := by
    have := congrArg List.length hxs
    simp at this
    omega
   apply List.ext_getElem?
   intro i
   by_cases hi : i < n
   ·obtain ⟨b, hb, hf⟩ := Lib.mapM_at hm i i (by simp [hi])
    obtain ⟨z, hc, rfl, _⟩ := DataW.trod_string he hf
    have h1 : cs[i]? = some (.string z) := by
     have := congrArg (·[0]?) hc
     simpa [List.getElem?_take, List.getElem?_drop] using this
    have h2 : (xs.map (·.1))[i]? = some (DataW.lit (.string z.data.toList) : DataW H) := by simp [hb]
    rw [hxs] at h2
    simp only [List.getElem?_map, Option.map_eq_some_iff, DataW.lit.injEq, Lit.string.injEq] at h2
    obtain ⟨z', hz', rfl⟩ := h2
    simp [h1, hz']
   ·rw [List.getElem?_eq_none (by omega), List.getElem?_eq_none (by simp; omega)]
  ·cases h
theorem gok_texts {P : Program} {W : World} {name : String} {zs : List (List UInt8)} {g : Nat} {t e : TypeId} {n : Nat}
 (hg : P.globalNamed name = some g) (hty : (P.globals[g]?).map (·.type) = some t) (ht : P.underlying t = some (.array n e)) (he : P.underlying e = some .string) (hce : P.cellsOf e = 1) (hct : P.cellsOf t = n)
 (h : laidMet P [(name, .agg (zs.map fun z => .lit (.string z)))] W) : g < W.heap.size ∧ ∃ (T : TypeId) (fr : Nat × Nat) (cs : Array Value), W.heap[g]? = some (.cells cs T fr) ∧ cs.toList = zs.map fun z => Value.string ⟨z.toArray⟩ := by
 obtain ⟨ps, ⟨g', t', cs, fuel, p, q, hg', ht', hvar, hd, _, _⟩, _⟩ := h
 obtain rfl := Option.some.inj (hg.symm.trans hg')
 obtain rfl := Option.some.inj (hty.symm.trans ht')
 have hc := cells_of_texts ht he hce hct hd
 unfold World.var? at hvar
 rw [hg] at hvar
 dsimp only [Option.bind] at hvar
 split at hvar
 case h_1 cs' T fr heq =>
  cases hvar
  exact ⟨(Array.getElem?_eq_some_iff.1 heq).1, T, fr, _, heq, by simpa using hc⟩
 case h_2 => cases hvar
theorem gok_of {W : World} (h : laidMetH Tryd.prog Rows.fnExactParseNetlistRow.laid W) : GOk W (fun b => b < W.heap.size) := by
 rw [MakeChecks.laidMetH_plain _ _ _ (by kernel_rfl)] at h
 intro g l hgl
 unfold GT at hgl
 rcases List.mem_cons.1 hgl with hgl | hgl
 ·obtain ⟨rfl, rfl⟩ := Prod.mk.inj hgl
  have e0 : (Rows.fnExactParseNetlistRow.laid.filter fun x => x.1 == "loop.example/g00862/impl.kindMarks") = [("loop.example/g00862/impl.kindMarks", .agg (([[], [], [33], [63]] : List (List UInt8)).map fun z => .lit (.string z)))] := by kernel_rfl
  have h1 := h.filter fun x => x.1 == "loop.example/g00862/impl.kindMarks"
  rw [e0] at h1
  exact gok_texts (show Tryd.prog.globalNamed "loop.example/g00862/impl.kindMarks" = some 0 by kernel_rfl) (show (Tryd.prog.globals[0]?).map (·.type) = some 63 by kernel_rfl) (show Tryd.prog.underlying 63 = some (.array 4 9) by kernel_rfl) (show Tryd.prog.underlying 9 = some .string by kernel_rfl) (by kernel_rfl) (by kernel_rfl) h1
 rcases List.mem_cons.1 hgl with hgl | hgl
 ·obtain ⟨rfl, rfl⟩ := Prod.mk.inj hgl
  have e0 : (Rows.fnExactParseNetlistRow.laid.filter fun x => x.1 == "loop.example/g00862/impl.wireWords") = [("loop.example/g00862/impl.wireWords", .agg (([[], [105, 110], [97, 110, 100], [111, 114], [104, 111, 108, 100], [99, 111, 118, 101, 114]] : List (List UInt8)).map fun z => .lit (.string z)))] := by kernel_rfl
  have h1 := h.filter fun x => x.1 == "loop.example/g00862/impl.wireWords"
  rw [e0] at h1
  exact gok_texts (show Tryd.prog.globalNamed "loop.example/g00862/impl.wireWords" = some 1 by kernel_rfl) (show (Tryd.prog.globals[1]?).map (·.type) = some 65 by kernel_rfl) (show Tryd.prog.underlying 65 = some (.array 6 9) by kernel_rfl) (show Tryd.prog.underlying 9 = some .string by kernel_rfl) (by kernel_rfl) (by kernel_rfl) h1
 ·cases hgl
theorem trodVars_two {H : Type} {enc : TypeId × Value → H} {P : Program} {w : World} {sp : Nat → Bool} {a b : String} {gs : List (DataW H)} {q : List MemPlace} (h : DataW.TrodVars enc P w sp [a, b] gs q) : ∃ g1 g2, gs = [g1, g2] := by
 match gs, h with
 | [g1, g2], _ => exact ⟨g1, g2, rfl⟩
 | [], h => exact h.elim
 | [_], h => obtain ⟨_, _, _, _, _, _, _, _, _, _, h2, _⟩ := h; exact h2.elim
 | _ :: _ :: _ :: _, h =>
  obtain ⟨_, _, _, _, _, _, _, _, _, _, h2, _⟩ := h
  obtain ⟨_, _, _, _, _, _, _, _, _, _, h3, _⟩ := h2
  exact h3.elim
def varsRead (P : Program) (n : String) : Bool := match P.globalNamed n with
 | some g => (match (P.globals[g]?).map (·.type) with | some t => P.readableRec t && decide (t < P.types.size) | none => true)
 | none => true
theorem below_trodVars {H : Type} {enc : TypeId × Value → H} {P : Program} (hl : laidOutB P = true) {W W' : World} (hb : Below W.heap.size W W') :
 ∀ {ns : List String} {ds : List (DataW H)} {ps : List MemPlace}, ns.all (varsRead P) = true → DataW.TrodVars enc P W (fun _ => true) ns ds ps → (∀ x ∈ ps, x.block < W.heap.size) → DataW.TrodVars enc P W' (fun b => decide (b < W.heap.size)) ns ds ps
 | [], [], _, _, h, _ => h
 | n :: ns, d :: ds, _, hr, ⟨g, t, cs, fuel, p, q, h1, h2, h3, h4, h5, e⟩, hlt => by
  subst e
  rw [List.all_cons, Bool.and_eq_true] at hr
  have hr1 := hr.1
  unfold varsRead at hr1
  rw [h1] at hr1
  dsimp only at hr1
  rw [h2] at hr1
  simp only [Bool.and_eq_true, decide_eq_true_eq] at hr1
  have h3' : W'.var? P n = some cs := by
   unfold World.var? at h3 ⊢
   rw [h1] at h3 ⊢
   dsimp only [Option.bind] at h3 ⊢
   split at h3
   case h_1 cs' T fr heq =>
    cases h3
    rw [hb.block g (Array.getElem?_eq_some_iff.1 heq).1, heq]
   case h_2 => cases h3
  obtain ⟨fuel', h6⟩ := Below.trod hl hr1.1 hr1.2 (v := .agg cs) ⟨fuel, h4⟩ hb (fun x hx => hlt x (by simp [hx]))
  exact ⟨g, t, cs, fuel', p, q, h1, h2, h3', h6, below_trodVars hl hb hr.2 h5 (fun x hx => hlt x (by simp [hx])), rfl⟩
 | [], _ :: _, _, _, h, _ => h.elim
 | _ :: _, [], _, _, h, _ => h.elim
theorem law_postV {H : Type} {enc : TypeId × Value → H} {P : Program} {f : Func} {s : ChangeSpec} {W W' : World} {args : Array Value} {ds gs : List (DataW H)} {p q : List MemPlace} {tb : TypeId} (hl : laidOutB P = true) (hvars : s.vars.all (varsRead P) = true)
 (hread : f.params.toList.all (fun t => P.readableRec t && decide (t < P.types.size)) = true) (hres : f.resultTypes = #[tb]) (hbool : P.underlying tb = some .bool)
 (hW : DataW.Whole enc P f.params.toList s.vars false W args.toList ds gs (p ++ q)) (hA : DataW.TrodAll enc P W 0 (fun _ => true) true f.params.toList args.toList ds p) (hV : DataW.TrodVars enc P W (fun _ => true) s.vars gs q)
 (hfn : s.fn H (ds ++ gs) = { results := [.lit (.bool true)], args := ds, vars := gs }) (hb : Below W.heap.size W W') :
 s.post enc P f false true false false W args (.bool true) W' := by
 refine ⟨ds, gs, p ++ q, [], p, q, hW, ?_, ?_, ?_, hb.frame _, fun h => by cases h⟩
 ·rw [hfn, hres]
  exact trodAll_mk1 (shut_bool hbool true)
 ·rw [hfn]
  refine Zef hl hb (fun t ht => ?_) hA (fun x hx => hW.lt x (by simp [hx]))
  have := List.all_eq_true.1 hread t ht
  simpa using this
 ·rw [hfn]
  exact below_trodVars hl hb hvars hV (fun x hx => hW.lt x (by simp [hx]))
set_option maxRecDepth 100000 in
theorem lifted (os : Os) (started : os.Started) (H : Type) (enc : TypeId × Value → H) :
 ReturnsInHanded {} Tryd.checked os 3 .any (fun w args => (Rows.fnExactParseNetlistSpec.pre enc Tryd.prog Tryd.f3 [] false w args ∧ laidMetH Tryd.prog Rows.fnExactParseNetlistRow.laid w) ∧ sizedMet enc Tryd.prog Tryd.f3 (OpenSpec.ofChange Rows.fnExactParseNetlistSpec) false w args) (Rows.fnExactParseNetlistSpec.post enc Tryd.prog Tryd.f3 false true false false) := by
 refine returnsInHanded_of_change_and (C := Tryd.checked) (X := fun w _ => laidMetH Tryd.prog Rows.fnExactParseNetlistRow.laid w) (fun _ _ _ hh h => h.of_heap hh) own started (by kernel_rfl) Tryd.func3
  (ChangeSpec.witness_shaped (enc := enc) (C := Tryd.checked) (os := os) (X := fun w _ => laidMetH Tryd.prog Rows.fnExactParseNetlistRow.laid w) false (World.laidAll Tryd.prog os Rows.fnExactParseNetlistRow.laid) #[.string ⟨#[]⟩] 8 (World.laidAll_os _ _ _) (World.shaped_of_ZipB (by kernel_rfl) (by kernel_rfl)) (by kernel_rfl) (by kernel_rfl) (by kernel_rfl) (door_met os _)) ?_
 intro W base args ds gs before hval0 hW hcnd _ hL _
 have hg : GOk W (fun b => b < W.heap.size) := gok_of hL
 have hval : ∀ (j : Nat) t v, Tryd.f3.params[j]? = some t → args[j]? = some v → Value.okWide Tryd.prog W .any base t v := hval0
 have hW' := hW
 obtain ⟨p, q, hA0, hV, rfl, hfz, hnd⟩ := hW
 have hA : DataW.TrodAll enc Tryd.prog W 0 (fun _ => true) true Tryd.f3.params.toList args.toList ds p := hA0
 have hA1 := hA
 rw [Tryd.params3] at hA hval
 obtain ⟨v0, vs0, d0, ds0, p0, q0, hargs, rfl, rfl, h0, r0⟩ := trodAll_cons hA
 obtain ⟨rfl, rfl, rfl⟩ := trodAll_nil r0
 obtain rfl : args = #[v0] := by cases args; simp_all
 obtain ⟨g1, g2, rfl⟩ := trodVars_two (show DataW.TrodVars enc Tryd.prog W (fun _ => true) ["loop.example/g00862/impl.kindMarks", "loop.example/g00862/impl.wireWords"] gs q from hV)
 simp only [List.append_nil] at hW' hA1
 obtain ⟨s, rfl, i0⟩ := Zs1 Tryd.underlying9 (hval 0 9 v0 rfl rfl) h0
 refine (law_ParseNetlist s  W i0 hg).mono fun e W' ⟨he, hb⟩ => ?_
 subst he
 exact ⟨_, rfl, law_postV laidOut (by kernel_rfl) (by kernel_rfl) rfl Tryd.underlying4 hW' hA1 hV rfl hb⟩
set_option maxHeartbeats 4000000 in
set_option maxRecDepth 100000 in
theorem joined : joinedFacts Tryd.pinned.checked.prog 3 Tryd.f3 Rows.fnExactParseNetlistSpec Rows.fnExactParseNetlistRow = true := by
 unfold joinedFacts
 repeat' (first | with_reducible (refine Bool.and_eq_true_iff.mpr ⟨?_, ?_⟩) | decide +kernel)
theorem proved : Rows.FnExactParseNetlistSaid :=
 OpenClaim.holds_of_wide 3 Tryd.f3 rfl rfl rfl rfl rfl rfl rfl ⟨rfl, rfl, rfl, rfl, rfl⟩ rfl rfl rfl rfl rfl (by kernel_rfl) Tryd.func3 joined
  (of_decide_eq_true (by kernel_rfl)) (by unfold Func.isWrapper; first | (rw [if_pos (by decide +kernel)]; kernel_rfl) | (rw [if_neg (by decide +kernel)]; exact ⟨rfl, rfl⟩))
  (fun os started H enc _ => lifted os started H enc)
theorem card : Rows.FnExactParseNetlistCardSaid :=
 Claim7.holds_tied_plain_at .later [] [.data, .widerDeep, .data, .pinned] true (true, "269136d91826139d3b0ad94aca70b32a205d14a55343c0576d4f569d1a533df4") false
  proved (fun _ h => by cases h) (by kernel_rfl) (fun _ h => by cases h) fnExactParseNetlist_row_tie rfl ⟨rfl, rfl⟩ (by kernel_rfl) rfl
  (fun f fn hf hfn => by
   obtain rfl : f = 3 := Option.some.inj ((show Tryd.prog.funcNamed Rows.fnExactParseNetlistRow.func = some 3 by kernel_rfl).symm.trans hf) |>.symm
   obtain rfl : fn = Tryd.f3 := (Option.some.inj (Tryd.func3.symm.trans hfn)).symm
   exact ⟨by kernel_rfl, fun j t ht => by
    rw [Tryd.params3] at ht
    have hm : t ∈ [9] := by simpa using Array.mem_of_getElem? ht
    have hall : ([9].all fun u => !Tryd.prog.wantsStandIn u) = true := by kernel_rfl
    exact (show Tryd.prog.wantsStandIn t = false by simpa using List.all_eq_true.1 hall t hm)⟩)
  (by kernel_rfl)
end Go.Proofs.YtjjobbamoeaogaaDoor.saidParseNetlist
