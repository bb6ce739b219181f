/-
  ROWS TURNED IN PLACE, in the words of the kit's contracts (Holds, putRow).
-/
import Derived.Test.YtmfplddmccggkaaIr3
import Derived.Sort.WalkB12
import Derived.Sort.Grow
import Derived.Sort.EncStr
namespace Go.Proofs.Ytmfplddmccggkaa
open Go.RowKit Go.Sort
set_option linter.unusedVariables false
set_option linter.unusedSimpArgs false
section
variable {α : Type} [Inhabited α] {enc : α → Value} {f : α → PV} {w : World} {F : Nat → Prop} {t : TypeId} {zs ys : List α} {v : Value} {fp : List Nat}
/-- What is asked of the elements: they read as one cell. -/
structure OneCell (enc : α → Value) (f : α → PV) : Prop where
  to : ∀ {w : World} {F : Nat → Prop} {x : α} {u : Value}, VR w F (f x) u → u.cells = #[enc x]
  back : ∀ (w : World) (F : Nat → Prop) (x : α), VR w F (f x) (enc x)
  cells : ∀ x, (enc x).cells = #[enc x]
  width : ∀ x, (f x).width = 1
  ne : ∀ x, f x ≠ .undef
theorem row_holds (H : OneCell enc f) {g : Nat} {cur : Array Value} (hh : w.heap[g]? = some (.cells cur t (0, 0))) (hel : Elems w F 1 (zs.map f) cur) : Holds enc w g 0 zs.toArray := by
  intro j hj
  have hj' : j < zs.length := by simpa using hj
  obtain ⟨h1, h2, u, h3, h4⟩ := hel j (f zs[j]) (by simp [hj'])
  have hc := H.to h3
  have := h4 0 (enc zs[j]) (by rw [hc]; rfl)
  refine ⟨?_, ?_⟩
  · have e1 : zs.toArray[j]! = zs[j] := by simp [hj']
    rw [e1]
    simp [World.cell?, hh]
    simpa using this
  · simp [World.frozen?, hh]
theorem row_put (H : OneCell enc f) {g cap : Nat} {cur : Array Value} (hh : w.heap[g]? = some (.cells cur t (0, 0))) (hle : ys.length ≤ cap) (hmax : cap ≤ maxLen) (hsz : cur.size = cap * 1) (n : Nat) :
    (putRow enc (Sort.ahead w n) g 0 ys.toArray).os = w.os ∧ (putRow enc (Sort.ahead w n) g 0 ys.toArray).tape = w.tape ∧ (putRow enc (Sort.ahead w n) g 0 ys.toArray).output = w.output ∧ (putRow enc (Sort.ahead w n) g 0 ys.toArray).heap.size = w.heap.size ∧
    (∀ b, b < w.heap.size → b ∉ [g] → (putRow enc (Sort.ahead w n) g 0 ys.toArray).heap[b]? = w.heap[b]?) ∧ RowR (putRow enc (Sort.ahead w n) g 0 ys.toArray) F true t 1 (ys.map f) (.slice (some ⟨g, 0, none⟩) (ys.map f).length cap) [g] := by
  have hnew : (putRow enc (Sort.ahead w n) g 0 ys.toArray).heap[g]? = some (.cells (putCells enc 0 ys.toArray cur) t (0, 0)) := by
    simp [putRow, mapBlock, Sort.ahead, Array.getElem?_modify, hh, onCells]
  refine ⟨rfl, rfl, rfl, by simp [putRow, mapBlock, Sort.ahead], fun b hb hn => ?_, .inr ⟨g, cap, _, (0, 0), rfl, rfl, hnew, fun _ => rfl, .inl (Nat.le_refl _), by simpa using hle, hmax, by simp [putCells, hsz], ?_⟩⟩
  · have : g ≠ b := fun e => hn (by simp [e])
    simp [putRow, mapBlock, Sort.ahead, Array.getElem?_modify, this]
  · intro i x hx
    rw [List.getElem?_map] at hx
    obtain ⟨y, hy, rfl⟩ := Option.map_eq_some_iff.1 hx
    refine ⟨H.width y, H.ne y, enc y, H.back _ _ y, fun j c hc => ?_⟩
    rw [H.cells y] at hc
    have hil := (List.getElem?_eq_some_iff.1 hy).1
    cases j with
    | succ j => simp at hc
    | zero =>
      simp at hc
      subst hc
      have hi : i < cur.size := by rw [hsz]; omega
      simp [putCells, hi, hil, Array.getElem?_eq_getElem]
      simp [List.getElem?_eq_getElem hil] at hy
      simp [hy]
end
theorem oneInt : OneCell (Value.int .i64) pI := ⟨fun h => by cases h; rfl, fun _ _ _ => .int _ _, fun _ => rfl, fun _ => rfl, fun _ => by simp⟩
theorem grow_old {w : World} (os : Array Obj) {b : Nat} (hb : b < w.heap.size) : (grow w os).heap[b]? = w.heap[b]? := by simp [grow, Array.getElem?_append, hb]
theorem RowR.grown {w : World} {F : Nat → Prop} {t : TypeId} {l : List PV} {v : Value} {fp : List Nat} (os : Array Obj) (hF : ∀ b, F b → b < w.heap.size) (hfp : ∀ b ∈ fp, b < w.heap.size) (h : RowR w F true t 1 l v fp) : RowR (grow w os) F true t 1 l v fp := by
  have hb : ∀ b, b < w.heap.size → (grow w os).heap[b]? = w.heap[b]? := fun b hb => by simp [grow, Array.getElem?_append, hb]
  exact h.keep ⟨fun _ h => h, fun b h => hb b (hF b h)⟩ fun b h => hb b (hfp b h)
/-- A function that turns its row in place, by its contract. -/
theorem ipOk {P : Program} {α : Type} [Inhabited α] {enc : α → Value} {f : α → PV} (H : OneCell enc f) {fid : FuncId} {fn : Func} (hf : P.funcs[fid]? = some fn) (hname : (fn.name == "runtime.NumGoroutine") = false) (hb : fn.body.isSome = true) (t : TypeId)
    (dec : List PV → Option (List α)) (hdec : ∀ l zs, dec l = some zs → l = zs.map f) (res : List α → List α) (hlen : ∀ zs, (res zs).length = zs.length) (spec : List PV → Option PV)
    (hspec : ∀ xs r, spec xs = some r → ∃ l zs, xs = [.lst l] ∧ dec l = some zs ∧ zs.length ≤ 4294967296 ∧ r = .lst ((res zs).map f))
    (C0 : ∀ w, Calls P fid #[.slice none 0 0] w fun e w' => e = .returned (.tuple #[]) ∧ w' = w)
    (C : ∀ (g cap : Nat) (zs : List α) (w : World), Holds enc w g 0 zs.toArray → g < w.heap.size → zs.length < 4611686018427387904 →
      Calls P fid #[.slice (some ⟨g, 0, none⟩) zs.length cap] w fun e w' => e = .returned (.tuple #[]) ∧ ∃ n os, w' = grow (putRow enc (Sort.ahead w n) g 0 (res zs).toArray) os) :
    FnOk P ⟨fid, [.ck (.own true t 1)], .ck .none, false, spec⟩ := by
  have hnil : res [] = [] := List.eq_nil_of_length_eq_zero (by rw [hlen]; rfl)
  refine ⟨fun args w => ?_, rfl, fun w F xs vs r hF hargs hr => ?_, fun t' sz hps _ w F l r v fp hF hnF hlt hrow hr => ?_⟩
  · have h1 : fn.name ≠ "runtime.NumGoroutine" := by simpa using hname
    have h2 : fn.body ≠ none := fun e => by rw [e] at hb; cases hb
    simp [callFunc, hf, h1, h2]
  · obtain ⟨l, zs, rfl, hz, _, rfl⟩ := hspec xs r hr
    cases hargs with
    | cons h _ ht =>
      cases ht
      obtain ⟨l0, h0, hrow⟩ := h
      rcases hrow with ⟨rfl, _, _⟩ | ⟨g, cap, cur, fr, _, h2, _⟩
      · refine (C0 w).mono fun e w' he => ?_
        obtain ⟨rfl, rfl⟩ := he
        exact ⟨_, F, [], rfl, Adds.refl w' hF, List.nodup_nil, rfl, by simp, fun hc => by cases hc⟩
      · cases h2
  · simp only [List.cons.injEq, Kd.ck.injEq, CK.own.injEq, true_and, and_true] at hps
    obtain ⟨rfl, rfl⟩ := hps
    obtain ⟨l1, zs, hl1, hz, hzl, hr1⟩ := hspec _ _ hr
    simp only [List.cons.injEq, PV.lst.injEq, and_true] at hl1
    subst hl1
    simp only [PV.lst.injEq] at hr1
    subst hr1
    obtain rfl := hdec _ _ hz
    rcases hrow with ⟨rfl, hl, rfl⟩ | ⟨g, cap, cur, fr, rfl, rfl, hh, hfr, _, hle, hmax, hsz, hel⟩
    · have hz0 : zs = [] := by simpa using hl
      subst hz0
      refine (C0 w).mono fun e w' he => ?_
      obtain ⟨rfl, rfl⟩ := he
      exact ⟨_, rfl, rfl, rfl, rfl, Nat.le_refl _, fun _ _ _ => rfl, .inl ⟨rfl, by simp [hnil], rfl⟩⟩
    · have hfr' := hfr rfl
      subst hfr'
      have hg := hlt g (by simp)
      have hle' : zs.length ≤ cap := by simpa using hle
      have hC := C g cap zs w (row_holds H hh hel) hg (by omega)
      rw [show zs.length = (zs.map f).length by simp] at hC
      refine hC.mono fun e w' he => ?_
      obtain ⟨rfl, n, os, rfl⟩ := he
      obtain ⟨e1, e2, e3, e4, e5, e6⟩ := row_put (F := F) (ys := res zs) H hh (by rw [hlen]; exact hle') hmax hsz n
      have e7 : (.slice (some ⟨g, 0, none⟩) (zs.map f).length cap : Value) = .slice (some ⟨g, 0, none⟩) ((res zs).map f).length cap := by simp [hlen]
      rw [e7]
      refine ⟨_, rfl, e1, e2, e3, by simp only [grow, Array.size_append]; omega, fun b hb hn => ?_, e6.grown os (fun b hb => by rw [e4]; exact hF b hb) (fun b hb => by rw [e4]; exact hlt b hb)⟩
      rw [grow_old os (by rw [e4]; exact hb)]
      exact e5 b hb hn
def intsOf : List PV → Option (List Int)
  | [] => some []
  | .int .i64 n :: r => (intsOf r).map (n :: ·)
  | _ => none
theorem intsOf_eq : ∀ (l : List PV) (zs : List Int), intsOf l = some zs → l = zs.map pI
  | [], zs, h => by cases h; rfl
  | x :: r, zs, h => by
    unfold intsOf at h
    split at h
    · rename_i he; cases he
    · rename_i n r' he
      cases he
      obtain ⟨ys, hy, rfl⟩ := Option.map_eq_some_iff.1 h
      rw [intsOf_eq _ _ hy]
      rfl
    · cases h
theorem intsOf_map : ∀ zs : List Int, intsOf (zs.map pI) = some zs
  | [] => rfl
  | n :: r => by simp only [List.map_cons]; unfold intsOf; rw [intsOf_map r]; rfl
def strsOf : List PV → Option (List (List UInt8))
  | [] => some []
  | .str n :: r => (strsOf r).map (n :: ·)
  | _ => none
theorem strsOf_eq : ∀ (l : List PV) (zs : List (List UInt8)), strsOf l = some zs → l = zs.map PV.str
  | [], zs, h => by cases h; rfl
  | x :: r, zs, h => by
    unfold strsOf at h
    split at h
    · rename_i he; cases he
    · rename_i n r' he
      cases he
      obtain ⟨ys, hy, rfl⟩ := Option.map_eq_some_iff.1 h
      rw [strsOf_eq _ _ hy]
      rfl
    · cases h
theorem strsOf_map : ∀ zs : List (List UInt8), strsOf (zs.map PV.str) = some zs
  | [] => rfl
  | n :: r => by simp only [List.map_cons]; unfold strsOf; rw [strsOf_map r]; rfl
/-- The plain form of a function that turns a row of numbers, of strings. -/
noncomputable def ipInts (res : List Int → List Int) : List PV → Option PV
  | [.lst l] => (intsOf l).bind fun zs => if zs.length ≤ 4294967296 then some (.lst ((res zs).map pI)) else none
  | _ => none
noncomputable def ipStrs (res : List (List UInt8) → List (List UInt8)) : List PV → Option PV
  | [.lst l] => (strsOf l).bind fun zs => if zs.length ≤ 4294967296 then some (.lst ((res zs).map PV.str)) else none
  | _ => none
theorem ipInts_spec (res : List Int → List Int) : ∀ xs r, ipInts res xs = some r → ∃ l zs, xs = [.lst l] ∧ intsOf l = some zs ∧ zs.length ≤ 4294967296 ∧ r = .lst ((res zs).map pI) := fun xs r h => by
  unfold ipInts at h
  split at h
  · obtain ⟨zs, h1, h⟩ := Option.bind_eq_some_iff.1 h
    split at h
    · rename_i hl; cases h; exact ⟨_, zs, rfl, h1, hl, rfl⟩
    · cases h
  · cases h
theorem ipStrs_spec (res : List (List UInt8) → List (List UInt8)) : ∀ xs r, ipStrs res xs = some r → ∃ l zs, xs = [.lst l] ∧ strsOf l = some zs ∧ zs.length ≤ 4294967296 ∧ r = .lst ((res zs).map PV.str) := fun xs r h => by
  unfold ipStrs at h
  split at h
  · obtain ⟨zs, h1, h⟩ := Option.bind_eq_some_iff.1 h
    split at h
    · rename_i hl; cases h; exact ⟨_, zs, rfl, h1, hl, rfl⟩
    · cases h
  · cases h
theorem oneStr : OneCell encStr PV.str := ⟨fun h => by cases h; rfl, fun _ _ _ => .str _, fun _ => rfl, fun _ => rfl, fun _ => by simp⟩
end Go.Proofs.Ytmfplddmccggkaa
