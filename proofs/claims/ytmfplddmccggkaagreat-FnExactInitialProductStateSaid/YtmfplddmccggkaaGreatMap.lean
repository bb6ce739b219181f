/-
  MAPS that a call makes: an association list in the order of insertion, its keys of a type for which the look-up is known (strings here).
-/
import Derived.Test.YtmfplddmccggkaaGreatBase
import Derived.MapKept
namespace Go.Proofs.YtmfplddmccggkaaGreat
open Go.RowKit
set_option linter.unusedVariables false

def kvFind {κ : Type} [DecidableEq κ] (k : κ) : List (κ × Value) → Nat → Option (Nat × Value)
  | [], _ => none
  | (a, v) :: r, i => if k = a then some (i, v) else kvFind k r (i + 1)
def kvGet {κ : Type} [DecidableEq κ] (k : κ) : List (κ × Value) → Option Value
  | [] => none
  | (a, v) :: r => if k = a then some v else kvGet k r
def kvSet {κ : Type} [DecidableEq κ] (k : κ) (v : Value) : List (κ × Value) → List (κ × Value)
  | [] => [(k, v)]
  | (a, u) :: r => if k = a then (a, v) :: r else (a, u) :: kvSet k v r

/-- Keys of type kt, written by 'val', are found as they are equal. -/
structure KeyOk (P : Program) (kt : TypeId) (κ : Type) [DecidableEq κ] (val : κ → Value) : Prop where
  check : ∀ (b : Bool) (k : κ) (w : World), (Instr.checkKey b 10000 kt (val k)).run P w = .ok () w
  find : ∀ (kv : List (κ × Value)) (es : List MapEntry), es.map (fun e => (e.key, e.val)) = kv.map (fun p => (val p.1, p.2)) → ∀ (k : κ) (w : World), (Instr.findKey kt (val k) es).run P w = .ok (kvFind k kv 0) w
  same : ∀ k : κ, Instr.sameBits 10000 (val k) (val k) = true

def strVal (s : List UInt8) : Value := .string ⟨s.toArray⟩
theorem strVal_beq (s t : List UInt8) : ((⟨s.toArray⟩ : ByteArray) == ⟨t.toArray⟩) = decide (s = t) := by
  rw [show ((⟨s.toArray⟩ : ByteArray) == ⟨t.toArray⟩) = (s.toArray == t.toArray) from rfl, Bool.eq_iff_iff]
  simp

theorem findNow_str (k : List UInt8) : ∀ (kv : List (List UInt8 × Value)) (es : List MapEntry) (i : Nat), es.map (fun e => (e.key, e.val)) = kv.map (fun p => (strVal p.1, p.2)) → Instr.findNow .string (strVal k) es i = some (kvFind k kv i)
  | [], [], i, _ => rfl
  | [], e :: es, i, h => by simp at h
  | p :: kv, [], i, h => by simp at h
  | (a, v) :: kv, e :: es, i, h => by
    simp only [List.map_cons, List.cons.injEq, Prod.mk.injEq] at h
    obtain ⟨⟨hk, hv⟩, ht⟩ := h
    have ih := findNow_str k kv es (i + 1) ht
    unfold Instr.findNow kvFind
    rw [hk]
    show (match some ((⟨k.toArray⟩ : ByteArray) == ⟨a.toArray⟩) with | some true => _ | some false => _ | none => _) = _
    rw [strVal_beq]
    by_cases hka : k = a
    · simp [hka, hv]
    · simp [hka, ih]

theorem keyOk_str {P : Program} {kt : TypeId} (ht : P.underlying kt = some .string) : KeyOk P kt (List UInt8) strVal where
  check := fun b k w => by
    unfold Instr.checkKey
    simp [run_underlying ht, strVal]
  find := fun kv es h k w => by
    unfold Instr.findKey
    simp [run_underlying ht, findNow_str k kv es 0 h]
  same := fun k => by show ((⟨k.toArray⟩ : ByteArray) == ⟨k.toArray⟩) = true; rw [strVal_beq]; simp

/-- Block b is a map that reads as kv. -/
def MapIs {κ : Type} (val : κ → Value) (w : World) (b : Nat) (kv : List (κ × Value)) : Prop :=
  ∃ es clock, w.heap[b]? = some (.map es clock) ∧ es.toList.map (fun e => (e.key, e.val)) = kv.map (fun p => (val p.1, p.2))

section
variable {κ : Type} {val : κ → Value} {w w' : World} {b : Nat} {kv : List (κ × Value)}
theorem MapIs.lt (h : MapIs val w b kv) : b < w.heap.size := by
  obtain ⟨es, clock, hb, _⟩ := h
  rcases Nat.lt_or_ge b w.heap.size with hlt | hge
  · exact hlt
  · rw [Array.getElem?_eq_none hge] at hb; cases hb
theorem MapIs.keep (h : MapIs val w b kv) (e : w'.heap[b]? = w.heap[b]?) : MapIs val w' b kv := by
  obtain ⟨es, clock, hb, hr⟩ := h
  exact ⟨es, clock, e.trans hb, hr⟩
theorem MapIs.below {B : Nat} (h : MapIs val w b kv) (hb : Below B w w') (hlt : b < B) : MapIs val w' b kv := h.keep (hb.block b hlt)
theorem MapIs.new (w : World) (val : κ → Value) : MapIs val (w.alloc (.map #[] 0)) w.heap.size [] := ⟨#[], 0, (MapKept.heap_alloc w _).1, rfl⟩

end
section
variable {κ : Type} [DecidableEq κ] {val : κ → Value} {P : Program} {kt et T : TypeId} {w w' : World} {b : Nat} {kv : List (κ × Value)}
theorem kvFind_get (k : κ) : ∀ (kv : List (κ × Value)) (i : Nat), (kvFind k kv i).map (·.2) = kvGet k kv
  | [], _ => rfl
  | (a, v) :: r, i => by unfold kvFind kvGet; split <;> simp [kvFind_get k r]

/-- 'm[k]'. -/
theorem MapIs.lookup (K : KeyOk P kt κ val) (hT : P.underlying T = some (.map kt et)) (h : MapIs val w b kv) {z : Value} (hz : (zeroValue et).run P w = .ok z w) (k : κ) :
    (Instr.lookup T (.map (some b)) (val k) false).run P w = .ok ((kvGet k kv).getD z) w := by
  obtain ⟨es, clock, hb, hr⟩ := h
  have hf := K.find kv es.toList hr k w
  have hc := K.check es.isEmpty k w
  rw [← kvFind_get k kv 0]
  cases hk : kvFind k kv 0 with
  | none => rw [hk] at hf; simp [Instr.lookup, run_underlying hT, MapKept.run_getObj_map hb, hc, hf, hz]
  | some p => rw [hk] at hf; simp [Instr.lookup, run_underlying hT, MapKept.run_getObj_map hb, hc, hf]
/-- 'v, ok := m[k]'. -/
theorem MapIs.lookup_ok (K : KeyOk P kt κ val) (hT : P.underlying T = some (.map kt et)) (h : MapIs val w b kv) {z : Value} (hz : (zeroValue et).run P w = .ok z w) (k : κ) :
    (Instr.lookup T (.map (some b)) (val k) true).run P w = .ok (.tuple #[(kvGet k kv).getD z, .bool (kvGet k kv).isSome]) w := by
  obtain ⟨es, clock, hb, hr⟩ := h
  have hf := K.find kv es.toList hr k w
  have hc := K.check es.isEmpty k w
  rw [← kvFind_get k kv 0]
  cases hk : kvFind k kv 0 with
  | none => rw [hk] at hf; simp [Instr.lookup, run_underlying hT, MapKept.run_getObj_map hb, hc, hf, hz]
  | some p => rw [hk] at hf; simp [Instr.lookup, run_underlying hT, MapKept.run_getObj_map hb, hc, hf]

theorem kvSet_none (k : κ) (v : Value) : ∀ (kv : List (κ × Value)) (i : Nat), kvFind k kv i = none → kvSet k v kv = kv ++ [(k, v)]
  | [], _, _ => rfl
  | (a, u) :: r, i, h => by
    unfold kvFind at h
    unfold kvSet
    split at h
    · cases h
    · rename_i hka
      rw [if_neg hka, kvSet_none k v r (i + 1) h]; rfl
theorem kvSet_some (k : κ) (v : Value) : ∀ (kv : List (κ × Value)) (i j : Nat) (u : Value), kvFind k kv i = some (j, u) → i ≤ j ∧ (j - i) < kv.length ∧ (kv[j - i]?).map (·.1) = some k ∧ kvSet k v kv = kv.set (j - i) (k, v)
  | [], _, _, _, h => by simp [kvFind] at h
  | (a, u') :: r, i, j, u, h => by
    unfold kvFind at h
    unfold kvSet
    split at h
    · rename_i hka
      simp only [Option.some.injEq, Prod.mk.injEq] at h
      obtain ⟨rfl, rfl⟩ := h
      subst hka
      simp
    · rename_i hka
      obtain ⟨h1, h2, h3, h4⟩ := kvSet_some k v r (i + 1) j u h
      have e : j - i = (j - (i + 1)) + 1 := by omega
      refine ⟨by omega, by rw [List.length_cons]; omega, by rw [e]; simpa using h3, by rw [if_neg hka, h4, e]; rfl⟩

end
section
variable {w w' : World} {b : Nat}
/-- What a store into the map leaves: the map turned, all other blocks as they were. -/
def MapTurned (w w' : World) (b : Nat) : Prop := w'.os = w.os ∧ w'.tape = w.tape ∧ w'.output = w.output ∧ w'.heap.size = w.heap.size ∧ ∀ i, i ≠ b → w'.heap[i]? = w.heap[i]?
theorem MapTurned.below {B : Nat} {a : World} (h : MapTurned w w' b) (hb : Below B a w) (hB : B ≤ b) : Below B a w' :=
  ⟨h.1.trans hb.os, h.2.1.trans hb.tape, h.2.2.1.trans hb.output, by rw [h.2.2.2.1]; exact hb.size, fun i hi => (h.2.2.2.2 i (by omega)).trans (hb.block i hi)⟩
theorem MapTurned.agree {D : Nat → Prop} (h : MapTurned w w' b) (hD : ∀ i, D i → i ≠ b) : Agree D w w' := ⟨fun p hp => World.cell?_of_block (h.2.2.2.2 _ (hD _ hp))⟩
theorem MapTurned.cell {b' o : Nat} (h : MapTurned w w' b) (hb : b' ≠ b) : w'.cell? ⟨b', o, none⟩ = w.cell? ⟨b', o, none⟩ := World.cell?_of_block (h.2.2.2.2 _ hb)
theorem MapTurned.frozen {b' o : Nat} (h : MapTurned w w' b) (hb : b' ≠ b) : w'.frozen? ⟨b', o, none⟩ = w.frozen? ⟨b', o, none⟩ := World.frozen?_of_block (h.2.2.2.2 _ hb)

end
section
variable {κ : Type} [DecidableEq κ] {val : κ → Value} {P : Program} {kt et T : TypeId} {w w' : World} {b : Nat} {kv : List (κ × Value)}
/-- 'm[k] = v'. -/
theorem MapIs.update (K : KeyOk P kt κ val) (hT : P.underlying T = some (.map kt et)) (h : MapIs val w b kv) (k : κ) (v : Value) :
    ∃ w', (Instr.mapUpdate T (.map (some b)) (val k) v).run P w = .ok () w' ∧ MapIs val w' b (kvSet k v kv) ∧ MapTurned w w' b := by
  have hlt := h.lt
  obtain ⟨es, clock, hb, hr⟩ := h
  have hf := K.find kv es.toList hr k w
  have hc := K.check false k w
  have hlen : es.toList.length = kv.length := by have := congrArg List.length hr; simpa using this
  have hset : ∀ o : Obj, (setObj b o).run P w = .ok () { w with heap := w.heap.setIfInBounds b o } := fun o => by simp [setObj, Sem.run, hb]
  have hturn : ∀ o : Obj, MapTurned w { w with heap := w.heap.setIfInBounds b o } b := fun o => ⟨rfl, rfl, rfl, by simp, fun i hi => by simp [Array.getElem?_setIfInBounds_ne (Ne.symm hi)]⟩
  have hat : ∀ o : Obj, ({ w with heap := w.heap.setIfInBounds b o } : World).heap[b]? = some o := fun o => by simp [hlt]
  cases hk : kvFind k kv 0 with
  | none =>
    rw [hk] at hf
    refine ⟨_, by simp [Instr.mapUpdate, run_underlying hT, MapKept.run_getObj_map hb, hc, hf, hset]; rfl, ⟨_, _, hat _, ?_⟩, hturn _⟩
    rw [kvSet_none k v kv 0 hk]
    simp [hr]
  | some p =>
    obtain ⟨j, u⟩ := p
    rw [hk] at hf
    obtain ⟨_, h2, h3, h4⟩ := kvSet_some k v kv 0 j u hk
    simp only [Nat.sub_zero] at h2 h3 h4
    have hj : j < es.toList.length := by omega
    have hkey : (es[j]?).map (·.key) = some (val k) := by
      have e1 : (es.toList.map (fun e => (e.key, e.val)))[j]? = (kv.map (fun p => (val p.1, p.2)))[j]? := by rw [hr]
      simp only [List.getElem?_map] at e1
      cases hkj : kv[j]? with
      | none => rw [hkj] at h3; cases h3
      | some q =>
        rw [hkj] at h3 e1
        simp at h3
        cases hej : es[j]? with
        | none => simp [hej] at e1
        | some m => simp [hej] at e1; simp [e1.1, h3]
    have hstay : ((es[j]?).map (·.key)).getD (val k) = val k := by rw [hkey]; rfl
    refine ⟨_, by simp [Instr.mapUpdate, run_underlying hT, MapKept.run_getObj_map hb, hc, hf, Instr.keyThatStays, hkey, K.same, hset]; rfl, ⟨_, _, hat _, ?_⟩, hturn _⟩
    rw [h4]
    apply List.ext_getElem?
    intro i
    have e1 : (es.toList.map (fun e => (e.key, e.val)))[i]? = (kv.map (fun p => (val p.1, p.2)))[i]? := by rw [hr]
    by_cases hij : j = i
    · subst hij
      simp [h2]
      simp at hj
      simp [hj]
    · simp only [List.getElem?_map, List.getElem?_set_ne hij] at e1 ⊢
      rw [← e1]
      simp [hij]
end
end Go.Proofs.YtmfplddmccggkaaGreat
