/-
  What the functions on nets compute, in plain Lean. No program is named here.
-/
import Derived.Test.YtnpbdphfjablbaaData
namespace Go.Proofs.Ytnpbdphfjablbaa
open Go.RowKit
set_option linter.unusedVariables false

def inB (n lo hi : Int) : Bool := decide (lo ≤ n) && decide (n ≤ hi)
theorem inB_iff {n lo hi : Int} : inB n lo hi = true ↔ lo ≤ n ∧ n ≤ hi := by simp [inB]
theorem inB_not {n lo hi : Int} : inB n lo hi = false ↔ ¬ (lo ≤ n ∧ n ≤ hi) := by rw [← Bool.not_eq_true, inB_iff]

def goInc (hi : Int) : Int → List Int → Bool
  | _, [] => true
  | p, x :: r => inB x 0 hi && decide (p < x) && goInc hi x r
def incB (hi : Int) (l : List Int) : Bool := goInc hi (-1) l

def goIdx {α : Type} (p : α → Bool) : Nat → List α → Int
  | _, [] => -1
  | k, x :: r => if p x then k else goIdx p (k + 1) r
def idxB {α : Type} (p : α → Bool) (l : List α) : Int := goIdx p 0 l
theorem goIdx_any {α : Type} (p : α → Bool) : ∀ (l : List α) (k : Nat), decide (0 ≤ goIdx p k l) = l.any p
  | [], _ => rfl
  | x :: r, k => by
    unfold goIdx
    cases h : p x with
    | true => simp [h]
    | false => simpa [h] using goIdx_any p r (k + 1)
def trB (places : Int) (t : Tr) : Bool := !t.pre.isEmpty && incB (places - 1) t.pre && incB (places - 1) t.post
def goodNet (n : Net) : Bool := inB n.places 1 30 && decide (n.trans.length ≤ 24) && n.trans.all (trB n.places)
def goBits : List UInt8 → Bool
  | [] => true
  | b :: r => (b == 48 || b == 49) && goBits r
def bitsB (s : List UInt8) (n : Int) : Bool := goBits s && decide ((s.length : Int) = n)
def goodMark (n : Net) (m : List UInt8) : Bool := goodNet n && bitsB m n.places

def enB (m : List UInt8) (t : Tr) : Bool := !t.pre.any (fun p => m.getD p.toNat 0 == 48)
def readyB (m : List UInt8) (t : Tr) : Bool := t.pre.all (fun p => m.getD p.toNat 0 == 49)
def clearM : List Int → List UInt8 → List UInt8
  | [], m => m
  | p :: r, m => clearM r (m.set p.toNat 48)
def markM : List Int → List UInt8 → Option (List UInt8)
  | [], m => some m
  | p :: r, m => if m.getD p.toNat 0 == 49 then none else markM r (m.set p.toNat 49)
def fireM (t : Tr) (m : List UInt8) : Option (List UInt8) := markM t.post (clearM t.pre m)
def optS (o : Option (List UInt8)) : List UInt8 × Bool := match o with
  | some m => (m, true)
  | none => ([], false)
def fireB (n : Net) (m : List UInt8) (t : Int) : Option (List UInt8) :=
  if inB t 0 ((n.trans.length : Int) - 1) then (match n.trans[t.toNat]? with
    | some tr => if enB m tr then fireM tr m else none
    | none => none) else none

def PlacesIn (l : List Int) (m : Nat) : Prop := ∀ p ∈ l, 0 ≤ p ∧ p < m
theorem goInc_in {hi : Int} : ∀ {l : List Int} {p : Int}, goInc hi p l = true → ∀ x ∈ l, 0 ≤ x ∧ x ≤ hi
  | [], _, _, x, hx => by simp at hx
  | y :: r, p, h, x, hx => by
    simp only [goInc, Bool.and_eq_true, inB_iff] at h
    rcases List.mem_cons.1 hx with rfl | hx
    · exact h.1.1
    · exact goInc_in h.2 x hx
theorem good_places {n : Net} {m : List UInt8} (h : goodMark n m = true) : 1 ≤ n.places ∧ n.places ≤ 30 ∧ (m.length : Int) = n.places := by
  simp only [goodMark, goodNet, bitsB, Bool.and_eq_true, inB_iff, decide_eq_true_eq] at h
  exact ⟨h.1.1.1.1, h.1.1.1.2, h.2.2⟩
theorem good_tr {n : Net} {m : List UInt8} (h : goodMark n m = true) {k : Nat} {t : Tr} (ht : n.trans[k]? = some t) : PlacesIn t.pre m.length ∧ PlacesIn t.post m.length := by
  have hp := good_places h
  simp only [goodMark, goodNet, bitsB, Bool.and_eq_true, inB_iff, decide_eq_true_eq, List.all_eq_true] at h
  have := h.1.2 t (List.mem_of_getElem? ht)
  simp only [trB, Bool.and_eq_true] at this
  exact ⟨fun p hp' => by have := goInc_in this.1.2 p hp'; omega, fun p hp' => by have := goInc_in this.2 p hp'; omega⟩
theorem good_bits {n : Net} {m : List UInt8} (h : goodMark n m = true) : goBits m = true := by
  simp only [goodMark, bitsB, Bool.and_eq_true] at h
  exact h.2.1
theorem bits_get : ∀ {m : List UInt8}, goBits m = true → ∀ (i : Nat), i < m.length → (m.getD i 0 = 48 ∨ m.getD i 0 = 49)
  | [], _, i, hi => by simp at hi
  | b :: r, h, i, hi => by
    simp only [goBits, Bool.and_eq_true, Bool.or_eq_true, beq_iff_eq] at h
    cases i with
    | zero => simpa using h.1
    | succ i => simpa using bits_get h.2 i (by simpa using hi)
theorem ready_en {m : List UInt8} {t : Tr} (h : goBits m = true) (hp : PlacesIn t.pre m.length) : readyB m t = enB m t := by
  unfold readyB enB
  rw [Bool.eq_iff_iff]
  simp only [List.all_eq_true, Bool.not_eq_true', List.any_eq_false, beq_iff_eq]
  constructor
  · intro h1 p hpm e
    rw [h1 p hpm] at e
    exact absurd e (by decide)
  · intro h1 p hpm
    obtain ⟨h0, hlt⟩ := hp p hpm
    rcases bits_get h p.toNat (by omega) with e | e
    · exact absurd e (h1 p hpm)
    · exact e

theorem clearM_length : ∀ (l : List Int) (m : List UInt8), (clearM l m).length = m.length
  | [], _ => rfl
  | p :: r, m => by rw [clearM, clearM_length r]; simp
theorem markM_length : ∀ (l : List Int) (m m' : List UInt8), markM l m = some m' → m'.length = m.length
  | [], m, m', h => by simp [markM] at h; rw [h]
  | p :: r, m, m', h => by
    unfold markM at h
    split at h
    · cases h
    · rw [markM_length r _ _ h]; simp
theorem goBits_iff : ∀ {m : List UInt8}, goBits m = true ↔ ∀ b ∈ m, b = 48 ∨ b = 49
  | [] => by simp [goBits]
  | b :: r => by simp [goBits, goBits_iff (m := r)]
theorem goBits_set {m : List UInt8} (h : goBits m = true) (i : Nat) {b : UInt8} (hb : b = 48 ∨ b = 49) : goBits (m.set i b) = true := by
  rw [goBits_iff] at h ⊢
  intro x hx
  rcases List.mem_or_eq_of_mem_set hx with hx | rfl
  · exact h x hx
  · exact hb
theorem clearM_bits : ∀ (l : List Int) (m : List UInt8), goBits m = true → goBits (clearM l m) = true
  | [], _, h => h
  | p :: r, m, h => clearM_bits r _ (goBits_set h _ (.inl rfl))
theorem markM_bits : ∀ (l : List Int) (m m' : List UInt8), goBits m = true → markM l m = some m' → goBits m' = true
  | [], m, m', h, e => by simp [markM] at e; rw [← e]; exact h
  | p :: r, m, m', h, e => by
    unfold markM at e
    split at e
    · cases e
    · exact markM_bits r _ _ (goBits_set h _ (.inr rfl)) e
theorem fireM_good {n : Net} {m m' : List UInt8} {t : Tr} (h : goodMark n m = true) (hf : fireM t m = some m') : goodMark n m' = true := by
  have hb := markM_bits _ _ _ (clearM_bits t.pre m (good_bits h)) hf
  have hl := markM_length _ _ _ hf
  rw [clearM_length] at hl
  simp only [goodMark, bitsB, Bool.and_eq_true, decide_eq_true_eq] at h ⊢
  exact ⟨h.1, hb, by rw [hl]; exact h.2.2⟩
end Go.Proofs.Ytnpbdphfjablbaa

