/-
  PLAIN LAWS of what the functions compute that FnExactInconsistentSignals reaches.
-/
import Derived.Test.YtnpbdphfjablbaaInconsistentSignalsF
import Derived.Test.YtnpbdphfjablbaaExPure
import Derived.Test.YtnpbdphfjablbaaReachFacts

namespace Go.Proofs.Ytnpbdphfjablbaa
open Go.RowKit
set_option linter.unusedVariables false
set_option linter.unusedSimpArgs false
theorem p_r_l1In (n lo hi : Int) : s_r_l1In [pI n, pI lo, pI hi] = some (pB (decide (lo ≤ n) && decide (n ≤ hi))) := by
  show (fun x0 x1 x2 => s_r_l1In [x0, x1, x2]) _ _ _ = _
  rw [sh_r_l1In]
  by_cases h : lo ≤ n <;> simp only [h, EVS]
/-- A name's byte. -/
def nameB (first : Bool) (b : UInt8) : Bool := (decide ((97 : Int) ≤ b.toNat) && decide ((b.toNat : Int) ≤ 122)) || (!first && (!decide ((b.toNat : Int) < 48) && !decide ((57 : Int) < b.toNat)))
def nameGo : Bool → List UInt8 → Bool
  | _, [] => true
  | f, b :: r => nameB f b && nameGo false r
def isNameP (s : List UInt8) : Bool := nameGo true s && (decide ((1 : Int) ≤ s.length) && decide ((s.length : Int) ≤ 6))
theorem p_r_l2Name (s : List UInt8) (hs : s.length ≤ 9223372036854775807) : s_r_l2Name [.str s] = some (pB (isNameP s)) := by
  show (fun x0 => s_r_l2Name [x0]) _ = _
  rw [sh_r_l2Name]
  refine (congrArg (scOnly true) (loopR_go (R := PV) (fun k : Nat => [pI (Int.ofNat k)]) (fun k => s.length + 1 - k) (fun k => some (pB (nameGo (k == 0) (s.drop k) && (decide ((1 : Int) ≤ s.length) && decide ((s.length : Int) ≤ 6))))) _ (fun again k ih => ?_) _ 0 (by omega))).trans ?_
  · by_cases hk : k < s.length
    · obtain ⟨b, hb⟩ : ∃ b, s[k]? = some b := ⟨s[k], List.getElem?_eq_getElem hk⟩
      have hd : s.drop k = b :: s.drop (k + 1) := by
        obtain ⟨h1, rfl⟩ := List.getElem?_eq_some_iff.1 hb
        exact List.drop_eq_getElem_cons h1
      have hlt : decide ((k : Int) < s.length) = true := by simpa using hk
      have hw : IntKind.i64.wrap ((k : Int) + 1) = ((k + 1 : Nat) : Int) := by rw [wrap_of (by omega) (by omega)]; omega
      have hnext := ih (k + 1) (by omega)
      simp only [Int.ofNat_eq_natCast] at hnext
      have hk0 : decide ((k : Int) = 0) = (k == 0) := by rw [Bool.eq_iff_iff]; simp
      rw [hd]
      have hk1 : (k + 1 == 0) = false := rfl
      rw [hk1] at hnext
      have ev1 := hlt
      have ev2 := byteV_at (k := .i64) hb
      simp only [nameGo, nameB, hlt, byteV_at hb, hk0, hw, hnext, EVS]
      by_cases c1 : (97 : Int) ≤ b.toNat
      all_goals simp only [c1, byteV_at hb, EVS]
      by_cases c2 : (b.toNat : Int) ≤ 122
      all_goals try simp only [c2, byteV_at hb, EVS]
      all_goals try simp only [hk0]
      all_goals try (cases c5 : (k == 0))
      all_goals try simp only [c5, byteV_at hb, EVS]
      all_goals try (by_cases c3 : (b.toNat : Int) < 48)
      all_goals try simp only [c3, byteV_at hb, EVS]
      all_goals try (by_cases c4 : (57 : Int) < b.toNat)
      all_goals try simp only [c4, byteV_at hb, EVS]
    · have hd : s.drop k = [] := List.drop_eq_nil_of_le (by omega)
      have hlt : decide ((k : Int) < s.length) = false := by simpa using hk
      rw [hd]
      simp only [nameGo, hlt, p_r_l1In, EVS]
  · simp only [isNameP, List.drop_zero, beq_self_eq_true, EVS]
end Go.Proofs.Ytnpbdphfjablbaa

namespace Go.Proofs.Ytnpbdphfjablbaa
open Go.RowKit
set_option linter.unusedVariables false
set_option linter.unusedSimpArgs false
theorem lt_of_some {α : Type} {l : List α} {k : Nat} {x : α} (h : l[k]? = some x) : k < l.length := (List.getElem?_eq_some_iff.1 h).1
theorem next_w {k n : Nat} (h : k < n) (hn : n ≤ 9223372036854775807) : IntKind.i64.wrap ((k : Int) + 1) = ((k + 1 : Nat) : Int) := by rw [wrap_of (by omega) (by omega)]; omega
theorem lt_d {k n : Nat} (h : k < n) : decide ((k : Int) < (n : Int)) = true := by simpa using h
theorem ge_d {n : Nat} : decide ((n : Int) < (n : Int)) = false := by simp
end Go.Proofs.Ytnpbdphfjablbaa

namespace Go.Proofs.Ytnpbdphfjablbaa
open Go.RowKit
set_option linter.unusedVariables false
set_option linter.unusedSimpArgs false
abbrev eSig (s : List UInt8 × Int) : PV := .agg [.str s.1, pI s.2]
def inR (n lo hi : Int) : Bool := decide (lo ≤ n) && decide (n ≤ hi)
def sigOk (l : List (List UInt8 × Int)) (k : Nat) (s : List UInt8 × Int) : Bool := (isNameP s.1 && inR s.2 1 3) && allK (fun _ y => !decide (s.1 = y.1)) 0 (l.take k)
def sigsP (l : List (List UInt8 × Int)) : Bool := allK (sigOk l) 0 l && inR l.length 1 8
theorem okEl_eSig (x : List UInt8 × Int) : okEl 2 (eSig x) = true := rfl
theorem p_r_l2Signals (l : List (List UInt8 × Int)) (hl : l.length ≤ 9223372036854775807) (hs : ∀ s ∈ l, s.1.length ≤ 9223372036854775807) : s_r_l2Signals [.lst (l.map eSig)] = some (pB (sigsP l)) := by
  show (fun x0 => s_r_l2Signals [x0]) _ = _
  rw [sh_r_l2Signals]
  simp only [EVS]
  refine (congrArg (scOnly true) (rangeAll (R := PV) l (sigOk l) (some (pB false)) (some (pB (inR l.length 1 8))) _ hl (fun again k s hb => ?_) (fun again => ?_))).trans ?_
  · have hk := lt_of_some hb
    have hi : idxV (.lst (l.map eSig)) (.int .i64 (k : Int)) = some (eSig s) := idx_map hb
    have hc : cutL 2 (.lst (l.map eSig)) none (some (.int .i64 (k : Int))) = some (.lst ((l.take k).map eSig)) := cut_map okEl_eSig (by omega)
    have hn := p_r_l2Name s.1 (hs s (List.mem_of_getElem? hb))
    simp only [lt_d hk, next_w hk hl, hi, eSig, hn, p_r_l1In, sigOk, inR, EVS]
    obtain c1 | c1 := (Bool.eq_false_or_eq_true (isNameP s.1)).symm <;> simp only [c1, p_r_l1In, EVS]
    obtain c2 | c2 := (Bool.eq_false_or_eq_true (decide (1 ≤ s.2) && decide (s.2 ≤ 3))).symm <;> simp only [c2, EVS]
    simp only [hc, EVS]
    refine (rangeAll (R := PV) (l.take k) (fun _ y => !decide (s.1 = y.1)) (some (pB false)) (again [pI ((k + 1 : Nat) : Int)]) _ (by simp; omega) (fun again' j y hy => ?_) (fun again' => ?_)).trans ?_
    · have hj := lt_of_some hy
      have hi' : idxV (.lst ((l.take k).map eSig)) (.int .i64 (j : Int)) = some (eSig y) := idx_map hy
      simp only [lt_d hj, next_w hj (by simp; omega), hi', eSig, EVS]
      cases c3 : decide (s.1 = y.1) <;> simp only [c3, EVS]
    · simp only [ge_d, next_w hk hl, EVS]
    · rfl
  · simp only [ge_d, p_r_l1In, inR, EVS]
  · unfold sigsP
    cases allK (sigOk l) 0 l <;> simp only [EVS]
end Go.Proofs.Ytnpbdphfjablbaa

namespace Go.Proofs.Ytnpbdphfjablbaa
open Go.RowKit
set_option linter.unusedVariables false
set_option linter.unusedSimpArgs false
abbrev Fits {α : Type} (l : List α) : Prop := l.length ≤ 9223372036854775807
end Go.Proofs.Ytnpbdphfjablbaa

namespace Go.Proofs.Ytnpbdphfjablbaa
open Go.RowKit
set_option linter.unusedVariables false
set_option linter.unusedSimpArgs false
end Go.Proofs.Ytnpbdphfjablbaa

namespace Go.Proofs.Ytnpbdphfjablbaa
open Go.RowKit
set_option linter.unusedVariables false
set_option linter.unusedSimpArgs false
theorem p_i_within (n lo hi : Int) : s_i_within [pI n, pI lo, pI hi] = some (pB (inR n lo hi)) := by
  show (fun x0 x1 x2 => s_i_within [x0, x1, x2]) _ _ _ = _
  rw [sh_i_within]
  unfold inR
  by_cases h : lo ≤ n <;> simp only [h, EVS]
def nameB' (k : Nat) (b : UInt8) : Bool := (decide ((97 : Int) ≤ b.toNat) && decide ((b.toNat : Int) ≤ 122)) || (!decide ((k : Int) = 0) && (decide ((48 : Int) ≤ b.toNat) && decide ((b.toNat : Int) ≤ 57)))
def nameP' (s : List UInt8) : Bool := allK nameB' 0 s && inR s.length 1 6
theorem p_i_isName (s : List UInt8) (hs : s.length ≤ 9223372036854775807) : s_i_isName [.str s] = some (pB (nameP' s)) := by
  show (fun x0 => s_i_isName [x0]) _ = _
  rw [sh_i_isName]
  refine (congrArg (scOnly true) (rangeAll (R := PV) s nameB' (some (pB false)) (some (pB (inR s.length 1 6))) _ hs (fun again k b hb => ?_) (fun again => ?_))).trans ?_
  · have hk := lt_of_some hb
    simp only [nameB', lt_d hk, next_w hk hs, byteV_at hb, EVS]
    obtain c1 | c1 := (Bool.eq_false_or_eq_true (decide ((97 : Int) ≤ b.toNat))).symm <;> simp only [c1, byteV_at hb, EVS]
    all_goals (obtain c2 | c2 := (Bool.eq_false_or_eq_true (decide ((b.toNat : Int) ≤ 122))).symm <;> try simp only [c2, byteV_at hb, EVS])
    all_goals (obtain c3 | c3 := (Bool.eq_false_or_eq_true (decide ((48 : Int) ≤ b.toNat))).symm <;> try simp only [c3, byteV_at hb, EVS])
    all_goals (obtain c4 | c4 := (Bool.eq_false_or_eq_true (decide ((b.toNat : Int) ≤ 57))).symm <;> try simp only [c4, byteV_at hb, EVS])
    all_goals (obtain c5 | c5 := (Bool.eq_false_or_eq_true (decide ((k : Int) = 0))).symm <;> try simp only [c5, EVS])
  · simp only [ge_d, p_i_within, EVS]
  · unfold nameP'
    cases allK nameB' 0 s <;> simp only [EVS]
theorem nameGo_all : ∀ (l : List UInt8) (k : Nat), nameGo (k == 0) l = allK nameB' k l
  | [], _ => rfl
  | b :: r, k => by
    have h := nameGo_all r (k + 1)
    have h1 : (k + 1 == 0) = false := rfl
    rw [h1] at h
    unfold nameGo allK
    rw [h]
    congr 1
    unfold nameB nameB'
    have e1 : decide ((48 : Int) ≤ b.toNat) = !decide ((b.toNat : Int) < 48) := by rw [Bool.eq_iff_iff]; simp
    have e2 : decide ((b.toNat : Int) ≤ 57) = !decide ((57 : Int) < b.toNat) := by rw [Bool.eq_iff_iff]; simp
    have e3 : decide ((k : Int) = 0) = (k == 0) := by rw [Bool.eq_iff_iff]; simp
    rw [e1, e2, e3]
theorem name_eq (s : List UInt8) : isNameP s = nameP' s := by
  unfold isNameP nameP' inR
  rw [← nameGo_all s 0]
  rfl
theorem p_i_isName' (s : List UInt8) (hs : s.length ≤ 9223372036854775807) : s_i_isName [.str s] = some (pB (isNameP s)) := (p_i_isName s hs).trans (by rw [name_eq])
end Go.Proofs.Ytnpbdphfjablbaa

namespace Go.Proofs.Ytnpbdphfjablbaa
open Go.RowKit
set_option linter.unusedVariables false
set_option linter.unusedSimpArgs false
/-- The first index of an element that answers. -/
def ixf {α : Type} (q : α → Bool) : Nat → List α → Int
  | _, [] => -1
  | k, x :: r => if q x = true then (k : Int) else ixf q (k + 1) r
theorem rgo_ixf {α : Type} (q : α → Bool) : ∀ (l : List α) (k : Nat), rgo (fun k x => if q x = true then some (some (pI (k : Int))) else none) (some (pI (-1))) k l = some (pI (ixf q k l))
  | [], k => rfl
  | x :: r, k => by
    unfold rgo ixf
    cases q x
    · simp [rgo_ixf q r (k + 1)]
    · simp
theorem ixf_ge {α : Type} (q : α → Bool) : ∀ (l : List α) (k : Nat), decide ((0 : Int) ≤ ixf q k l) = !allK (fun _ x => !q x) k l
  | [], k => rfl
  | x :: r, k => by
    unfold ixf allK
    cases q x
    · simp [ixf_ge q r (k + 1)]
    · simp
theorem rangeIx {α : Type} (l : List α) (q : α → Bool) (f : (List PV → Option PV) → List PV → Option PV) (hl : l.length ≤ 9223372036854775807)
    (h1 : ∀ again k x, l[k]? = some x → f again [pI (Int.ofNat k)] = if q x = true then some (pI (k : Int)) else again [pI (Int.ofNat (k + 1))])
    (h2 : ∀ again, f again [pI (Int.ofNat l.length)] = some (pI (-1))) : loopR f 18446744073709551616 [pI (Int.ofNat 0)] = some (pI (ixf q 0 l)) := by
  rw [range1 l (fun k x => if q x = true then some (some (pI (k : Int))) else none) (some (pI (-1))) f hl (fun again k x hx => ?_) h2, rgo_ixf]
  rw [h1 again k x hx]
  cases q x <;> simp
theorem caps1 (l : List PV) : capsOf 1 (.tup [.agg l]) = some [.agg l] := by simp [capsOf, PV.parts, PV.isU]
theorem p_i_areSignals_1 (a x : List UInt8 × Int) : s_i_areSignals_1 [eSig a, eSig x] = some (pB (decide (a.1 = x.1))) := by
  show (fun x0 x1 => s_i_areSignals_1 [x0, x1]) _ _ = _
  rw [sh_i_areSignals_1]
  simp only [eSig, List.drop_zero, EVS]
theorem p_g_slices_IndexFunc_Signal__i_areSignals_1 (l : List (List UInt8 × Int)) (x : List UInt8 × Int) (hl : Fits l) : s_g_slices_IndexFunc_Signal__i_areSignals_1 [.lst (l.map eSig), .tup [eSig x]] = some (pI (ixf (fun a => decide (a.1 = x.1)) 0 l)) := by
  show (fun x0 x1 => s_g_slices_IndexFunc_Signal__i_areSignals_1 [x0, x1]) _ _ = _
  rw [sh_g_slices_IndexFunc_Signal__i_areSignals_1]
  unfold Fits at hl
  simp only [EVS]
  refine (congrArg (scOnly true) (rangeIx l (fun a => decide (a.1 = x.1)) _ hl (fun again k a hb => ?_) (fun again => ?_))).trans ?_
  · have hk := lt_of_some hb
    have hi : idxV (.lst (l.map eSig)) (.int .i64 (k : Int)) = some (eSig a) := idx_map hb
    have g := p_i_areSignals_1 a x
    simp only [eSig] at g
    simp only [lt_d hk, next_w hk hl, hi, eSig, caps1, List.cons_append, List.nil_append, g, EVS]
  · simp only [ge_d, EVS]
    rfl
  · simp only [EVS]
theorem p_g_slices_ContainsFunc_Signal__i_areSignals_1 (l : List (List UInt8 × Int)) (x : List UInt8 × Int) (hl : Fits l) : s_g_slices_ContainsFunc_Signal__i_areSignals_1 [.lst (l.map eSig), .tup [eSig x]] = some (pB (!allK (fun _ a => !decide (a.1 = x.1)) 0 l)) := by
  show (fun x0 x1 => s_g_slices_ContainsFunc_Signal__i_areSignals_1 [x0, x1]) _ _ = _
  rw [sh_g_slices_ContainsFunc_Signal__i_areSignals_1]
  simp only [p_g_slices_IndexFunc_Signal__i_areSignals_1 l x hl, ixf_ge (fun a : List UInt8 × Int => decide (a.1 = x.1)) l 0, EVS]
end Go.Proofs.Ytnpbdphfjablbaa

namespace Go.Proofs.Ytnpbdphfjablbaa
open Go.RowKit
set_option linter.unusedVariables false
set_option linter.unusedSimpArgs false
end Go.Proofs.Ytnpbdphfjablbaa

namespace Go.Proofs.Ytnpbdphfjablbaa
open Go.RowKit
set_option linter.unusedVariables false
set_option linter.unusedSimpArgs false
theorem eqPin (a c : Int) (b d : Bool) : eqV (some [(0, TD.int .i64), (1, TD.bool)]) .struct (.agg [pI a, pB b]) (.agg [pI c, pB d]) = some (decide (a = c) && (b == d)) := by
  simp [eqV, eqAt, scEq, beq_eq_decide]
end Go.Proofs.Ytnpbdphfjablbaa

namespace Go.Proofs.Ytnpbdphfjablbaa
open Go.RowKit
set_option linter.unusedVariables false
set_option linter.unusedSimpArgs false
def sigOkI (l : List (List UInt8 × Int)) (k : Nat) (s : List UInt8 × Int) : Bool := (isNameP s.1 && inR s.2 1 3) && allK (fun _ a => !decide (a.1 = s.1)) 0 (l.take k)
def sigsI (l : List (List UInt8 × Int)) : Bool := allK (sigOkI l) 0 l && inR l.length 1 8
theorem p_i_areSignals (l : List (List UInt8 × Int)) (hl : Fits l) (hs : ∀ s ∈ l, Fits s.1) : s_i_areSignals [.lst (l.map eSig)] = some (pB (sigsI l)) := by
  unfold Fits at hl
  show (fun x0 => s_i_areSignals [x0]) _ = _
  rw [sh_i_areSignals]
  simp only [EVS]
  refine (congrArg (scOnly true) (rangeAll (R := PV) l (sigOkI l) (some (pB false)) (some (pB (inR l.length 1 8))) _ hl (fun again k s hb => ?_) (fun again => ?_))).trans ?_
  · have hk := lt_of_some hb
    have hi : idxV (.lst (l.map eSig)) (.int .i64 (k : Int)) = some (eSig s) := idx_map hb
    have hc : cutL 2 (.lst (l.map eSig)) none (some (.int .i64 (k : Int))) = some (.lst ((l.take k).map eSig)) := cut_map okEl_eSig (by omega)
    have hn := p_i_isName' s.1 (hs s (List.mem_of_getElem? hb))
    have g := p_g_slices_ContainsFunc_Signal__i_areSignals_1 (l.take k) s (by show (l.take k).length ≤ _; simp; omega)
    simp only [eSig] at g
    simp only [lt_d hk, next_w hk hl, hi, eSig, hn, sigOkI, EVS]
    obtain c1 | c1 := (Bool.eq_false_or_eq_true (isNameP s.1)).symm <;> simp only [c1, p_i_within, EVS]
    obtain c2 | c2 := (Bool.eq_false_or_eq_true (inR s.2 1 3)).symm <;> simp only [c2, EVS]
    simp only [hc, List.drop_zero, lt_tup, g, EVS]
    obtain c3 | c3 := (Bool.eq_false_or_eq_true (allK (fun _ (a : List UInt8 × Int) => !decide (a.1 = s.1)) 0 (l.take k))).symm <;> simp only [c3, EVS]
  · simp only [ge_d, p_i_within, EVS]
  · unfold sigsI
    cases allK (sigOkI l) 0 l <;> simp only [EVS]
end Go.Proofs.Ytnpbdphfjablbaa

namespace Go.Proofs.Ytnpbdphfjablbaa
open Go.RowKit
set_option linter.unusedVariables false
set_option linter.unusedSimpArgs false
theorem allK_all {α : Type} (q : α → Bool) : ∀ (l : List α) (k : Nat), allK (fun _ x => q x) k l = l.all q
  | [], _ => rfl
  | x :: r, k => by unfold allK; rw [allK_all q r (k + 1), List.all_cons]
theorem allK_congr {α : Type} (f g : Nat → α → Bool) (h : ∀ k x, f k x = g k x) : ∀ (l : List α) (k : Nat), allK f k l = allK g k l
  | [], _ => rfl
  | x :: r, k => by unfold allK; rw [h k x, allK_congr f g h r (k + 1)]
theorem sigs_eq (l : List (List UInt8 × Int)) : sigsP l = sigsI l := by
  unfold sigsP sigsI
  rw [allK_congr (sigOk l) (sigOkI l) (fun k x => ?_) l 0]
  unfold sigOk sigOkI
  rw [allK_congr (fun _ (y : List UInt8 × Int) => !decide (x.1 = y.1)) (fun _ (y : List UInt8 × Int) => !decide (y.1 = x.1)) (fun _ y => by simp [eq_comm]) _ 0]
end Go.Proofs.Ytnpbdphfjablbaa

namespace Go.Proofs.Ytnpbdphfjablbaa
open Go.RowKit
set_option linter.unusedVariables false
set_option linter.unusedSimpArgs false
def bitB (b : UInt8) : Bool := decide ((b.toNat : Int) = 48) || decide ((b.toNat : Int) = 49)
def bitsP (s : List UInt8) (n : Int) : Bool := allK (fun _ b => bitB b) 0 s && decide ((s.length : Int) = n)
theorem p_i_isBits (s : List UInt8) (n : Int) (hs : Fits s) : s_i_isBits [.str s, pI n] = some (pB (bitsP s n)) := by
  unfold Fits at hs
  show (fun x0 x1 => s_i_isBits [x0, x1]) _ _ = _
  rw [sh_i_isBits]
  refine (congrArg (scOnly true) (rangeAll (R := PV) s (fun _ b => bitB b) (some (pB false)) (some (pB (decide ((s.length : Int) = n)))) _ hs (fun again k b hb => ?_) (fun again => ?_))).trans ?_
  · have hk := lt_of_some hb
    simp only [bitB, lt_d hk, next_w hk hs, byteV_at hb, EVS]
    obtain c1 | c1 := (Bool.eq_false_or_eq_true (decide ((b.toNat : Int) = 48))).symm <;> simp only [c1, byteV_at hb, EVS]
    obtain c2 | c2 := (Bool.eq_false_or_eq_true (decide ((b.toNat : Int) = 49))).symm <;> simp only [c2, byteV_at hb, EVS]
  · simp only [ge_d, EVS]
  · unfold bitsP
    cases allK (fun _ b => bitB b) 0 s <;> simp only [EVS]
end Go.Proofs.Ytnpbdphfjablbaa

namespace Go.Proofs.Ytnpbdphfjablbaa
open Go.RowKit
set_option linter.unusedVariables false
set_option linter.unusedSimpArgs false
def bitU (u : Bool) : UInt8 := if u = true then 49 else 48
theorem p_r_l5Bit (u : Bool) : s_r_l5Bit [pB u] = some (.str [bitU u]) := by
  show (fun x0 => s_r_l5Bit [x0]) _ = _
  rw [sh_r_l5Bit]
  cases u <;> simp only [EVS] <;> rfl
theorem p_i_bit (u : Bool) : s_i_bit [pB u] = some (pU (bitU u)) := by
  show (fun x0 => s_i_bit [x0]) _ = _
  rw [sh_i_bit]
  cases u <;> simp only [EVS] <;> rfl
theorem bitB_iff (b : UInt8) : bitB b = true ↔ b = 48 ∨ b = 49 := by
  unfold bitB
  rw [Bool.or_eq_true, decide_eq_true_eq, decide_eq_true_eq]
  have h48 : (48 : UInt8).toNat = 48 := rfl
  have h49 : (49 : UInt8).toNat = 49 := rfl
  constructor
  · rintro (h | h)
    · exact .inl (UInt8.toNat_inj.1 (by omega))
    · exact .inr (UInt8.toNat_inj.1 (by omega))
  · rintro (rfl | rfl)
    · exact .inl rfl
    · exact .inr rfl
end Go.Proofs.Ytnpbdphfjablbaa

namespace Go.Proofs.Ytnpbdphfjablbaa
open Go.RowKit
set_option linter.unusedVariables false
set_option linter.unusedSimpArgs false
theorem convB_s (s : List UInt8) (h : s.length ≤ 9223372036854775807) : convB (.str s) = some (.lst (s.map pU)) := by
  unfold convB
  simp only
  rw [if_pos h]
theorem se_int (k k' : IntKind) (m n : Int) : storeEl 0 1 [.int k m] (.int k m) (.int k' n) = some (.int k' n) := rfl
theorem set_map {α : Type} (f : α → PV) (l : List α) (i : Nat) (x : α) : (l.map f).set i (f x) = (l.set i x).map f := by rw [List.map_set]
end Go.Proofs.Ytnpbdphfjablbaa

namespace Go.Proofs.Ytnpbdphfjablbaa
open Go.RowKit
set_option linter.unusedVariables false
set_option linter.unusedSimpArgs false
/-! NETS: validity, marks, what is enabled, firing. -/
def eTr (t : Tr) : PV := .agg [.lst (t.pre.map pI), .lst (t.post.map pI)]
def eNt (n : Net) : PV := .agg [pI n.places, .lst (n.trans.map eTr)]
structure TrFit (t : Tr) : Prop where
  pre : Fits t.pre
  post : Fits t.post
structure NtFit (n : Net) : Prop where
  trans : Fits n.trans
  each : ∀ t ∈ n.trans, TrFit t
/-- The number ahead of place k of a row, -1 at its head. -/
def prev (l : List Int) (k : Nat) : Int := if k = 0 then -1 else l.getD (k - 1) 0
theorem inc_all (hi : Int) (l : List Int) : allK (fun k x => inB x 0 hi && decide (prev l k < x)) 0 l = incB hi l := by
  suffices h : ∀ (a r : List Int), l = a ++ r → allK (fun k x => inB x 0 hi && decide (prev l k < x)) a.length r = goInc hi (prev l a.length) r by
    have := h [] l rfl
    simpa [prev, incB] using this
  intro a r
  induction r generalizing a with
  | nil => intro _; rfl
  | cons x r ih =>
    intro e
    have e2 := ih (a ++ [x]) (by simp [e])
    have hp : prev l (a.length + 1) = x := by unfold prev; rw [if_neg (by omega), e]; simp
    simp only [List.length_append, List.length_cons, List.length_nil, Nat.zero_add] at e2
    unfold allK goInc
    rw [e2, hp]
theorem sub_1 {k : Nat} (h : 0 < k) (hk : k ≤ 9223372036854775807) : IntKind.i64.wrap ((k : Int) - 1) = ((k - 1 : Nat) : Int) := by rw [wrap_of (by omega) (by omega)]; omega
theorem prev_at {l : List Int} {k : Nat} (h : 0 < k) (hk : k < l.length) : l[k - 1]? = some (prev l k) := by
  unfold prev
  rw [if_neg (by omega), List.getD_eq_getElem?_getD, List.getElem?_eq_getElem (by omega)]; rfl
theorem p_r_l1Rising (l : List Int) (hi : Int) (hl : Fits l) : s_r_l1Rising [.lst (l.map pI), pI 0, pI hi] = some (pB (incB (hi) l)) := by
  unfold Fits at hl
  show (fun x0 x1 x2 => s_r_l1Rising [x0, x1, x2]) _ _ _ = _
  rw [sh_r_l1Rising, ← inc_all]
  simp only [EVS]
  refine (congrArg (scOnly true) (rangeAll (R := PV) l (fun k x => inB x 0 (hi) && decide (prev l k < x)) (some (pB false)) (some (pB true)) _ hl (fun again k x hx => ?_) (fun again => ?_))).trans ?_
  · have hk := lt_of_some hx
    have hi' : idxV (.lst (l.map pI)) (.int .i64 (k : Int)) = some (pI x) := idx_map hx
    have g := p_r_l1In x 0 (hi)
    have gi : inB x 0 (hi) = (decide ((0 : Int) ≤ x) && decide (x ≤ hi)) := rfl
    rw [← gi] at g
    simp only [lt_d hk, next_w hk hl, hi', g, EVS]
    cases hc : inB x 0 (hi)
    · simp only [EVS]
    · simp only [EVS]
      by_cases c : 0 < k
      · have hj : idxV (.lst (l.map pI)) (.int .i64 ((k - 1 : Nat) : Int)) = some (pI (prev l k)) := idx_map (prev_at c hk)
        have hd : decide ((0 : Int) < (k : Int)) = true := by simpa using c
        simp only [hd, sub_1 c (by omega), hj, EVS]
        by_cases c2 : prev l k < x
        · have : ¬ x ≤ prev l k := by omega
          simp only [c2, this, EVS]
        · have : x ≤ prev l k := by omega
          simp only [c2, this, EVS]
      · obtain rfl : k = 0 := by omega
        have hd : decide ((0 : Int) < (0 : Int)) = false := by decide
        have c2 : prev l 0 < x := by have := (inB_iff.1 hc).1; show (-1 : Int) < x; omega
        simp only [hd, c2, EVS]
  · simp only [ge_d, EVS]
  · cases allK (fun k x => inB x 0 (hi) && decide (prev l k < x)) 0 l <;> rfl
theorem p_i_isIncreasing (l : List Int) (n : Int) (hl : Fits l) (hn1 : -9223372036854775808 ≤ n - 1) (hn2 : n - 1 ≤ 9223372036854775807) : s_i_isIncreasing [.lst (l.map pI), pI n] = some (pB (incB (n - 1) l)) := by
  unfold Fits at hl
  show (fun x0 x1 => s_i_isIncreasing [x0, x1]) _ _ = _
  rw [sh_i_isIncreasing, ← inc_all]
  simp only [EVS]
  refine (congrArg (scOnly true) (rangeAll (R := PV) l (fun k x => inB x 0 (n - 1) && decide (prev l k < x)) (some (pB false)) (some (pB true)) _ hl (fun again k x hx => ?_) (fun again => ?_))).trans ?_
  · have hk := lt_of_some hx
    have hi' : idxV (.lst (l.map pI)) (.int .i64 (k : Int)) = some (pI x) := idx_map hx
    have g := p_i_within x 0 (n - 1)
    have gi : inB x 0 (n - 1) = inR x 0 (n - 1) := rfl
    rw [← gi] at g
    simp only [lt_d hk, next_w hk hl, hi', wrap_of hn1 hn2, g, EVS]
    cases hc : inB x 0 (n - 1)
    · simp only [EVS]
    · simp only [EVS]
      by_cases c : 0 < k
      · have hj : idxV (.lst (l.map pI)) (.int .i64 ((k - 1 : Nat) : Int)) = some (pI (prev l k)) := idx_map (prev_at c hk)
        have hd : decide ((0 : Int) < (k : Int)) = true := by simpa using c
        simp only [hd, sub_1 c (by omega), hj, EVS]
        by_cases c2 : prev l k < x
        · have : ¬ x ≤ prev l k := by omega
          simp only [c2, this, EVS]
        · have : x ≤ prev l k := by omega
          simp only [c2, this, EVS]
      · obtain rfl : k = 0 := by omega
        have hd : decide ((0 : Int) < (0 : Int)) = false := by decide
        have c2 : prev l 0 < x := by have := (inB_iff.1 hc).1; show (-1 : Int) < x; omega
        simp only [hd, c2, EVS]
  · simp only [ge_d, EVS]
  · cases allK (fun k x => inB x 0 (n - 1) && decide (prev l k < x)) 0 l <;> rfl
theorem p_r_l1Set2 (l : List Int) (hi : Int) (hl : Fits l) : s_r_l1Set2 [.lst (l.map pI), pI hi] = some (pB (incB hi l)) := by
  show (fun x0 x1 => s_r_l1Set2 [x0, x1]) _ _ = _
  rw [sh_r_l1Set2]
  have g := p_r_l1Rising l hi hl
  simp only [g, EVS]
theorem emp_d (l : List Int) : decide ((l.length : Int) = 0) = l.isEmpty := by cases l with
  | nil => rfl
  | cons a l => simp; omega
theorem p_r_l1Good (n : Net) (hn : NtFit n) : s_r_l1Good [eNt n] = some (pB (goodNet n)) := by
  have hl := hn.trans
  unfold Fits at hl
  show (fun x0 => s_r_l1Good [x0]) _ = _
  rw [sh_r_l1Good]
  simp only [eNt, EVS]
  obtain ⟨W, hW⟩ : ∃ W, IntKind.i64.wrap (n.places - 1) = W := ⟨_, rfl⟩
  refine (congrArg (fun m : Option PV => m.bind fun r => if r.sc = true then some r else none) (rangeAll (R := PV) n.trans (fun k t => !t.pre.isEmpty && incB W t.pre && incB W t.post) (some (pB false)) (some (pB (inB n.places 1 30 && decide (n.trans.length ≤ 24)))) _ hl (fun again k t hx => ?_) (fun again => ?_))).trans ?_
  · have hk := lt_of_some hx
    have ht := hn.each t (List.mem_of_getElem? hx)
    have hi' : idxV (.lst (n.trans.map eTr)) (.int .i64 (k : Int)) = some (eTr t) := idx_map hx
    have g1 := p_r_l1Set2 t.pre W ht.pre
    have g2 := p_r_l1Set2 t.post W ht.post
    simp only [lt_d hk, next_w hk hl, hi', eTr, emp_d, hW, g1, g2, EVS]
    cases c1 : t.pre.isEmpty <;> cases c2 : incB W t.pre <;> cases c3 : incB W t.post <;> simp only [c1, c2, c3, hW, g1, g2, EVS]
  · have g := p_r_l1In n.places 1 30
    have gi : inB n.places 1 30 = (decide ((1 : Int) ≤ n.places) && decide (n.places ≤ 30)) := rfl
    rw [← gi] at g
    have hd : decide ((n.trans.length : Int) ≤ 24) = decide (n.trans.length ≤ 24) := by rw [Bool.eq_iff_iff]; simp; omega
    simp only [ge_d, g, EVS]
    cases inB n.places 1 30 <;> simp only [hd, EVS]
  · rw [allK_all]
    unfold goodNet
    cases c : inB n.places 1 30
    · cases n.trans.all (fun t => !t.pre.isEmpty && incB W t.pre && incB W t.post) <;> simp only [EVS] <;> rfl
    · have hw : W = n.places - 1 := by rw [← hW]; have := inB_iff.1 c; exact wrap_of (by omega) (by omega)
      subst hw
      have hh : (n.trans.all fun t => !t.pre.isEmpty && incB (n.places - 1) t.pre && incB (n.places - 1) t.post) = n.trans.all (trB n.places) := rfl
      rw [hh]
      cases n.trans.all (trB n.places) <;> simp only [EVS] <;> rfl
theorem p_i_IsValidNet_1 (t : Tr) (n : Net) (ht : TrFit t) (hp : -9223372036854775808 ≤ n.places - 1 ∧ n.places - 1 ≤ 9223372036854775807) : s_i_IsValidNet_1 [eTr t, .agg [pI n.places, .lst (n.trans.map eTr)]] = some (pB (!trB n.places t)) := by
  have g1 := p_i_isIncreasing t.pre n.places ht.pre hp.1 hp.2
  have g2 := p_i_isIncreasing t.post n.places ht.post hp.1 hp.2
  show (fun x0 x1 => s_i_IsValidNet_1 [x0, x1]) _ _ = _
  rw [sh_i_IsValidNet_1]
  simp only [eTr, emp_d, List.drop_zero, EVS]
  unfold trB
  cases c1 : t.pre.isEmpty <;> cases c2 : incB (n.places - 1) t.pre <;> cases c3 : incB (n.places - 1) t.post <;> simp only [c1, c2, c3, g1, g2, EVS]
theorem p_g_slices_IndexFunc_Transition__i_IsValidNet_1 (n : Net) (hn : NtFit n) (hp : -9223372036854775808 ≤ n.places - 1 ∧ n.places - 1 ≤ 9223372036854775807) : s_g_slices_IndexFunc_Transition__i_IsValidNet_1 [.lst (n.trans.map eTr), .tup [.agg [pI n.places, .lst (n.trans.map eTr)]]] = some (pI (ixf (fun t => !trB n.places t) 0 n.trans)) := by
  show (fun x0 x1 => s_g_slices_IndexFunc_Transition__i_IsValidNet_1 [x0, x1]) _ _ = _
  rw [sh_g_slices_IndexFunc_Transition__i_IsValidNet_1]
  have hl := hn.trans
  unfold Fits at hl
  simp only [EVS]
  refine (congrArg (fun m : Option PV => m.bind fun r => if r.sc = true then some r else none) (rangeIx n.trans (fun t => !trB n.places t) _ hl (fun again k a hb => ?_) (fun again => ?_))).trans ?_
  · have hk := lt_of_some hb
    have hi : idxV (.lst (n.trans.map eTr)) (.int .i64 (k : Int)) = some (eTr a) := idx_map hb
    have g := p_i_IsValidNet_1 a n (hn.each a (List.mem_of_getElem? hb)) hp
    simp only [eTr] at g
    simp only [lt_d hk, next_w hk hl, hi, eTr, caps1, List.cons_append, List.nil_append, EVS]
    simp only [eTr] at hi
    simp only [g, EVS]
  · simp only [ge_d, EVS]
    rfl
  · simp only [EVS]
theorem p_g_slices_ContainsFunc_Transition__i_IsValidNet_1 (n : Net) (hn : NtFit n) (hp : -9223372036854775808 ≤ n.places - 1 ∧ n.places - 1 ≤ 9223372036854775807) : s_g_slices_ContainsFunc_Transition__i_IsValidNet_1 [.lst (n.trans.map eTr), .tup [.agg [pI n.places, .lst (n.trans.map eTr)]]] = some (pB (!n.trans.all (trB n.places))) := by
  show (fun x0 x1 => s_g_slices_ContainsFunc_Transition__i_IsValidNet_1 [x0, x1]) _ _ = _
  rw [sh_g_slices_ContainsFunc_Transition__i_IsValidNet_1]
  simp only [p_g_slices_IndexFunc_Transition__i_IsValidNet_1 n hn hp, ixf_ge (fun t => !trB n.places t) n.trans 0, Bool.not_not, allK_all, EVS]
theorem p_i_IsValidNet (n : Net) (hn : NtFit n) : s_i_IsValidNet [eNt n] = some (pB (goodNet n)) := by
  have g0 := p_i_within n.places 1 30
  have gi : inB n.places 1 30 = inR n.places 1 30 := rfl
  rw [← gi] at g0
  have hd : decide ((24 : Int) < (n.trans.length : Int)) = !decide (n.trans.length ≤ 24) := by rw [Bool.eq_iff_iff]; simp; omega
  show (fun x0 => s_i_IsValidNet [x0]) _ = _
  rw [sh_i_IsValidNet]
  unfold goodNet
  simp only [eNt, g0, EVS]
  cases c1 : inB n.places 1 30
  · simp only [EVS]
  have hp := inB_iff.1 c1
  have g := p_g_slices_ContainsFunc_Transition__i_IsValidNet_1 n hn ⟨by omega, by omega⟩
  cases c2 : decide (n.trans.length ≤ 24) <;> simp only [c2, hd, List.drop_zero, g, Bool.not_not, EVS]
theorem bits_allK (s : List UInt8) : allK (fun _ b => bitB b) 0 s = goBits s := by
  rw [allK_all]
  induction s with
  | nil => rfl
  | cons b r ih =>
    simp only [List.all_cons, goBits, ih]
    have : bitB b = (b == 48 || b == 49) := by
      rw [Bool.eq_iff_iff, bitB_iff]; simp
    rw [this]
end Go.Proofs.Ytnpbdphfjablbaa

namespace Go.Proofs.Ytnpbdphfjablbaa
open Go.RowKit
set_option linter.unusedVariables false
set_option linter.unusedSimpArgs false
theorem by_49 (b : UInt8) : decide ((b.toNat : Int) = 49) = (b == 49) := by
  rw [Bool.eq_iff_iff]; simp only [decide_eq_true_eq, beq_iff_eq]
  exact ⟨fun h => UInt8.toNat_inj.1 (by show b.toNat = 49; omega), fun h => by subst h; rfl⟩
theorem by_48 (b : UInt8) : decide ((b.toNat : Int) = 48) = (b == 48) := by
  rw [Bool.eq_iff_iff]; simp only [decide_eq_true_eq, beq_iff_eq]
  exact ⟨fun h => UInt8.toNat_inj.1 (by show b.toNat = 48; omega), fun h => by subst h; rfl⟩
theorem bitsP_B (s : List UInt8) (n : Int) : bitsP s n = bitsB s n := by unfold bitsP bitsB; rw [bits_allK]
theorem p_r_l1Mark (n : Net) (m : List UInt8) (hm : Fits m) : s_r_l1Mark [eNt n, .str m] = some (pB (bitsB m n.places)) := by
  unfold Fits at hm
  show (fun x0 x1 => s_r_l1Mark [x0, x1]) _ _ = _
  rw [sh_r_l1Mark]
  simp only [eNt, EVS]
  refine (congrArg (fun m : Option PV => m.bind fun r => if r.sc = true then some r else none) (rangeAll (R := PV) m (fun _ b => bitB b) (some (pB false)) (some (pB (decide ((m.length : Int) = n.places)))) _ hm (fun again k b hx => ?_) (fun again => ?_))).trans ?_
  · have hk := lt_of_some hx
    have hb := byteV_at (k := .i64) hx
    unfold bitB
    simp only [lt_d hk, next_w hk hm, hb, EVS]
    cases c : decide ((b.toNat : Int) = 48) <;> cases c2 : decide ((b.toNat : Int) = 49) <;> simp only [c, c2, hb, EVS]
  · simp only [ge_d, EVS]
  · rw [bits_allK]
    unfold bitsB
    cases goBits m <;> simp only [EVS] <;> rfl
theorem p_i_IsValidMarking (n : Net) (m : List UInt8) (hn : NtFit n) (hm : Fits m) : s_i_IsValidMarking [eNt n, .str m] = some (pB (goodMark n m)) := by
  have g1 := p_i_IsValidNet n hn
  have g2 := p_i_isBits m n.places hm
  rw [bitsP_B] at g2
  show (fun x0 x1 => s_i_IsValidMarking [x0, x1]) _ _ = _
  rw [sh_i_IsValidMarking]
  unfold goodMark
  simp only [eNt] at g1 g2 ⊢
  cases c : goodNet n <;> simp only [c, g1, g2, EVS]
theorem getD_at {m : List UInt8} {j : Nat} (h : j < m.length) : m[j]? = some (m.getD j 0) := by
  rw [List.getD_eq_getElem?_getD, List.getElem?_eq_getElem h]; rfl
theorem p_r_l1Ready (n : Net) (m : List UInt8) (k : Nat) (t : Tr) (hg : goodMark n m = true) (ht : n.trans[k]? = some t) (hf : TrFit t) : s_r_l1Ready [eNt n, .str m, pI k] = some (pB (enB m t)) := by
  have hl := hf.pre
  unfold Fits at hl
  have hpl := (good_tr hg ht).1
  have hi : idxV (.lst (n.trans.map eTr)) (.int .i64 (k : Int)) = some (eTr t) := idx_map ht
  show (fun x0 x1 x2 => s_r_l1Ready [x0, x1, x2]) _ _ _ = _
  rw [sh_r_l1Ready, ← ready_en (good_bits hg) hpl]
  simp only [eNt, hi, eTr, List.drop_zero, EVS]
  refine (congrArg (fun m : Option PV => m.bind fun r => if r.sc = true then some r else none) (rangeAll (R := PV) t.pre (fun _ p => m.getD p.toNat 0 == 49) (some (pB false)) (some (pB true)) _ hl (fun again k p hx => ?_) (fun again => ?_))).trans ?_
  · have hk := lt_of_some hx
    have hi' : idxV (.lst (t.pre.map pI)) (.int .i64 (k : Int)) = some (pI p) := idx_map hx
    obtain ⟨h1, h2⟩ := hpl p (List.mem_of_getElem? hx)
    obtain ⟨j, rfl⟩ : ∃ j : Nat, p = j := ⟨p.toNat, by omega⟩
    have hb := byteV_at (k := .i64) (getD_at (m := m) (j := j) (by omega))
    simp only [lt_d hk, next_w hk hl, hi', hb, by_49, Int.toNat_natCast, EVS]
    cases m.getD j 0 == 49 <;> simp only [EVS]
  · simp only [ge_d, EVS]
  · rw [allK_all]
    unfold readyB
    cases t.pre.all (fun p => m.getD p.toNat 0 == 49) <;> simp only [EVS]
theorem p_i_isEnabled_1 (m : List UInt8) (j : Nat) (h : j < m.length) : s_i_isEnabled_1 [pI j, .agg [.str m]] = some (pB (m.getD j 0 == 48)) := by
  have hb := byteV_at (k := .i64) (getD_at (m := m) (j := j) h)
  show (fun x0 x1 => s_i_isEnabled_1 [x0, x1]) _ _ = _
  rw [sh_i_isEnabled_1]
  simp only [hb, by_48, EVS]
theorem p_g_slices_IndexFunc_int__i_isEnabled_1 (l : List Int) (m : List UInt8) (hp : PlacesIn l m.length) (hl : Fits l) : s_g_slices_IndexFunc_int__i_isEnabled_1 [.lst (l.map pI), .tup [.agg [.str m]]] = some (pI (ixf (fun p => m.getD p.toNat 0 == 48) 0 l)) := by
  show (fun x0 x1 => s_g_slices_IndexFunc_int__i_isEnabled_1 [x0, x1]) _ _ = _
  rw [sh_g_slices_IndexFunc_int__i_isEnabled_1]
  unfold Fits at hl
  simp only [EVS]
  refine (congrArg (fun m : Option PV => m.bind fun r => if r.sc = true then some r else none) (rangeIx l (fun p => m.getD p.toNat 0 == 48) _ hl (fun again k a hb => ?_) (fun again => ?_))).trans ?_
  · have hk := lt_of_some hb
    have hi : idxV (.lst (l.map pI)) (.int .i64 (k : Int)) = some (pI a) := idx_map hb
    obtain ⟨h1, h2⟩ := hp a (List.mem_of_getElem? hb)
    obtain ⟨j, rfl⟩ : ∃ j : Nat, a = j := ⟨a.toNat, by omega⟩
    have g := p_i_isEnabled_1 m j (by omega)
    simp only [lt_d hk, next_w hk hl, hi, caps1, List.cons_append, List.nil_append, g, Int.toNat_natCast, EVS]
  · simp only [ge_d, EVS]
    rfl
  · simp only [EVS]
theorem p_g_slices_ContainsFunc_int__i_isEnabled_1 (l : List Int) (m : List UInt8) (hp : PlacesIn l m.length) (hl : Fits l) : s_g_slices_ContainsFunc_int__i_isEnabled_1 [.lst (l.map pI), .tup [.agg [.str m]]] = some (pB (l.any (fun p => m.getD p.toNat 0 == 48))) := by
  show (fun x0 x1 => s_g_slices_ContainsFunc_int__i_isEnabled_1 [x0, x1]) _ _ = _
  rw [sh_g_slices_ContainsFunc_int__i_isEnabled_1]
  have e : (!l.all fun p => !(m.getD p.toNat 0 == 48)) = l.any (fun p => m.getD p.toNat 0 == 48) := by rw [List.not_all_eq_any_not]; simp
  simp only [p_g_slices_IndexFunc_int__i_isEnabled_1 l m hp hl, ixf_ge (fun p : Int => m.getD p.toNat 0 == 48) l 0, allK_all, e, EVS]
theorem p_i_isEnabled (t : Tr) (m : List UInt8) (hp : PlacesIn t.pre m.length) (hf : TrFit t) : s_i_isEnabled [eTr t, .str m] = some (pB (enB m t)) := by
  have g := p_g_slices_ContainsFunc_int__i_isEnabled_1 t.pre m hp hf.pre
  show (fun x0 x1 => s_i_isEnabled [x0, x1]) _ _ = _
  rw [sh_i_isEnabled]
  unfold enB
  simp only [eTr, List.drop_zero, g, EVS]
theorem fold_en (m : List UInt8) : ∀ (l : List Tr) (k : Nat) (acc : List Int), foldGo (R := PV) (fun (acc : List Int) k t => .inl (if enB m t = true then acc ++ [(k : Int)] else acc)) (fun acc => some (.lst (acc.map pI))) k acc l = some (.lst ((acc ++ goEn m k l).map pI))
  | [], k, acc => by simp [foldGo, goEn]
  | t :: r, k, acc => by
    unfold foldGo goEn
    refine (fold_en m r (k + 1) _).trans ?_
    cases enB m t <;> simp
theorem p_r_l1Enabled (n : Net) (m : List UInt8) (hg : goodMark n m = true) (hn : NtFit n) : s_r_l1Enabled [eNt n, .str m] = some (.lst ((enL n m).map pI)) := by
  have hl : n.trans.length ≤ 24 := by unfold goodMark goodNet at hg; simp only [Bool.and_eq_true, decide_eq_true_eq] at hg; omega
  show (fun x0 x1 => s_r_l1Enabled [x0, x1]) _ _ = _
  rw [sh_r_l1Enabled]
  simp only [eNt, EVS]
  refine (foldLoop (R := PV) n.trans (fun (acc : List Int) k => [.lst (acc.map pI), pI (Int.ofNat k)]) (fun k acc => acc.length ≤ k) (fun acc k t => .inl (if enB m t = true then acc ++ [(k : Int)] else acc)) (fun acc => some (.lst (acc.map pI))) _ (by omega) (fun acc k t acc' hi hx he => ?_) (fun again acc k t hi hx => ?_) (fun again acc hi => ?_) (b := []) (Nat.zero_le _)).trans ?_
  · cases he; split <;> first | (simp; omega) | omega
  · have hk := lt_of_some hx
    have g := p_r_l1Ready n m k t hg hx (hn.each t (List.mem_of_getElem? hx))
    simp only [eNt] at g
    have hla : acc.length + [pI (k : Int)].length ≤ 4294967296 ∧ [pI (k : Int)].all (okEl 1) = true := ⟨by simp; omega, rfl⟩
    simp only [lt_d hk, g, EVS]
    cases enB m t
    · simp only [next_w hk (show n.trans.length ≤ 9223372036854775807 by omega), EVS]
    · simp only [if_pos hla, next_w hk (show n.trans.length ≤ 9223372036854775807 by omega), List.map_append, List.map_cons, List.map_nil, EVS]
  · simp only [ge_d, EVS]
  · rw [fold_en]; rfl
theorem p_i_enabled (n : Net) (m : List UInt8) (hg : goodMark n m = true) (hn : NtFit n) : s_i_enabled [eNt n, .str m] = some (.lst ((enL n m).map pI)) := by
  have hl : n.trans.length ≤ 24 := by unfold goodMark goodNet at hg; simp only [Bool.and_eq_true, decide_eq_true_eq] at hg; omega
  show (fun x0 x1 => s_i_enabled [x0, x1]) _ _ = _
  rw [sh_i_enabled]
  simp only [eNt, EVS]
  refine (foldLoop (R := PV) n.trans (fun (acc : List Int) k => [.lst (acc.map pI), pI (Int.ofNat k)]) (fun k acc => acc.length ≤ k) (fun acc k t => .inl (if enB m t = true then acc ++ [(k : Int)] else acc)) (fun acc => some (.lst (acc.map pI))) _ (by omega) (fun acc k t acc' hi hx he => ?_) (fun again acc k t hi hx => ?_) (fun again acc hi => ?_) (b := []) (Nat.zero_le _)).trans ?_
  · cases he; split <;> first | (simp; omega) | omega
  · have hk := lt_of_some hx
    have hx' : idxV (.lst (n.trans.map eTr)) (.int .i64 (k : Int)) = some (eTr t) := idx_map hx
    have g := p_i_isEnabled t m (good_tr hg hx).1 (hn.each t (List.mem_of_getElem? hx))
    simp only [eTr] at g
    have hla : acc.length + [pI (k : Int)].length ≤ 4294967296 ∧ [pI (k : Int)].all (okEl 1) = true := ⟨by simp; omega, rfl⟩
    simp only [lt_d hk, hx', eTr, g, EVS]
    cases enB m t
    · simp only [next_w hk (show n.trans.length ≤ 9223372036854775807 by omega), EVS]
    · simp only [if_pos hla, next_w hk (show n.trans.length ≤ 9223372036854775807 by omega), List.map_append, List.map_cons, List.map_nil, EVS]
  · simp only [ge_d, EVS]
  · rw [fold_en]; rfl
end Go.Proofs.Ytnpbdphfjablbaa

namespace Go.Proofs.Ytnpbdphfjablbaa
open Go.RowKit
set_option linter.unusedVariables false
set_option linter.unusedSimpArgs false
theorem places_le {n : Net} {m : List UInt8} (hg : goodMark n m = true) : m.length ≤ 30 := by
  have := good_places hg; omega
theorem fold_clear {e : List UInt8 → Option PV} : ∀ (l : List Int) (k : Nat) (m : List UInt8), foldGo (R := PV) (fun (m : List UInt8) _ p => .inl (m.set p.toNat 48)) e k m l = e (clearM l m)
  | [], k, m => rfl
  | p :: r, k, m => by
    unfold foldGo clearM
    exact fold_clear r (k + 1) _
theorem fold_mark : ∀ (l : List Int) (k : Nat) (m : List UInt8), foldGo (R := PV) (fun (m : List UInt8) _ p => if (m.getD p.toNat 0 == 49) = true then .inr (some (.tup [.str [], pB false])) else .inl (m.set p.toNat 49)) (fun m => some (.tup [.str m, pB true])) k m l = some (.tup [.str (optS (markM l m)).1, pB (optS (markM l m)).2])
  | [], k, m => rfl
  | p :: r, k, m => by
    unfold foldGo markM
    by_cases c : (m.getD p.toNat 0 == 49) = true
    · rw [if_pos c, if_pos c]; rfl
    · rw [if_neg c, if_neg c]
      exact fold_mark r (k + 1) _
theorem set_48 (m : List UInt8) (j : Nat) : (m.map pU).set j (.int .u8 48) = (m.set j 48).map pU := set_map pU m j 48
theorem set_49 (m : List UInt8) (j : Nat) : (m.map pU).set j (.int .u8 49) = (m.set j 49).map pU := set_map pU m j 49
theorem mapU_at {m : List UInt8} {j : Nat} (h : j < m.length) : (m.map pU)[j]? = some (pU (m.getD j 0)) := by rw [List.getElem?_map, getD_at h]; rfl
theorem p_r_l1Fire (n : Net) (m : List UInt8) (k : Nat) (t : Tr) (hg : goodMark n m = true) (ht : n.trans[k]? = some t) (hf : TrFit t) : s_r_l1Fire [eNt n, .str m, pI k] = some (.tup [.str (optS (fireM t m)).1, pB (optS (fireM t m)).2]) := by
  have hl1 := hf.pre
  have hl2 := hf.post
  unfold Fits at hl1 hl2
  have hp := good_tr hg ht
  have hm := places_le hg
  have hi : idxV (.lst (n.trans.map eTr)) (.int .i64 (k : Int)) = some (eTr t) := idx_map ht
  show (fun x0 x1 x2 => s_r_l1Fire [x0, x1, x2]) _ _ _ = _
  rw [sh_r_l1Fire]
  simp only [eNt, convB_s m (by omega), hi, eTr, List.drop_zero, EVS]
  refine (congrArg (fun m : Option PV => m.bind fun r => if r.sc = true then some r else none) (foldLoop (R := PV) t.pre (fun (b : List UInt8) k => [.lst (b.map pU), pI (Int.ofNat k)]) (fun _ b => b.length = m.length) (fun (b : List UInt8) _ p => .inl (b.set p.toNat 48)) (fun b => some (.tup [.str (optS (markM t.post b)).1, pB (optS (markM t.post b)).2])) _ hl1 (fun b k p b' hb hx he => ?_) (fun again b k p hb hx => ?_) (fun again b hb => ?_) (b := m) rfl)).trans ?_
  · cases he; simpa using hb
  · have hk := lt_of_some hx
    have hi' : idxV (.lst (t.pre.map pI)) (.int .i64 (k : Int)) = some (pI p) := idx_map hx
    obtain ⟨h1, h2⟩ := hp.1 p (List.mem_of_getElem? hx)
    obtain ⟨j, rfl⟩ : ∃ j : Nat, p = j := ⟨p.toNat, by omega⟩
    have hj : j < b.length := by omega
    have hpl : plcV (b.map pU) (.int .i64 (j : Int)) = some (.int .i64 (j : Int)) := plc_at (by rw [List.length_map]; exact hj)
    simp only [lt_d hk, next_w hk hl1, hi', hpl, mapU_at hj, se_int, set_48, EVS]
  · have hi2 : idxV (.lst (n.trans.map eTr)) (.int .i64 (k : Int)) = some (eTr t) := hi
    simp only [ge_d, hi2, eTr, List.drop_succ_cons, List.drop_zero, EVS]
    refine (foldLoop (R := PV) t.post (fun (b : List UInt8) k => [.lst (b.map pU), pI (Int.ofNat k)]) (fun _ b => b.length = m.length) (fun (b : List UInt8) _ p => if (b.getD p.toNat 0 == 49) = true then .inr (some (.tup [.str [], pB false])) else .inl (b.set p.toNat 49)) (fun b => some (.tup [.str b, pB true])) _ hl2 (fun b k p b' hb hx he => ?_) (fun again b k p hb hx => ?_) (fun again b hb => ?_) (b := b) hb).trans (fold_mark _ _ _)
    · split at he
      · cases he
      · cases he; simpa using hb
    · have hk := lt_of_some hx
      have hi' : idxV (.lst (t.post.map pI)) (.int .i64 (k : Int)) = some (pI p) := idx_map hx
      obtain ⟨h1, h2⟩ := hp.2 p (List.mem_of_getElem? hx)
      obtain ⟨j, rfl⟩ : ∃ j : Nat, p = j := ⟨p.toNat, by omega⟩
      have hj : j < b.length := by omega
      have hpl : plcV (b.map pU) (.int .i64 (j : Int)) = some (.int .i64 (j : Int)) := plc_at (by rw [List.length_map]; exact hj)
      simp only [lt_d hk, next_w hk hl2, hi', hpl, mapU_at hj, se_int, set_49, by_49, EVS]
      cases c : (b.getD j 0 == 49) <;> simp only [hpl, mapU_at hj, se_int, set_49, EVS]
      all_goals rfl
    · simp only [ge_d, bytesOf_map, EVS]
  · rw [fold_clear]
    simp only [EVS, List.all_cons, List.all_nil]
    rfl
theorem fold_fire (n : Net) (m : List UInt8) (k : Nat) (t : Tr) (ht : n.trans[k]? = some t) : fireB n m k = if enB m t = true then fireM t m else none := by
  have hk := lt_of_some ht
  unfold fireB
  rw [if_pos (inB_iff.2 ⟨by omega, by omega⟩), Int.toNat_natCast, ht]
theorem p_i_fire (n : Net) (m : List UInt8) (k : Nat) (t : Tr) (hg : goodMark n m = true) (ht : n.trans[k]? = some t) (hf : TrFit t) : s_i_fire [eNt n, .str m, pI k] = some (.tup [.str (optS (fireB n m k)).1, pB (optS (fireB n m k)).2]) := by
  rw [fold_fire n m k t ht]
  have hlt := lt_of_some ht
  have hl : n.trans.length ≤ 24 := by unfold goodMark goodNet at hg; simp only [Bool.and_eq_true, decide_eq_true_eq] at hg; omega
  have hl1 := hf.pre
  have hl2 := hf.post
  unfold Fits at hl1 hl2
  have hp := good_tr hg ht
  have hm := places_le hg
  have hi : idxV (.lst (n.trans.map eTr)) (.int .i64 (k : Int)) = some (eTr t) := idx_map ht
  have g0 := p_i_within (k : Int) 0 ((n.trans.length : Int) - 1)
  have gi : inR (k : Int) 0 ((n.trans.length : Int) - 1) = true := inB_iff.2 ⟨by omega, by omega⟩
  rw [gi] at g0
  have gw : IntKind.i64.wrap ((n.trans.length : Int) - 1) = (n.trans.length : Int) - 1 := wrap_of (by omega) (by omega)
  have g1 := p_i_isEnabled t m hp.1 hf
  simp only [eTr] at g1
  show (fun x0 x1 x2 => s_i_fire [x0, x1, x2]) _ _ _ = _
  rw [sh_i_fire]
  simp only [eNt, gw, g0, hi, eTr, g1, List.drop_zero, EVS]
  cases hE : enB m t
  · simp only [EVS]; rfl
  simp only [convB_s m (by omega), hi, eTr, List.drop_zero, EVS]
  refine (congrArg (fun m : Option PV => m.bind fun r => if r.sc = true then some r else none) (foldLoop (R := PV) t.pre (fun (b : List UInt8) k => [.lst (b.map pU), pI (Int.ofNat k)]) (fun _ b => b.length = m.length) (fun (b : List UInt8) _ p => .inl (b.set p.toNat 48)) (fun b => some (.tup [.str (optS (markM t.post b)).1, pB (optS (markM t.post b)).2])) _ hl1 (fun b k p b' hb hx he => ?_) (fun again b k p hb hx => ?_) (fun again b hb => ?_) (b := m) rfl)).trans ?_
  · cases he; simpa using hb
  · have hk := lt_of_some hx
    have hi' : idxV (.lst (t.pre.map pI)) (.int .i64 (k : Int)) = some (pI p) := idx_map hx
    obtain ⟨h1, h2⟩ := hp.1 p (List.mem_of_getElem? hx)
    obtain ⟨j, rfl⟩ : ∃ j : Nat, p = j := ⟨p.toNat, by omega⟩
    have hj : j < b.length := by omega
    have hpl : plcV (b.map pU) (.int .i64 (j : Int)) = some (.int .i64 (j : Int)) := plc_at (by rw [List.length_map]; exact hj)
    simp only [lt_d hk, next_w hk hl1, hi', hpl, mapU_at hj, se_int, set_48, EVS]
  · have hi2 : idxV (.lst (n.trans.map eTr)) (.int .i64 (k : Int)) = some (eTr t) := hi
    simp only [ge_d, hi2, eTr, List.drop_succ_cons, List.drop_zero, EVS]
    refine (foldLoop (R := PV) t.post (fun (b : List UInt8) k => [.lst (b.map pU), pI (Int.ofNat k)]) (fun _ b => b.length = m.length) (fun (b : List UInt8) _ p => if (b.getD p.toNat 0 == 49) = true then .inr (some (.tup [.str [], pB false])) else .inl (b.set p.toNat 49)) (fun b => some (.tup [.str b, pB true])) _ hl2 (fun b k p b' hb hx he => ?_) (fun again b k p hb hx => ?_) (fun again b hb => ?_) (b := b) hb).trans (fold_mark _ _ _)
    · split at he
      · cases he
      · cases he; simpa using hb
    · have hk := lt_of_some hx
      have hi' : idxV (.lst (t.post.map pI)) (.int .i64 (k : Int)) = some (pI p) := idx_map hx
      obtain ⟨h1, h2⟩ := hp.2 p (List.mem_of_getElem? hx)
      obtain ⟨j, rfl⟩ : ∃ j : Nat, p = j := ⟨p.toNat, by omega⟩
      have hj : j < b.length := by omega
      have hpl : plcV (b.map pU) (.int .i64 (j : Int)) = some (.int .i64 (j : Int)) := plc_at (by rw [List.length_map]; exact hj)
      simp only [lt_d hk, next_w hk hl2, hi', hpl, mapU_at hj, se_int, set_49, by_49, EVS]
      cases c : (b.getD j 0 == 49) <;> simp only [hpl, mapU_at hj, se_int, set_49, EVS]
      all_goals rfl
    · simp only [ge_d, bytesOf_map, EVS]
  · rw [fold_clear]
    simp only [EVS, List.all_cons, List.all_nil]
    rfl
end Go.Proofs.Ytnpbdphfjablbaa

namespace Go.Proofs.Ytnpbdphfjablbaa
open Go.RowKit
set_option linter.unusedVariables false
set_option linter.unusedSimpArgs false
/-! MAPS whose keys are the texts of a row, each once. -/
theorem eqV_str (a b : List UInt8) : eqV none .str (.str a) (.str b) = some (decide (a = b)) := by
  show scEq .str (.str a) (.str b) = _
  simp only [scEq]
  refine congrArg some ?_
  rw [Bool.eq_iff_iff]; simp
theorem keyS (a : List UInt8) : ((eqV none TD.str (.str a) (.str a)).elim false fun x => true) = true := by rw [eqV_str]; rfl
def mapF (g : Nat → PV) : Nat → List (List UInt8) → List (PV × PV)
  | _, [] => []
  | k, x :: r => (.str x, g k) :: mapF g (k + 1) r
theorem mapF_snoc (g : Nat → PV) (a : List UInt8) : ∀ (l : List (List UInt8)) (k : Nat), mapF g k (l ++ [a]) = mapF g k l ++ [(.str a, g (k + l.length))]
  | [], k => by simp [mapF]
  | x :: r, k => by
    simp only [List.cons_append, mapF, mapF_snoc g a r (k + 1), List.length_cons]
    rw [show k + 1 + r.length = k + (r.length + 1) by omega]
theorem findF (g : Nat → PV) (s : List UInt8) : ∀ (l : List (List UInt8)) (k i : Nat), findV none .str (mapF g k l) (.str s) i = some (if s ∈ l then some (i + l.idxOf s, g (k + l.idxOf s)) else none)
  | [], k, i => rfl
  | x :: r, k, i => by
    unfold mapF findV
    rw [eqV_str]
    by_cases c : x = s
    · subst c
      simp
    · have h : (x :: r).idxOf s = r.idxOf s + 1 := by rw [List.idxOf_cons, beq_eq_false_iff_ne.2 c]; rfl
      have hm : s ∈ x :: r ↔ s ∈ r := by rw [List.mem_cons]; exact ⟨fun h => h.resolve_left (fun e => c e.symm), .inr⟩
      simp only [obs, show ¬ s = x from fun e => c e.symm, decide_false, Bool.false_eq_true, if_false, findF g s r (k + 1) (i + 1), hm, h]
      by_cases c2 : s ∈ r
      · rw [if_pos c2, if_pos c2, show i + 1 + r.idxOf s = i + (r.idxOf s + 1) by omega, show k + 1 + r.idxOf s = k + (r.idxOf s + 1) by omega]
      · rw [if_neg c2, if_neg c2]
structure Mt (n : Net) (m : List UInt8) (k : Nat) (out0 out : List (List UInt8)) (i : Nat) : Prop where
  pre : ∃ s, out = out0 ++ s
  good : ∀ x ∈ out, goodMark n x = true
  len : out.length ≤ out0.length + i
theorem Mt.at {n : Net} {m : List UInt8} {k : Nat} {out0 out : List (List UInt8)} {i : Nat} (h : Mt n m k out0 out i) (h0 : out0[k]? = some m) : out[k]? = some m := by
  obtain ⟨s, rfl⟩ := h.pre
  rw [List.getElem?_append_left (lt_of_some h0), h0]
theorem Mt.step {n : Net} {m m' : List UInt8} {k : Nat} {out0 out : List (List UInt8)} {i : Nat} (h : Mt n m k out0 out i) (hg : goodMark n m' = true) : Mt n m k out0 (if m' ∈ out then out else out ++ [m']) (i + 1) := by
  obtain ⟨s, hs⟩ := h.pre
  split
  · exact ⟨⟨s, hs⟩, h.good, by have := h.len; omega⟩
  · refine ⟨⟨s ++ [m'], by rw [hs]; simp⟩, fun x hx => ?_, by have := h.len; simp; omega⟩
    rcases List.mem_append.1 hx with hx | hx
    · exact h.good x hx
    · rw [List.mem_singleton] at hx; subst hx; exact hg
theorem strS_at {l : List (List UInt8)} {k : Nat} {m : List UInt8} (h : l[k]? = some m) : (l.map PV.str)[k]? = some (.str m) := by rw [List.getElem?_map, h]; rfl
theorem strS_plc {l : List (List UInt8)} {k : Nat} {m : List UInt8} (h : l[k]? = some m) : plcV (l.map PV.str) (.int .i64 (k : Int)) = some (.int .i64 (k : Int)) := plc_at (by rw [List.length_map]; exact lt_of_some h)
theorem intS_plc {l : List Int} {k : Nat} {m : Int} (h : l[k]? = some m) : plcV (l.map pI) (.int .i64 (k : Int)) = some (.int .i64 (k : Int)) := plc_at (by rw [List.length_map]; exact lt_of_some h)
theorem intS_at {l : List Int} {k : Nat} {m : Int} (h : l[k]? = some m) : (l.map pI)[k]? = some (pI m) := by rw [List.getElem?_map, h]; rfl
end Go.Proofs.Ytnpbdphfjablbaa

namespace Go.Proofs.Ytnpbdphfjablbaa
open Go.RowKit
set_option linter.unusedVariables false
set_option linter.unusedSimpArgs false
/-! SIGNAL TRANSITION GRAPHS: validity. -/
theorem pv_5_2 (a b c d e : PV) : partV true 0 2 [a, b, c, d, e] = some (.agg [a, b]) := (Eq.refl _).trans (Eq.refl _)
def eLb (x : Lab) : PV := .agg [pI x.sig, pB x.up]
def sgP (x : Sig) : List UInt8 × Int := (x.name, x.kind)
def eStg (s : STG) : PV := .agg [pI s.net.places, .lst (s.net.trans.map eTr), .lst ((s.signals.map sgP).map eSig), .lst (s.labels.map eLb), .str s.start]
structure StgFit (s : STG) : Prop where
  net : NtFit s.net
  sigs : Fits (s.signals.map sgP)
  each : ∀ x ∈ s.signals.map sgP, Fits x.1
  labs : Fits s.labels
  start : Fits s.start
def labP (n : Int) (x : Lab) : Bool := inB x.sig 0 (n - 1) || (decide (x.sig = -1) && !x.up)
def stgP (s : STG) : Bool := (goodMark s.net s.start && (sigsP (s.signals.map sgP) && decide (s.labels.length = s.net.trans.length))) && s.labels.all (labP s.signals.length)
theorem p_r_l2Label (x : Lab) (n : Nat) (hn : n ≤ 9223372036854775807) : s_r_l2Label [eLb x, pI n] = some (pB (labP n x)) := by
  have g := p_r_l1In x.sig 0 ((n : Int) - 1)
  have gi : inB x.sig 0 ((n : Int) - 1) = (decide ((0 : Int) ≤ x.sig) && decide (x.sig ≤ (n : Int) - 1)) := rfl
  rw [← gi] at g
  have hw : IntKind.i64.wrap ((n : Int) - 1) = (n : Int) - 1 := wrap_of (by omega) (by omega)
  show (fun x0 x1 => s_r_l2Label [x0, x1]) _ _ = _
  rw [sh_r_l2Label]
  unfold labP
  simp only [eLb, hw, g, EVS]
  cases inB x.sig 0 ((n : Int) - 1) <;> simp only [EVS]
  rw [show Int.negSucc 0 = (-1 : Int) from rfl]
  cases decide (x.sig = -1) <;> simp only [EVS]
theorem p_r_l2Good (s : STG) (hs : StgFit s) : s_r_l2Good [eStg s] = some (pB (stgP s)) := by
  have hl := hs.labs
  unfold Fits at hl
  have hsl : s.signals.length ≤ 9223372036854775807 := by have := hs.sigs; unfold Fits at this; simpa using this
  have g1 := p_r_l1Good s.net hs.net
  have g2 := p_r_l2Signals (s.signals.map sgP) hs.sigs hs.each
  have g3 := p_r_l1Mark s.net s.start hs.start
  simp only [eNt] at g1 g3
  show (fun x0 => s_r_l2Good [x0]) _ = _
  rw [sh_r_l2Good]
  simp only [eStg, EVS]
  refine (congrArg (fun m : Option PV => m.bind fun r => if r.sc = true then some r else none) (rangeAll (R := PV) s.labels (fun _ x => labP s.signals.length x) (some (pB false)) (some (pB (goodMark s.net s.start && (sigsP (s.signals.map sgP) && decide (s.labels.length = s.net.trans.length))))) _ hl (fun again k x hx => ?_) (fun again => ?_))).trans ?_
  · have hk := lt_of_some hx
    have hi : idxV (.lst (s.labels.map eLb)) (.int .i64 (k : Int)) = some (eLb x) := idx_map hx
    have g := p_r_l2Label x s.signals.length hsl
    simp only [eLb] at g
    simp only [lt_d hk, next_w hk hl, hi, eLb, g, EVS]
    cases labP s.signals.length x <;> simp only [EVS]
  · have hd : decide ((s.labels.length : Int) = (s.net.trans.length : Int)) = decide (s.labels.length = s.net.trans.length) := by rw [Bool.eq_iff_iff]; simp only [decide_eq_true_eq]; omega
    unfold goodMark
    simp only [ge_d, hd, EVS]
    cases c1 : goodNet s.net <;> cases c2 : sigsP (s.signals.map sgP) <;> cases c3 : decide (s.labels.length = s.net.trans.length) <;> simp only [c1, c2, c3, hd, pv_5_2, g1, g2, g3, EVS]
  · rw [allK_all]
    unfold stgP
    cases s.labels.all (labP s.signals.length) <;> simp only [EVS] <;> rfl
theorem p_i_isEdge (x : Lab) (n : Nat) (hn : n ≤ 9223372036854775807) : s_i_isEdge [eLb x, pI n] = some (pB (labP n x)) := by
  have g := p_i_within x.sig 0 ((n : Int) - 1)
  have gi : inB x.sig 0 ((n : Int) - 1) = inR x.sig 0 ((n : Int) - 1) := rfl
  rw [← gi] at g
  have hw : IntKind.i64.wrap ((n : Int) - 1) = (n : Int) - 1 := wrap_of (by omega) (by omega)
  have he : eqV (some [(0, TD.int IntKind.i64), (1, TD.bool)]) TD.struct (.agg [pI x.sig, pB x.up]) (.agg [pI (-1), pB false]) = some (decide (x.sig = -1) && !x.up) := by
    rw [eqPin]; cases x.up <;> rfl
  show (fun x0 x1 => s_i_isEdge [x0, x1]) _ _ = _
  rw [sh_i_isEdge]
  unfold labP
  simp only [eLb, hw, g, EVS]
  cases inB x.sig 0 ((n : Int) - 1) <;> simp only [EVS]
  rw [show Int.negSucc 0 = (-1 : Int) from rfl]
  simp only [he, EVS]
theorem p_i_IsValidSTG_1 (x : Lab) (s : STG) (hs : StgFit s) : s_i_IsValidSTG_1 [eLb x, eStg s] = some (pB (!labP s.signals.length x)) := by
  have hsl : s.signals.length ≤ 9223372036854775807 := by have := hs.sigs; unfold Fits at this; simpa using this
  have g := p_i_isEdge x s.signals.length hsl
  simp only [eLb] at g
  show (fun x0 x1 => s_i_IsValidSTG_1 [x0, x1]) _ _ = _
  rw [sh_i_IsValidSTG_1]
  simp only [eLb, eStg, List.drop_succ_cons, List.drop_zero, List.length_map, g, EVS]
theorem p_g_slices_IndexFunc_Label__i_IsValidSTG_1 (s : STG) (hs : StgFit s) : s_g_slices_IndexFunc_Label__i_IsValidSTG_1 [.lst (s.labels.map eLb), .tup [eStg s]] = some (pI (ixf (fun x => !labP s.signals.length x) 0 s.labels)) := by
  show (fun x0 x1 => s_g_slices_IndexFunc_Label__i_IsValidSTG_1 [x0, x1]) _ _ = _
  rw [sh_g_slices_IndexFunc_Label__i_IsValidSTG_1]
  have hl := hs.labs
  unfold Fits at hl
  simp only [EVS]
  refine (congrArg (fun m : Option PV => m.bind fun r => if r.sc = true then some r else none) (rangeIx s.labels (fun x => !labP s.signals.length x) _ hl (fun again k a hb => ?_) (fun again => ?_))).trans ?_
  · have hk := lt_of_some hb
    have hi : idxV (.lst (s.labels.map eLb)) (.int .i64 (k : Int)) = some (eLb a) := idx_map hb
    have g := p_i_IsValidSTG_1 a s hs
    simp only [eLb, eStg] at g
    simp only [lt_d hk, next_w hk hl, hi, eLb, eStg, caps1, List.cons_append, List.nil_append, g, EVS]
  · simp only [ge_d, EVS]
    rfl
  · simp only [EVS]
theorem p_g_slices_ContainsFunc_Label__i_IsValidSTG_1 (s : STG) (hs : StgFit s) : s_g_slices_ContainsFunc_Label__i_IsValidSTG_1 [.lst (s.labels.map eLb), .tup [eStg s]] = some (pB (!s.labels.all (labP s.signals.length))) := by
  show (fun x0 x1 => s_g_slices_ContainsFunc_Label__i_IsValidSTG_1 [x0, x1]) _ _ = _
  rw [sh_g_slices_ContainsFunc_Label__i_IsValidSTG_1]
  simp only [p_g_slices_IndexFunc_Label__i_IsValidSTG_1 s hs, ixf_ge (fun x => !labP s.signals.length x) s.labels 0, Bool.not_not, allK_all, EVS]
theorem p_i_IsValidSTG (s : STG) (hs : StgFit s) : s_i_IsValidSTG [eStg s] = some (pB (stgP s)) := by
  have g1 := p_i_IsValidMarking s.net s.start hs.net hs.start
  have g2 := p_i_areSignals (s.signals.map sgP) hs.sigs hs.each
  rw [← sigs_eq] at g2
  have g3 := p_g_slices_ContainsFunc_Label__i_IsValidSTG_1 s hs
  have hd : decide ((s.labels.length : Int) = (s.net.trans.length : Int)) = decide (s.labels.length = s.net.trans.length) := by rw [Bool.eq_iff_iff]; simp only [decide_eq_true_eq]; omega
  simp only [eNt, eStg] at g1 g3
  show (fun x0 => s_i_IsValidSTG [x0]) _ = _
  rw [sh_i_IsValidSTG]
  unfold stgP
  simp only [eStg, List.drop_zero, EVS]
  cases c1 : goodMark s.net s.start <;> cases c2 : sigsP (s.signals.map sgP) <;> cases c3 : decide (s.labels.length = s.net.trans.length) <;> simp only [c1, c2, c3, hd, pv_5_2, g1, g2, g3, List.drop_zero, Bool.not_not, EVS]
end Go.Proofs.Ytnpbdphfjablbaa

namespace Go.Proofs.Ytnpbdphfjablbaa
open Go.RowKit
set_option linter.unusedVariables false
set_option linter.unusedSimpArgs false
/-! EXPLORING. -/
def eMv (v : Mv) : PV := .agg [pI v.from_, pI v.by_, pI v.to]
theorem findM_idx {m : List UInt8} {l : List (List UInt8)} (h : m ∈ l) : findM m l = (l.idxOf m : Nat) := by
  unfold findM idxB
  suffices h2 : ∀ (l : List (List UInt8)) (k : Nat), m ∈ l → goIdx (fun x => x == m) k l = ((k + l.idxOf m : Nat) : Int) by simpa using h2 l 0 h
  intro l
  induction l with
  | nil => intro k h; cases h
  | cons x r ih =>
    intro k h
    unfold goIdx
    by_cases c : x = m
    · subst c; simp
    · rw [if_neg (by simpa using c), ih (k + 1) (by rcases List.mem_cons.1 h with h | h; exact absurd h.symm c; exact h), List.idxOf_cons, beq_eq_false_iff_ne.2 c]
      simp only [cond_false]; omega
def exStep (n : Net) (m : List UInt8) (k : Nat) (z1 : Int → ESt → Option PV) (z2 : ESt → Option PV) (s : ESt) (_ : Nat) (t : Int) : Sum ESt (Option PV) := match fireB n m t with
  | none => .inr (z1 t s)
  | some m' => if m' ∈ s.marks then .inl (exOld k t (findM m' s.marks) s) else if s.marks.length = 300 then .inr (z2 s) else .inl (exNew k t m' s)
section
variable {n : Net} {m m' : List UInt8} {k i : Nat} {z1 : Int → ESt → Option PV} {z2 : ESt → Option PV} {s : ESt} {t : Int}
theorem exStep_none (h : fireB n m t = none) : exStep n m k z1 z2 s i t = .inr (z1 t s) := by unfold exStep; rw [h]
theorem exStep_old (h : fireB n m t = some m') (h2 : m' ∈ s.marks) : exStep n m k z1 z2 s i t = .inl (exOld k t (findM m' s.marks) s) := by unfold exStep; rw [h]; exact if_pos h2
theorem exStep_full (h : fireB n m t = some m') (h2 : m' ∉ s.marks) (h3 : s.marks.length = 300) : exStep n m k z1 z2 s i t = .inr (z2 s) := by unfold exStep; rw [h]; exact (if_neg h2).trans (if_pos h3)
theorem exStep_new (h : fireB n m t = some m') (h2 : m' ∉ s.marks) (h3 : ¬ s.marks.length = 300) : exStep n m k z1 z2 s i t = .inl (exNew k t m' s) := by unfold exStep; rw [h]; exact (if_neg h2).trans (if_neg h3)
end
def exCase (e : ESt → Option PV) (z1 : Int → ESt → Option PV) (z2 : ESt → Option PV) : EOut → Option PV
  | .ok s => e s
  | .bad t s => z1 t s
  | .full s => z2 s
theorem fold_ex (n : Net) (m : List UInt8) (k : Nat) (e : ESt → Option PV) (z1 : Int → ESt → Option PV) (z2 : ESt → Option PV) : ∀ (l : List Int) (i : Nat) (s : ESt), foldGo (R := PV) (exStep n m k z1 z2) e i s l = exCase e z1 z2 (exIn n m k l s)
  | [], i, s => rfl
  | t :: r, i, s => by
    unfold foldGo exIn
    cases h : fireB n m t with
    | none => rw [exStep_none h]; rfl
    | some m' =>
      by_cases h2 : m' ∈ s.marks
      · rw [exStep_old h h2]
        show foldGo _ _ _ _ _ = exCase e z1 z2 (if m' ∈ s.marks then _ else _)
        rw [if_pos h2]
        exact fold_ex n m k e z1 z2 r (i + 1) _
      · by_cases h3 : s.marks.length = 300
        · rw [exStep_full h h2 h3]
          show _ = exCase e z1 z2 (if m' ∈ s.marks then _ else _)
          rw [if_neg h2, if_pos h3]; rfl
        · rw [exStep_new h h2 h3]
          show foldGo _ _ _ _ _ = exCase e z1 z2 (if m' ∈ s.marks then _ else _)
          rw [if_neg h2, if_neg h3]
          exact fold_ex n m k e z1 z2 r (i + 1) _
/-- What holds within the firings of one marking. -/
structure Ms (n : Net) (s0 s : ESt) (i : Nat) : Prop where
  pre : ∃ a, s.marks = s0.marks ++ a
  good : ∀ x ∈ s.marks, goodMark n x = true
  len : s.marks.length ≤ 300
  mv : s.moves.length ≤ s0.moves.length + i
  by_ : s.by_.length ≤ s.marks.length
theorem Ms.at {n : Net} {s0 s : ESt} {i k : Nat} {m : List UInt8} (h : Ms n s0 s i) (h0 : s0.marks[k]? = some m) : s.marks[k]? = some m := by
  obtain ⟨a, ha⟩ := h.pre
  rw [ha, List.getElem?_append_left (lt_of_some h0), h0]
theorem Ms.old {n : Net} {s0 s : ESt} {i k : Nat} {t j : Int} (h : Ms n s0 s i) : Ms n s0 (exOld k t j s) (i + 1) := ⟨h.pre, h.good, h.len, by have := h.mv; unfold exOld; simp; omega, h.by_⟩
theorem Ms.new {n : Net} {s0 s : ESt} {i k : Nat} {t : Int} {m' : List UInt8} (h : Ms n s0 s i) (hg : goodMark n m' = true) (h3 : ¬ s.marks.length = 300) : Ms n s0 (exNew k t m' s) (i + 1) := by
  obtain ⟨a, ha⟩ := h.pre
  have := h.len
  have := h.mv
  have := h.by_
  refine ⟨⟨a ++ [m'], by unfold exNew; simp [ha]⟩, fun x hx => ?_, by unfold exNew; simp; omega, by unfold exNew; simp; omega, by unfold exNew; simp; omega⟩
  rcases List.mem_append.1 hx with hx | hx
  · exact h.good x hx
  · rw [List.mem_singleton] at hx; subst hx; exact hg
theorem exIn_ms {n : Net} {m : List UInt8} {k : Nat} {s0 : ESt} (hm : goodMark n m = true) : ∀ (l : List Int) (s : ESt) (i : Nat) (s' : ESt), (∀ t ∈ l, t ∈ enL n m) → Ms n s0 s i → exIn n m k l s = .ok s' → Ms n s0 s' (i + l.length)
  | [], s, i, s', _, h, he => by cases he; exact h
  | t :: r, s, i, s', hl, h, he => by
    unfold exIn at he
    obtain ⟨j, x, e, hx, he', hf⟩ := enL_mem (hl t (List.mem_cons_self ..))
    have hr : ∀ t ∈ r, t ∈ enL n m := fun t ht => hl t (List.mem_cons_of_mem _ ht)
    rw [show i + (t :: r).length = i + 1 + r.length by simp; omega]
    cases hF : fireB n m t with
    | none => rw [hF] at he; cases he
    | some m' =>
      rw [hF] at he hf
      have he2 : (if m' ∈ s.marks then exIn n m k r (exOld k t (findM m' s.marks) s) else if s.marks.length = 300 then .full s else exIn n m k r (exNew k t m' s)) = .ok s' := he
      by_cases h2 : m' ∈ s.marks
      · rw [if_pos h2] at he2
        exact exIn_ms hm r _ (i + 1) s' hr h.old he2
      · rw [if_neg h2] at he2
        by_cases h3 : s.marks.length = 300
        · rw [if_pos h3] at he2; cases he2
        · rw [if_neg h3] at he2
          exact exIn_ms hm r _ (i + 1) s' hr (h.new (fireM_good hm hf.symm) h3) he2
end Go.Proofs.Ytnpbdphfjablbaa

namespace Go.Proofs.Ytnpbdphfjablbaa
open Go.RowKit
set_option linter.unusedVariables false
set_option linter.unusedSimpArgs false
end Go.Proofs.Ytnpbdphfjablbaa

namespace Go.Proofs.Ytnpbdphfjablbaa
open Go.RowKit
set_option linter.unusedVariables false
set_option linter.unusedSimpArgs false
/-! VALUES OF A SIGNAL in all states, as the arcs tell them: an arc keeps the value, or is an edge of the signal. -/
structure VA where
  f : Nat
  t : Nat
  e : Option Bool
abbrev Vals := List (Option Bool)
def vAt (v : Vals) (k : Nat) : Option Bool := v.getD k none
/-- An edge that leads from a state to itself is refused at once ('own'), or sets the value twice. -/
def stepV (own : Bool) (v : Vals) (a : VA) : Option Vals := match a.e with
  | none => match vAt v a.f, vAt v a.t with
    | some x, some y => if x = y then some v else none
    | some x, none => some (v.set a.t (some x))
    | none, some y => some (v.set a.f (some y))
    | none, none => some v
  | some up => if (vAt v a.f = none ∨ vAt v a.f = some (!up)) ∧ (vAt v a.t = none ∨ vAt v a.t = some up) ∧ (own = true → a.f ≠ a.t) then some ((v.set a.f (some (!up))).set a.t (some up)) else none
def passV (own : Bool) : List VA → Vals → Option Vals
  | [], v => some v
  | a :: r, v => (stepV own v a).bind (passV own r)
def cntV (v : Vals) : Nat := v.countP (fun x => x.isNone)
theorem cnt_set {v : Vals} {k : Nat} {x : Bool} (h : k < v.length) : cntV (v.set k (some x)) + (if vAt v k = none then 1 else 0) = cntV v := by
  unfold cntV vAt
  induction v generalizing k with
  | nil => simp at h
  | cons y r ih =>
    cases k with
    | zero =>
      cases y <;> simp [List.countP_cons]
    | succ k =>
      have := ih (k := k) (by simpa using h)
      simp only [List.set_cons_succ, List.countP_cons, List.getD_cons_succ]
      omega
theorem at_set {v : Vals} {k j : Nat} {x : Option Bool} (h : k < v.length) : vAt (v.set k x) j = if j = k then x else vAt v j := by
  unfold vAt
  rw [List.getD_eq_getElem?_getD, List.getElem?_set, List.getD_eq_getElem?_getD]
  by_cases c : k = j
  · subst c; simp [h]
  · have c' : ¬ j = k := fun e => c e.symm
    simp [c, c']
theorem set_id {v : Vals} {k : Nat} {x : Bool} (h : vAt v k = some x) : v.set k (some x) = v := by
  unfold vAt at h
  rw [List.getD_eq_getElem?_getD] at h
  apply List.ext_getElem?
  intro i
  rw [List.getElem?_set]
  split
  · rename_i e
    subst e
    cases hk : v[k]? with
    | none => rw [hk] at h; cases h
    | some y =>
      rw [hk] at h
      have hl := lt_of_some hk
      rw [if_pos hl]
      simp only [Option.getD_some] at h
      rw [h]
  · rfl
/-- A step leaves all as it was, or makes a value known. -/
theorem stepV_cnt {own : Bool} {v v' : Vals} {a : VA} (hf : a.f < v.length) (ht : a.t < v.length) (hn : a.e = none ∨ a.f ≠ a.t) (h : stepV own v a = some v') : v'.length = v.length ∧ (v' = v ∨ cntV v' < cntV v) := by
  unfold stepV at h
  cases he : a.e with
  | none =>
    rw [he] at h
    dsimp only at h
    cases h1 : vAt v a.f with
    | none =>
      cases h2 : vAt v a.t with
      | none => rw [h1, h2] at h; cases h; exact ⟨rfl, .inl rfl⟩
      | some y =>
        rw [h1, h2] at h; cases h
        have := cnt_set (x := y) hf
        rw [h1, if_pos rfl] at this
        exact ⟨by simp, .inr (by omega)⟩
    | some x =>
      cases h2 : vAt v a.t with
      | none =>
        rw [h1, h2] at h; cases h
        have := cnt_set (x := x) ht
        rw [h2, if_pos rfl] at this
        exact ⟨by simp, .inr (by omega)⟩
      | some y =>
        rw [h1, h2] at h
        dsimp only at h
        split at h
        · cases h; exact ⟨rfl, .inl rfl⟩
        · cases h
  | some up =>
    rw [he] at h
    dsimp only at h
    split at h
    · rename_i hc
      cases h
      have hne : a.f ≠ a.t := hn.resolve_left (by rw [he]; simp)
      refine ⟨by simp, ?_⟩
      have c1 := cnt_set (v := v) (x := !up) hf
      have c2 := cnt_set (v := v.set a.f (some (!up))) (k := a.t) (x := up) (by simpa using ht)
      have e1 : vAt (v.set a.f (some (!up))) a.t = vAt v a.t := by rw [at_set hf, if_neg (fun e => hne e.symm)]
      rw [e1] at c2
      rcases hc.1 with h1 | h1
      · rw [if_pos h1] at c1
        exact .inr (by omega)
      · rw [set_id h1] at c2 ⊢
        rcases hc.2.1 with h2 | h2
        · rw [if_pos h2] at c2
          exact .inr (by omega)
        · exact .inl (set_id h2)
    · cases h
def VOk (n : Nat) (l : List VA) : Prop := ∀ a ∈ l, a.f < n ∧ a.t < n
/-- No edge leads from a state to itself. -/
def VNo (l : List VA) : Prop := ∀ a ∈ l, a.e = none ∨ a.f ≠ a.t
theorem passV_cnt {own : Bool} : ∀ {l : List VA} {v v' : Vals}, VOk v.length l → VNo l → passV own l v = some v' → v'.length = v.length ∧ (v' = v ∨ cntV v' < cntV v)
  | [], v, v', _, _, h => by cases h; exact ⟨rfl, .inl rfl⟩
  | a :: r, v, v', ho, hn, h => by
    unfold passV at h
    obtain ⟨u, h1, h2⟩ := Option.bind_eq_some_iff.1 h
    have ha := ho a (List.mem_cons_self ..)
    obtain ⟨e1, e2⟩ := stepV_cnt ha.1 ha.2 (hn a (List.mem_cons_self ..)) h1
    obtain ⟨e3, e4⟩ := passV_cnt (l := r) (fun b hb => by rw [e1]; exact ho b (List.mem_cons_of_mem _ hb)) (fun b hb => hn b (List.mem_cons_of_mem _ hb)) h2
    refine ⟨e3.trans e1, ?_⟩
    rcases e2 with rfl | e2 <;> rcases e4 with rfl | e4
    · exact .inl rfl
    · exact .inr e4
    · exact .inr e2
    · exact .inr (by omega)
/-- Whether a pass made a value known. -/
def moreV (own : Bool) : List VA → Vals → Bool
  | [], _ => false
  | a :: r, v => match stepV own v a with
    | none => false
    | some u => decide (u ≠ v) || moreV own r u
theorem moreV_eq {own : Bool} : ∀ {l : List VA} {v v' : Vals}, VOk v.length l → VNo l → passV own l v = some v' → moreV own l v = decide (cntV v' < cntV v)
  | [], v, v', _, _, h => by cases h; unfold moreV; simp
  | a :: r, v, v', ho, hn, h => by
    unfold passV at h
    obtain ⟨u, h1, h2⟩ := Option.bind_eq_some_iff.1 h
    have ha := ho a (List.mem_cons_self ..)
    obtain ⟨e1, e2⟩ := stepV_cnt ha.1 ha.2 (hn a (List.mem_cons_self ..)) h1
    have ho' : VOk u.length r := fun b hb => by rw [e1]; exact ho b (List.mem_cons_of_mem _ hb)
    have hn' : VNo r := fun b hb => hn b (List.mem_cons_of_mem _ hb)
    obtain ⟨e3, e4⟩ := passV_cnt ho' hn' h2
    have ih := moreV_eq ho' hn' h2
    have hc : cntV v' ≤ cntV u := by rcases e4 with rfl | e4 <;> omega
    show (match stepV own v a with | none => false | some u => decide (u ≠ v) || moreV own r u) = _
    rw [h1]
    dsimp only
    rw [ih]
    rcases e2 with rfl | e2
    · simp
    · have : u ≠ v := fun e => by rw [e] at e2; omega
      simp [this]; omega
/-- Passes until nothing turns. -/
def iterV (l : List VA) : Nat → Vals → Option Vals
  | 0, v => some v
  | f + 1, v => (passV true l v).bind fun u => if moreV true l v = true then iterV l f u else some u
/-- So many passes. -/
def manyV (own : Bool) (l : List VA) : Nat → Vals → Option Vals
  | 0, v => some v
  | f + 1, v => (passV own l v).bind (manyV own l f)
theorem manyV_still {own : Bool} {l : List VA} {v : Vals} (h : passV own l v = some v) : ∀ f, manyV own l f v = some v
  | 0 => rfl
  | f + 1 => by unfold manyV; rw [h]; exact manyV_still h f
theorem iter_many {l : List VA} : ∀ (f : Nat) (v : Vals), VOk v.length l → VNo l → cntV v ≤ f → iterV l (f + 1) v = manyV true l (f + 1) v
  | f, v, ho, hn, hc => by
    unfold iterV manyV
    cases h : passV true l v with
    | none => rfl
    | some u =>
      obtain ⟨e3, e4⟩ := passV_cnt ho hn h
      show (if moreV true l v = true then iterV l f u else some u) = manyV true l f u
      rw [moreV_eq ho hn h]
      rcases e4 with rfl | e4
      · rw [if_neg (by simp), manyV_still h f]
      · rw [if_pos (by simpa using e4)]
        cases f with
        | zero => omega
        | succ f => exact iter_many f u (by rw [e3]; exact ho) hn (by omega)
theorem stepV_own {v : Vals} {a : VA} (h : a.e = none ∨ a.f ≠ a.t) : stepV true v a = stepV false v a := by
  unfold stepV
  cases he : a.e with
  | none => rfl
  | some up =>
    have hne : a.f ≠ a.t := h.resolve_left (by rw [he]; simp)
    simp [hne]
theorem passV_own : ∀ {l : List VA} {v : Vals}, VNo l → passV true l v = passV false l v
  | [], v, _ => rfl
  | a :: r, v, h => by
    unfold passV
    rw [stepV_own (h a (List.mem_cons_self ..))]
    cases stepV false v a with
    | none => rfl
    | some u => exact passV_own (fun b hb => h b (List.mem_cons_of_mem _ hb))
theorem manyV_own {l : List VA} (h : VNo l) : ∀ (f : Nat) (v : Vals), manyV true l f v = manyV false l f v
  | 0, v => rfl
  | f + 1, v => by
    unfold manyV
    rw [passV_own h]
    cases passV false l v with
    | none => rfl
    | some u => exact manyV_own h f u
/-! an edge from a state to itself: refused by both -/
theorem passV_bad : ∀ {l : List VA} {v : Vals} {a : VA}, a ∈ l → a.e ≠ none → a.f = a.t → passV true l v = none
  | [], v, a, h, _, _ => by cases h
  | b :: r, v, a, h, h1, h2 => by
    unfold passV
    rcases List.mem_cons.1 h with rfl | h
    · have : stepV true v a = none := by
        unfold stepV
        cases he : a.e with
        | none => exact absurd he h1
        | some up => simp [h2]
      rw [this]; rfl
    · cases stepV true v b with
      | none => rfl
      | some u => exact passV_bad h h1 h2
theorem stepV_known {v u : Vals} {a : VA} {k : Nat} {own : Bool} (hf : a.f < v.length) (ht : a.t < v.length) (h : stepV own v a = some u) (hk : vAt v k ≠ none) : u.length = v.length ∧ vAt u k ≠ none := by
  unfold stepV at h
  cases he : a.e with
  | none =>
    rw [he] at h
    dsimp only at h
    cases h1 : vAt v a.f <;> cases h2 : vAt v a.t <;> rw [h1, h2] at h <;> dsimp only at h
    · cases h; exact ⟨rfl, hk⟩
    · cases h
      refine ⟨by simp, ?_⟩
      rw [at_set hf]; split
      · simp
      · exact hk
    · cases h
      refine ⟨by simp, ?_⟩
      rw [at_set ht]; split
      · simp
      · exact hk
    · split at h
      · cases h; exact ⟨rfl, hk⟩
      · cases h
  | some up =>
    rw [he] at h
    dsimp only at h
    split at h
    · cases h
      refine ⟨by simp, ?_⟩
      rw [at_set (by simpa using ht), at_set hf]
      split
      · simp
      · split
        · simp
        · exact hk
    · cases h
theorem passV_known {own : Bool} : ∀ {l : List VA} {v u : Vals} {k : Nat}, VOk v.length l → passV own l v = some u → (vAt v k ≠ none ∨ ∃ a ∈ l, a.e ≠ none ∧ a.f = k) → u.length = v.length ∧ vAt u k ≠ none
  | [], v, u, k, _, h, hk => by
    cases h
    rcases hk with hk | ⟨a, ha, _⟩
    · exact ⟨rfl, hk⟩
    · cases ha
  | b :: r, v, u, k, ho, h, hk => by
    unfold passV at h
    obtain ⟨x, h1, h2⟩ := Option.bind_eq_some_iff.1 h
    have hb := ho b (List.mem_cons_self ..)
    have hx : x.length = v.length := by
      unfold stepV at h1
      cases he : b.e with
      | none =>
        rw [he] at h1
        dsimp only at h1
        cases c1 : vAt v b.f <;> cases c2 : vAt v b.t <;> rw [c1, c2] at h1 <;> dsimp only at h1
        · cases h1; rfl
        · cases h1; simp
        · cases h1; simp
        · split at h1
          · cases h1; rfl
          · cases h1
      | some up =>
        rw [he] at h1
        dsimp only at h1
        split at h1
        · cases h1; simp
        · cases h1
    have ho' : VOk x.length r := fun b hb => by rw [hx]; exact ho b (List.mem_cons_of_mem _ hb)
    have hk' : vAt x k ≠ none ∨ ∃ a ∈ r, a.e ≠ none ∧ a.f = k := by
      rcases hk with hk | ⟨a, ha, he, hf⟩
      · exact .inl (stepV_known hb.1 hb.2 h1 hk).2
      · rcases List.mem_cons.1 ha with rfl | ha
        · refine .inl ?_
          unfold stepV at h1
          cases hea : a.e with
          | none => exact absurd hea he
          | some up =>
            rw [hea] at h1
            dsimp only at h1
            split at h1
            · cases h1
              rw [at_set (by simpa using hb.2), at_set hb.1, hf]
              split <;> simp
            · cases h1
        · exact .inr ⟨a, ha, he, hf⟩
    have := passV_known ho' h2 hk'
    exact ⟨this.1.trans hx, this.2⟩
theorem passV_twice : ∀ {l : List VA} {v : Vals} {a : VA}, VOk v.length l → a ∈ l → a.e ≠ none → a.f = a.t → vAt v a.f ≠ none → passV false l v = none
  | [], v, a, _, h, _, _, _ => by cases h
  | b :: r, v, a, ho, h, h1, h2, h3 => by
    unfold passV
    rcases List.mem_cons.1 h with rfl | h
    · have : stepV false v a = none := by
        unfold stepV
        cases he : a.e with
        | none => exact absurd he h1
        | some up =>
          dsimp only
          rw [if_neg]
          rintro ⟨c1, c2, _⟩
          have c1 := c1.resolve_left h3
          rw [← h2] at c2
          have c2 := c2.resolve_left h3
          rw [c1] at c2
          cases up <;> cases c2
      rw [this]; rfl
    · cases hb : stepV false v b with
      | none => rfl
      | some u =>
        have hh := ho b (List.mem_cons_self ..)
        obtain ⟨e1, e2⟩ := stepV_known hh.1 hh.2 hb h3
        exact passV_twice (fun c hc => by rw [e1]; exact ho c (List.mem_cons_of_mem _ hc)) h h1 h2 e2
/-- Both ways agree. -/
theorem iter_eq {l : List VA} {v : Vals} (ho : VOk v.length l) (hn : 0 < v.length) : iterV l (v.length + 1) v = manyV false l (v.length + 1) v := by
  by_cases c : VNo l
  · rw [← manyV_own c]
    exact iter_many v.length v ho c (by unfold cntV; exact List.countP_le_length)
  · have hb : ∃ a, a ∈ l ∧ a.e ≠ none ∧ a.f = a.t := by
      apply Classical.byContradiction
      intro hh
      refine c fun a ha => ?_
      apply Classical.byContradiction
      intro h2
      exact hh ⟨a, ha, fun e => h2 (.inl e), Classical.byContradiction fun e => h2 (.inr e)⟩
    obtain ⟨a, ha, h1, h2⟩ := hb
    have e1 : iterV l (v.length + 1) v = none := by unfold iterV; rw [passV_bad ha h1 h2]; rfl
    rw [e1]
    obtain ⟨m, hm⟩ : ∃ m, v.length = m + 1 := ⟨v.length - 1, by omega⟩
    rw [hm]
    unfold manyV
    cases hp : passV false l v with
    | none => rfl
    | some u =>
      obtain ⟨e3, e4⟩ := passV_known (k := a.f) ho hp (.inr ⟨a, ha, h1, rfl⟩)
      show none = manyV false l (m + 1) u
      unfold manyV
      rw [passV_twice (fun c hc => by rw [e3]; exact ho c hc) ha h1 h2 e4]
      rfl
end Go.Proofs.Ytnpbdphfjablbaa

namespace Go.Proofs.Ytnpbdphfjablbaa
open Go.RowKit
set_option linter.unusedVariables false
set_option linter.unusedSimpArgs false
theorem mapLm (l : List (PV × PV)) : mapL (.map l) = some l := rfl
theorem zpInt : zeroPV (TI.mk 1 8 (TD.int .i64) [ZC.int .i64] [] false) = .int .i64 0 := rfl
theorem pv_6_2 (a b c d e : PV) : partV true 0 2 [a, b, c, d, e] = some (.agg [a, b]) := (Eq.refl _).trans (Eq.refl _)
theorem grp2 (a b c d : PV) : grpSt [a, b] 0 (.agg [c, d]) = some (.agg [c, d]) := rfl
theorem spl3 (a b c x y z : PV) : splice (splice (splice [a, b, c] 0 [x]) 1 [y]) 2 [z] = [x, y, z] := rfl
def rgV (s : ESt) : PV := .agg [.lst (s.marks.map PV.str), .lst (s.moves.map eMv)]
def ixM (s : ESt) : PV := .map (mapF (fun i => pI i) 0 s.marks)
theorem ixM_new (s : ESt) (m : List UInt8) (k : Nat) (t : Int) : PV.map (mapF (fun i => pI i) 0 s.marks ++ [(.str m, pI s.marks.length)]) = ixM (exNew k t m s) := by
  unfold ixM exNew
  rw [mapF_snoc, Nat.zero_add]
def exV (r : ERes) : PV := .tup [rgV r.st, pI (if r.code = 1 then (r.k : Int) else -1), pI (if r.code = 1 then r.t else -1), pB (r.code == 0)]
theorem p_i_explored (s : STG) (hs : StgFit s) (hg : goodMark s.net s.start = true) : s_i_explored [eStg s] = some (exV (explore s)) := by
  have hn := hs.net
  show (fun x0 => s_i_explored [x0]) _ = _
  rw [sh_i_explored]
  simp only [eStg, keyS, grp2, EVS]
  refine (loopR_go (R := PV) (fun q : {q : ESt × Nat // (∀ x ∈ q.1.marks, goodMark s.net x = true) ∧ q.1.marks.length ≤ 300 ∧ q.2 ≤ q.1.marks.length ∧ q.1.moves.length ≤ 24 * q.2 ∧ q.1.by_.length ≤ q.1.marks.length} => [rgV q.1.1, ixM q.1.1, pI (Int.ofNat q.1.2)]) (fun q => 301 - q.1.2) (fun q => some (exV (exOut s.net (301 - q.1.2) q.1.2 q.1.1))) _ (fun again q ih => ?_) _ ⟨(exStart s.start, 0), by simpa [exStart] using hg, by simp [exStart], by simp, by simp [exStart], by simp [exStart]⟩ (by simp only; omega)).trans ?_
  · obtain ⟨⟨e, k⟩, hgd, hlen, hk, hmv, hby⟩ := q
    dsimp only at ih hgd hlen hk hmv hby ⊢
    by_cases c : k < e.marks.length
    · obtain ⟨mk, hmk⟩ : ∃ mk, e.marks[k]? = some mk := ⟨e.marks[k], List.getElem?_eq_getElem c⟩
      have hmg := hgd mk (List.mem_of_getElem? hmk)
      have g1 := p_i_enabled s.net mk hmg hn
      simp only [eNt] at g1
      have hel := enL_length hmg
      simp only [rgV, lt_d c, strS_plc hmk, strS_at hmk, pv_6_2, g1, EVS]
      rw [show 301 - k = (300 - k) + 1 by omega, exOut_step hmk]
      refine (foldLoop (R := PV) (enL s.net mk) (fun (o : ESt) i => [ixM o, rgV o, pI (Int.ofNat i)]) (fun i o => Ms s.net e o i) (exStep s.net mk k (fun t o => some (.tup [rgV o, pI k, pI t, pB false])) (fun o => some (.tup [rgV o, pI (-1), pI (-1), pB false]))) (fun o => again [rgV o, ixM o, pI (Int.ofNat (k + 1))]) _ (by omega) (fun o i t o' hi hx he => ?_) (fun again2 o i t hi hx => ?_) (fun again2 o hi => ?_) (b := e) ⟨⟨[], by simp⟩, hgd, hlen, by omega, hby⟩).trans ?_
      · obtain ⟨j, x, rfl, hx', he', hf⟩ := enL_mem (List.mem_of_getElem? hx)
        cases hF : fireB s.net mk (j : Int) with
        | none => rw [exStep_none hF] at he; cases he
        | some m' =>
          by_cases h2 : m' ∈ o.marks
          · rw [exStep_old hF h2] at he; cases he; exact hi.old
          · by_cases h3 : o.marks.length = 300
            · rw [exStep_full hF h2 h3] at he; cases he
            · rw [exStep_new hF h2 h3] at he; cases he; exact hi.new (fireM_good hmg (hf.symm.trans hF)) h3
      · obtain ⟨j, x, rfl, hx', he', hf⟩ := enL_mem (List.mem_of_getElem? hx)
        have hki := lt_of_some hx
        have hoA := hi.at hmk
        have g2 := p_i_fire s.net mk j x hmg hx' (hn.each x (List.mem_of_getElem? hx'))
        simp only [eNt] at g2
        have hil : (enL s.net mk).length ≤ 9223372036854775807 := by omega
        cases hF : fireB s.net mk (j : Int) with
        | none =>
          rw [hF] at g2
          simp only [optS] at g2
          rw [exStep_none hF]
          simp only [rgV, lt_d hki, intS_plc hx, intS_at hx, strS_plc hoA, strS_at hoA, pv_6_2, g2, EVS]
        | some m' =>
          rw [hF] at g2
          simp only [optS] at g2
          have g3 := findF (fun i => pI i) m' o.marks 0 0
          have hmv2 := hi.mv
          have hl2 := hi.len
          have hla : ∀ v : Mv, o.moves.length + [eMv v].length ≤ 4294967296 ∧ [eMv v].all (okEl 3) = true := fun v => ⟨by simp; omega, rfl⟩
          have hlb : o.marks.length + [PV.str m'].length ≤ 4294967296 ∧ [PV.str m'].all (okEl 1) = true := ⟨by simp; omega, rfl⟩
          simp only [eMv] at hla
          simp only [rgV, ixM, lt_d hki, intS_plc hx, intS_at hx, strS_plc hoA, strS_at hoA, pv_6_2, g2, mapLm, keyS, g3, EVS]
          by_cases h2 : m' ∈ o.marks
          · rw [exStep_old hF h2]
            simp only [h2, Option.elim_some, spl3, if_pos (hla ⟨_, _, _⟩), next_w hki hil, EVS]
            simp only [exOld, findM_idx h2, Nat.zero_add, List.map_append, List.map_cons, List.map_nil, eMv]
          · by_cases h3 : o.marks.length = 300
            · rw [exStep_full hF h2 h3]
              simp only [h2, h3, zpInt, Option.elim_none, EVS]
              rfl
            · have h4 : decide ((o.marks.length : Int) = 300) = false := by simp only [decide_eq_false_iff_not]; omega
              have hN := ixM_new o m' k j
              unfold ixM at hN
              rw [exStep_new hF h2 h3]
              simp only [h2, h4, zpInt, Option.elim_none, if_pos hlb, if_pos (hla ⟨_, _, _⟩), spl3, next_w hki hil, EVS]
              rw [hN]
              simp only [exNew, List.map_append, List.map_cons, List.map_nil, eMv]
      · simp only [ge_d, next_w c (show e.marks.length ≤ 9223372036854775807 by omega), EVS]
      · rw [fold_ex]
        cases hE : exIn s.net mk k (enL s.net mk) e with
        | bad t s' => rfl
        | full s' => rfl
        | ok s' =>
          have hms := exIn_ms (s0 := e) hmg (enL s.net mk) e 0 s' (fun t ht => ht) ⟨⟨[], by simp⟩, hgd, hlen, by omega, hby⟩ hE
          have hl2 := lt_of_some (hms.at hmk)
          have hm2 := hms.mv
          have := ih ⟨(s', k + 1), hms.good, hms.len, by dsimp only; omega, by dsimp only; omega, hms.by_⟩ (by simp only; omega)
          rw [show 301 - (k + 1) = 300 - k by omega] at this
          exact this
    · obtain rfl : k = e.marks.length := by omega
      rw [exOut_end (by omega)]
      simp only [rgV, ge_d, EVS]
      rfl
  · rfl
end Go.Proofs.Ytnpbdphfjablbaa

namespace Go.Proofs.Ytnpbdphfjablbaa
open Go.RowKit
set_option linter.unusedVariables false
set_option linter.unusedSimpArgs false
theorem ixf_goIdx {α : Type} (q : α → Bool) : ∀ (l : List α) (k : Nat), ixf q k l = goIdx q k l
  | [], k => rfl
  | x :: r, k => by unfold ixf goIdx; rw [ixf_goIdx q r (k + 1)]
theorem p_r_l4Find (l : List (List UInt8)) (m : List UInt8) (hl : Fits l) : s_r_l4Find [.lst (l.map PV.str), .str m] = some (pI (findM m l)) := by
  unfold Fits at hl
  show (fun x0 x1 => s_r_l4Find [x0, x1]) _ _ = _
  rw [sh_r_l4Find]
  unfold findM idxB
  rw [← ixf_goIdx]
  simp only [EVS]
  refine (congrArg (fun m : Option PV => m.bind fun r => if r.sc = true then some r else none) (rangeIx l (fun x => x == m) _ hl (fun again k x hx => ?_) (fun again => ?_))).trans ?_
  · have hk := lt_of_some hx
    have hi : idxV (.lst (l.map PV.str)) (.int .i64 (k : Int)) = some (.str x) := idx_map hx
    have hd : (x == m) = decide (x = m) := by rw [Bool.eq_iff_iff]; simp
    simp only [lt_d hk, next_w hk hl, hi, hd, EVS]
  · simp only [ge_d, EVS]
    rfl
  · simp only [EVS]
theorem spl1 (a b c d e f x y : PV) : splice (splice [a, b, c, d, e, f] 3 [x]) 4 [y] = [a, b, c, x, y, f] := rfl
theorem spl5 (a b c d e f x : PV) : splice [a, b, c, d, e, f] 5 [x] = [a, b, c, d, e, x] := rfl
theorem spl6 (a b c d e f a' b' c' d' e' f' : PV) : splice [a, b, c, d, e, f] 0 [a', b', c', d', e', f'] = [a', b', c', d', e', f'] := rfl
theorem pv_6_6 (a b c d e f : PV) : partV true 0 6 [a, b, c, d, e, f] = some (.agg [a, b, c, d, e, f]) := rfl
def stW (s : ESt) (a b : Int) (c : Bool) : PV := .agg [.lst (s.marks.map PV.str), .lst (s.moves.map eMv), .lst (s.by_.map eMv), pI a, pI b, pB c]
def exW (r : ERes) : PV := stW r.st (if r.code = 1 then (r.k : Int) else 0) (if r.code = 1 then r.t else -1) (r.code == 2)
theorem p_r_l4Reach (s : STG) (hs : StgFit s) (hg : goodMark s.net s.start = true) : s_r_l4Reach [eStg s] = some (exW (explore s)) := by
  have hn := hs.net
  show (fun x0 => s_r_l4Reach [x0]) _ = _
  rw [sh_r_l4Reach]
  simp only [eStg, EVS]
  refine (loopR_go (R := PV) (fun q : {q : ESt × Nat // (∀ x ∈ q.1.marks, goodMark s.net x = true) ∧ q.1.marks.length ≤ 300 ∧ q.2 ≤ q.1.marks.length ∧ q.1.moves.length ≤ 24 * q.2 ∧ q.1.by_.length ≤ q.1.marks.length} => [stW q.1.1 0 (-1) false, pI (Int.ofNat q.1.2)]) (fun q => 301 - q.1.2) (fun q => some (exW (exOut s.net (301 - q.1.2) q.1.2 q.1.1))) _ (fun again q ih => ?_) _ ⟨(exStart s.start, 0), by simpa [exStart] using hg, by simp [exStart], by simp, by simp [exStart], by simp [exStart]⟩ (by simp only; omega)).trans ?_
  · obtain ⟨⟨e, k⟩, hgd, hlen, hk, hmv, hby⟩ := q
    dsimp only at ih hgd hlen hk hmv hby ⊢
    by_cases c : k < e.marks.length
    · obtain ⟨mk, hmk⟩ : ∃ mk, e.marks[k]? = some mk := ⟨e.marks[k], List.getElem?_eq_getElem c⟩
      have hmg := hgd mk (List.mem_of_getElem? hmk)
      have g1 := p_r_l1Enabled s.net mk hmg hn
      simp only [eNt] at g1
      have hel := enL_length hmg
      simp only [stW, lt_d c, strS_plc hmk, strS_at hmk, pv_6_2, g1, EVS]
      rw [show 301 - k = (300 - k) + 1 by omega, exOut_step hmk]
      refine (foldLoop (R := PV) (enL s.net mk) (fun (o : ESt) i => [stW o 0 (-1) false, pI (Int.ofNat i)]) (fun i o => Ms s.net e o i) (exStep s.net mk k (fun t o => some (stW o k t false)) (fun o => some (stW o 0 (-1) true))) (fun o => again [stW o 0 (-1) false, pI (Int.ofNat (k + 1))]) _ (by omega) (fun o i t o' hi hx he => ?_) (fun again2 o i t hi hx => ?_) (fun again2 o hi => ?_) (b := e) ⟨⟨[], by simp⟩, hgd, hlen, by omega, hby⟩).trans ?_
      · obtain ⟨j, x, rfl, hx', he', hf⟩ := enL_mem (List.mem_of_getElem? hx)
        cases hF : fireB s.net mk (j : Int) with
        | none => rw [exStep_none hF] at he; cases he
        | some m' =>
          by_cases h2 : m' ∈ o.marks
          · rw [exStep_old hF h2] at he; cases he; exact hi.old
          · by_cases h3 : o.marks.length = 300
            · rw [exStep_full hF h2 h3] at he; cases he
            · rw [exStep_new hF h2 h3] at he; cases he; exact hi.new (fireM_good hmg (hf.symm.trans hF)) h3
      · obtain ⟨j, x, rfl, hx', he', hf⟩ := enL_mem (List.mem_of_getElem? hx)
        have hki := lt_of_some hx
        have hoA := hi.at hmk
        have g2 := p_r_l1Fire s.net mk j x hmg hx' (hn.each x (List.mem_of_getElem? hx'))
        rw [← hf] at g2
        simp only [eNt] at g2
        have hil : (enL s.net mk).length ≤ 9223372036854775807 := by omega
        cases hF : fireB s.net mk (j : Int) with
        | none =>
          rw [hF] at g2
          simp only [optS] at g2
          rw [exStep_none hF]
          simp only [stW, lt_d hki, intS_plc hx, intS_at hx, strS_plc hoA, strS_at hoA, pv_6_2, g2, spl1, spl6, pv_6_6, EVS]
        | some m' =>
          rw [hF] at g2
          simp only [optS] at g2
          have hmv2 := hi.mv
          have hl2 := hi.len
          have hb2 := hi.by_
          have g3 := p_r_l4Find o.marks m' (by unfold Fits; omega)
          have hla : ∀ v : Mv, o.moves.length + [eMv v].length ≤ 4294967296 ∧ [eMv v].all (okEl 3) = true := fun v => ⟨by simp; omega, rfl⟩
          have hlc : ∀ v : Mv, o.by_.length + [eMv v].length ≤ 4294967296 ∧ [eMv v].all (okEl 3) = true := fun v => ⟨by simp; omega, rfl⟩
          have hlb : o.marks.length + [PV.str m'].length ≤ 4294967296 ∧ [PV.str m'].all (okEl 1) = true := ⟨by simp; omega, rfl⟩
          simp only [eMv] at hla hlc
          simp only [stW, lt_d hki, intS_plc hx, intS_at hx, strS_plc hoA, strS_at hoA, pv_6_2, g2, g3, EVS]
          by_cases h2 : m' ∈ o.marks
          · have h4 : decide (findM m' o.marks < 0) = false := by have := findM_range h2; simp only [decide_eq_false_iff_not]; omega
            rw [exStep_old hF h2]
            simp only [h4, spl3, if_pos (hla ⟨_, _, _⟩), next_w hki hil, EVS]
            simp only [exOld, List.map_append, List.map_cons, List.map_nil, eMv]
          · have h4 : decide (findM m' o.marks < 0) = true := by rw [findM_out h2]; rfl
            by_cases h3 : o.marks.length = 300
            · rw [exStep_full hF h2 h3]
              simp only [h4, h3, spl5, spl6, pv_6_6, EVS]
            · have h5 : decide ((o.marks.length : Int) = 300) = false := by simp only [decide_eq_false_iff_not]; omega
              rw [exStep_new hF h2 h3]
              simp only [h4, h5, if_pos hlb, if_pos (hla ⟨_, _, _⟩), if_pos (hlc ⟨_, _, _⟩), spl3, next_w hki hil, EVS]
              simp only [exNew, List.map_append, List.map_cons, List.map_nil, eMv]
      · simp only [ge_d, next_w c (show e.marks.length ≤ 9223372036854775807 by omega), EVS]
      · rw [fold_ex]
        cases hE : exIn s.net mk k (enL s.net mk) e with
        | bad t s' => rfl
        | full s' => rfl
        | ok s' =>
          have hms := exIn_ms (s0 := e) hmg (enL s.net mk) e 0 s' (fun t ht => ht) ⟨⟨[], by simp⟩, hgd, hlen, by omega, hby⟩ hE
          have hl2 := lt_of_some (hms.at hmk)
          have hm2 := hms.mv
          have := ih ⟨(s', k + 1), hms.good, hms.len, by dsimp only; omega, by dsimp only; omega, hms.by_⟩ (by simp only; omega)
          rw [show 301 - (k + 1) = 300 - k by omega] at this
          exact this
    · obtain rfl : k = e.marks.length := by omega
      rw [exOut_end (by omega)]
      simp only [stW, ge_d, pv_6_6, spl6, EVS]
      rfl
  · rfl
end Go.Proofs.Ytnpbdphfjablbaa

namespace Go.Proofs.Ytnpbdphfjablbaa
open Go.RowKit
set_option linter.unusedVariables false
set_option linter.unusedSimpArgs false
/-! THE WAY BACK. -/
structure Ei (s : ESt) : Prop where
  lim : s.marks.length ≤ 300
  len : s.by_.length = s.marks.length
  top : ∀ v ∈ s.moves, 0 ≤ v.to ∧ v.to < s.marks.length
  up : ∀ k : Nat, 1 ≤ k → k < s.marks.length → ∃ v, s.by_[k]? = some v ∧ s.moves.find? (fun x => decide (x.to = (k : Int))) = some v ∧ 0 ≤ v.from_ ∧ v.from_ < k ∧ 0 ≤ v.by_ ∧ v.by_ ≤ 24
theorem Ei.old {s : ESt} {k : Nat} {t i : Int} (h : Ei s) (hi : 0 ≤ i ∧ i < s.marks.length) : Ei (exOld k t i s) := by
  refine ⟨h.lim, h.len, fun v hv => ?_, fun k' h1 h2 => ?_⟩
  · rcases List.mem_append.1 hv with hv | hv
    · exact h.top v hv
    · rw [List.mem_singleton] at hv; subst hv; exact hi
  · obtain ⟨v, a, b, c⟩ := h.up k' h1 h2
    refine ⟨v, a, ?_, c⟩
    show (s.moves ++ [_]).find? _ = _
    rw [List.find?_append, b]; rfl
theorem Ei.new {s : ESt} {k : Nat} {t : Int} {m : List UInt8} (h : Ei s) (hk : k < s.marks.length) (ht : 0 ≤ t ∧ t ≤ 24) (h3 : ¬ s.marks.length = 300) : Ei (exNew k t m s) := by
  have hl := h.len
  have hlim := h.lim
  refine ⟨by unfold exNew; simp; omega, by unfold exNew; simp [hl], fun v hv => ?_, fun k' h1 h2 => ?_⟩
  · have e : (exNew k t m s).marks.length = s.marks.length + 1 := by unfold exNew; simp
    rw [e]
    rcases List.mem_append.1 hv with hv | hv
    · have := h.top v hv; constructor <;> omega
    · rw [List.mem_singleton] at hv; subst hv; constructor <;> dsimp only <;> omega
  · have e : (exNew k t m s).marks.length = s.marks.length + 1 := by unfold exNew; simp
    rw [e] at h2
    show ∃ v : Mv, (s.by_ ++ [(⟨(k : Int), t, (s.marks.length : Int)⟩ : Mv)])[k']? = some v ∧ (s.moves ++ [(⟨(k : Int), t, (s.marks.length : Int)⟩ : Mv)]).find? (fun x => decide (x.to = (k' : Int))) = some v ∧ 0 ≤ v.from_ ∧ v.from_ < k' ∧ 0 ≤ v.by_ ∧ v.by_ ≤ 24
    by_cases c : k' < s.marks.length
    · obtain ⟨v, a, b, d⟩ := h.up k' h1 c
      refine ⟨v, ?_, ?_, d⟩
      · rw [List.getElem?_append_left (by omega), a]
      · rw [List.find?_append, b]; rfl
    · obtain rfl : k' = s.marks.length := by omega
      refine ⟨⟨k, t, s.marks.length⟩, ?_, ?_, by dsimp only; omega, by dsimp only; omega, ht.1, ht.2⟩
      · rw [List.getElem?_append_right (by omega), hl]; simp
      · have hn : s.moves.find? (fun x => decide (x.to = (s.marks.length : Int))) = none := by
          rw [List.find?_eq_none]
          intro v hv
          have := h.top v hv
          simp only [decide_eq_true_eq]; omega
        rw [List.find?_append, hn]
        simp
theorem exIn_ei {n : Net} {m : List UInt8} {k : Nat} (hm : goodMark n m = true) : ∀ (l : List Int) (s : ESt), (∀ t ∈ l, t ∈ enL n m) → k < s.marks.length → Ei s → match exIn n m k l s with
    | .ok s' => Ei s'
    | .bad t s' => Ei s' ∧ k < s'.marks.length ∧ 0 ≤ t ∧ t ≤ 24
    | .full s' => Ei s'
  | [], s, _, _, h => h
  | t :: r, s, hl, hk, h => by
    have hr : ∀ t ∈ r, t ∈ enL n m := fun t ht => hl t (List.mem_cons_of_mem _ ht)
    obtain ⟨j, x, e, hx, he', hf⟩ := enL_mem (hl t (List.mem_cons_self ..))
    have ht : 0 ≤ t ∧ t ≤ 24 := by
      have := lt_of_some hx
      have hl : n.trans.length ≤ 24 := by unfold goodMark goodNet at hm; simp only [Bool.and_eq_true, decide_eq_true_eq] at hm; omega
      omega
    unfold exIn
    cases hF : fireB n m t with
    | none => exact ⟨h, hk, ht⟩
    | some m' =>
      show match (if m' ∈ s.marks then exIn n m k r (exOld k t (findM m' s.marks) s) else if s.marks.length = 300 then .full s else exIn n m k r (exNew k t m' s)) with
        | .ok s' => Ei s'
        | .bad t s' => Ei s' ∧ k < s'.marks.length ∧ 0 ≤ t ∧ t ≤ 24
        | .full s' => Ei s'
      by_cases h2 : m' ∈ s.marks
      · rw [if_pos h2]
        exact exIn_ei hm r _ hr hk (h.old (findM_range h2))
      · rw [if_neg h2]
        by_cases h3 : s.marks.length = 300
        · rw [if_pos h3]; exact h
        · rw [if_neg h3]
          exact exIn_ei hm r _ hr (by unfold exNew; simp; omega) (h.new hk ht h3)
structure Eo (r : ERes) : Prop where
  ei : Ei r.st
  bad : r.code = 1 → r.k < r.st.marks.length ∧ 0 ≤ r.t ∧ r.t ≤ 24
theorem exOut_eo {n : Net} : ∀ (f k : Nat) (s : ESt), (∀ x ∈ s.marks, goodMark n x = true) → s.marks.length ≤ 300 → s.by_.length ≤ s.marks.length → Ei s → Eo (exOut n f k s)
  | 0, k, s, _, _, _, h => ⟨h, fun h => by cases h⟩
  | f + 1, k, s, hg, hl, hb, h => by
    cases hk : s.marks[k]? with
    | none => unfold exOut; rw [hk]; exact ⟨h, fun h => by cases h⟩
    | some m =>
      rw [exOut_step hk]
      have hm := hg m (List.mem_of_getElem? hk)
      have h1 := exIn_ei hm (enL n m) s (fun t ht => ht) (lt_of_some hk) h
      cases hE : exIn n m k (enL n m) s with
      | bad t s' => rw [hE] at h1; exact ⟨h1.1, fun _ => h1.2⟩
      | full s' => rw [hE] at h1; exact ⟨h1, fun h => by cases h⟩
      | ok s' =>
        rw [hE] at h1
        have hms := exIn_ms (s0 := s) hm (enL n m) s 0 s' (fun t ht => ht) ⟨⟨[], by simp⟩, hg, hl, by omega, hb⟩ hE
        exact exOut_eo f (k + 1) s' hms.good hms.len hms.by_ h1
theorem explore_eo {s : STG} (hg : goodMark s.net s.start = true) : Eo (explore s) := by
  refine exOut_eo 301 0 (exStart s.start) (by simpa [exStart] using hg) (by simp [exStart]) (by simp [exStart]) ⟨by simp [exStart], by simp [exStart], by simp [exStart], fun k h1 h2 => ?_⟩
  simp [exStart] at h2; omega
theorem exMoves (n : Net) : ∀ (f k : Nat) (s : ESt), (∀ x ∈ s.marks, goodMark n x = true) → s.marks.length ≤ 300 → s.by_.length ≤ s.marks.length → k ≤ 300 → s.moves.length ≤ 24 * k → (exOut n f k s).st.moves.length ≤ 100000
  | 0, k, s, _, _, _, _, h => by show s.moves.length ≤ _; omega
  | f + 1, k, s, hg, hl, hb, hk3, h => by
    cases hk : s.marks[k]? with
    | none => unfold exOut; rw [hk]; show s.moves.length ≤ _; omega
    | some m =>
      rw [exOut_step hk]
      have hm := hg m (List.mem_of_getElem? hk)
      have hkl := lt_of_some hk
      have hel := enL_length hm
      have hin : ∀ (l : List Int) (s : ESt), s.moves.length + l.length ≤ 100000 → match exIn n m k l s with
          | .ok s' => True
          | .bad t s' => s'.moves.length ≤ 100000
          | .full s' => s'.moves.length ≤ 100000 := by
        intro l
        induction l with
        | nil => intro s h; trivial
        | cons t r ih =>
          intro s h
          simp only [List.length_cons] at h
          unfold exIn
          cases hF : fireB n m t with
          | none => show s.moves.length ≤ _; omega
          | some m' =>
            show match (if m' ∈ s.marks then exIn n m k r (exOld k t (findM m' s.marks) s) else if s.marks.length = 300 then .full s else exIn n m k r (exNew k t m' s)) with
              | .ok s' => True
              | .bad t s' => s'.moves.length ≤ 100000
              | .full s' => s'.moves.length ≤ 100000
            by_cases h2 : m' ∈ s.marks
            · rw [if_pos h2]; exact ih _ (by unfold exOld; simp; omega)
            · rw [if_neg h2]
              by_cases h3 : s.marks.length = 300
              · rw [if_pos h3]; show s.moves.length ≤ _; omega
              · rw [if_neg h3]; exact ih _ (by unfold exNew; simp; omega)
      have h1 := hin (enL n m) s (by omega)
      cases hE : exIn n m k (enL n m) s with
      | bad t s' => rw [hE] at h1; exact h1
      | full s' => rw [hE] at h1; exact h1
      | ok s' =>
        have hms := exIn_ms (s0 := s) hm (enL n m) s 0 s' (fun t ht => ht) ⟨⟨[], by simp⟩, hg, hl, by omega, hb⟩ hE
        have := hms.mv
        exact exMoves n f (k + 1) s' hms.good hms.len hms.by_ (by omega) (by omega)
theorem explore_moves {s : STG} (hg : goodMark s.net s.start = true) : (explore s).st.moves.length ≤ 100000 :=
  exMoves s.net 301 0 (exStart s.start) (by simpa [exStart] using hg) (by simp [exStart]) (by simp [exStart]) (by omega) (by simp [exStart])
theorem spl2 (a b c d : PV) : splice [a, b] 0 [c, d] = [c, d] := rfl
theorem spl1a (a c : PV) : splice [a] 0 [c] = [c] := rfl
end Go.Proofs.Ytnpbdphfjablbaa

namespace Go.Proofs.Ytnpbdphfjablbaa
open Go.RowKit
set_option linter.unusedVariables false
set_option linter.unusedSimpArgs false
/-! VALUES OF A SIGNAL, the reference's passes. -/
def qN : Option Bool → Int
  | none => 63
  | some false => 48
  | some true => 49
def eQ (x : Option Bool) : PV := .int .u8 (qN x)
def labAt (s : STG) (k : Int) : Lab := s.labels.getD k.toNat ⟨0, false⟩
def vaOf (s : STG) (sig : Int) (m : Mv) : VA := ⟨m.from_.toNat, m.to.toNat, if (labAt s m.by_).sig = sig then some (labAt s m.by_).up else none⟩
theorem qAt {v : Vals} {k : Nat} (h : k < v.length) : (v.map eQ)[k]? = some (eQ (vAt v k)) := by
  rw [List.getElem?_map]
  unfold vAt
  rw [List.getD_eq_getElem?_getD, List.getElem?_eq_getElem h]; rfl
theorem qSet (v : Vals) (k : Nat) (x : Option Bool) : (v.map eQ).set k (eQ x) = (v.set k x).map eQ := set_map eQ v k x
theorem stepV_plain (v : Vals) (f t : Nat) (hf : f < v.length) (ht : t < v.length) : stepV false v ⟨f, t, none⟩ = (if (vAt v f).or (vAt v t) ≠ none ∧ vAt v t ≠ none ∧ vAt v t ≠ (vAt v f).or (vAt v t) then none else some ((v.set f ((vAt v f).or (vAt v t))).set t ((vAt v f).or (vAt v t)))) := by
  have hn : ∀ {v : Vals} {k : Nat}, vAt v k = none → v.set k none = v := fun {v k} h => by
    unfold vAt at h
    by_cases hk : k < v.length
    · rw [List.getD_eq_getElem?_getD, List.getElem?_eq_getElem hk] at h
      simp only [Option.getD_some] at h
      exact same_set (by rw [List.getElem?_eq_getElem hk, h])
    · exact List.set_eq_of_length_le (by omega)
  unfold stepV
  dsimp only
  cases h1 : vAt v f with
  | none =>
    cases h2 : vAt v t with
    | none =>
      simp only [Option.or_none, ne_eq, not_true_eq_false, false_and, if_false]
      rw [hn h1, hn h2]
    | some y =>
      simp only [Option.none_or, ne_eq, not_true_eq_false, and_false, if_false]
      by_cases e : f = t
      · subst e; rw [h1] at h2; cases h2
      · have h3 : (v.set f (some y)).set t (some y) = v.set f (some y) := set_id (by rw [at_set hf, if_neg (fun hc => e hc.symm)]; exact h2)
        rw [h3]
  | some x =>
    cases h2 : vAt v t with
    | none =>
      simp only [Option.some_or, ne_eq, reduceCtorEq, not_false_eq_true, not_true_eq_false, false_and, and_false, if_false]
      rw [set_id h1]
    | some y =>
      simp only [Option.some_or, ne_eq, reduceCtorEq, not_false_eq_true, true_and, Option.some.injEq]
      by_cases e : x = y
      · subst e
        simp only [if_true, not_true_eq_false, if_false]
        rw [set_id h1, set_id h2]
      · rw [if_neg e, if_pos (fun hc => e hc.symm)]
theorem stepV_edge (v : Vals) (f t : Nat) (up : Bool) : stepV false v ⟨f, t, some up⟩ = (if (vAt v f = none ∨ vAt v f = some (!up)) ∧ (vAt v t = none ∨ vAt v t = some up) then some ((v.set f (some (!up))).set t (some up)) else none) := by
  unfold stepV
  simp
def mvStep {R α : Type} (g : α → VA) (z : Option R) (v : Vals) (_ : Nat) (m : α) : Sum Vals (Option R) := match stepV false v (g m) with | none => .inr z | some u => .inl u
def paStep {R : Type} (l : List VA) (z : Option R) (v : Vals) (_ : Nat) (_ : Unit) : Sum Vals (Option R) := match passV false l v with | none => .inr z | some u => .inl u
theorem mvStep_none {R α : Type} {g : α → VA} {z : Option R} {v : Vals} {k : Nat} {m : α} (h : stepV false v (g m) = none) : mvStep g z v k m = .inr z := by unfold mvStep; rw [h]
theorem mvStep_some {R α : Type} {g : α → VA} {z : Option R} {v u : Vals} {k : Nat} {m : α} (h : stepV false v (g m) = some u) : mvStep g z v k m = .inl u := by unfold mvStep; rw [h]
theorem fold_pass {R : Type} {α : Type} (g : α → VA) (z : Option R) (e : Vals → Option R) : ∀ (l : List α) (k : Nat) (v : Vals), foldGo (R := R) (mvStep g z) e k v l = (match passV false (l.map g) v with | none => z | some u => e u)
  | [], k, v => rfl
  | m :: r, k, v => by
    unfold foldGo
    simp only [List.map_cons]
    unfold passV
    cases h : stepV false v (g m) with
    | none => rw [mvStep_none h]; rfl
    | some u => rw [mvStep_some h]; exact fold_pass g z e r (k + 1) u
theorem fold_many {R : Type} (l : List VA) (z : Option R) (e : Vals → Option R) : ∀ (n k : Nat) (v : Vals), foldGo (R := R) (paStep l z) e k v (List.replicate n ()) = (match manyV false l n v with | none => z | some u => e u)
  | 0, k, v => rfl
  | n + 1, k, v => by
    rw [List.replicate_succ]
    unfold foldGo manyV paStep
    cases passV false l v with
    | none => rfl
    | some u => exact fold_many l z e n (k + 1) u
end Go.Proofs.Ytnpbdphfjablbaa

namespace Go.Proofs.Ytnpbdphfjablbaa
open Go.RowKit
set_option linter.unusedVariables false
set_option linter.unusedSimpArgs false
theorem fold_const' {R α β : Type} (f : β → Nat → α → Sum β (Option R)) (z : Option R) (h : ∀ b k x, ∃ b', f b k x = .inl b') : ∀ (q : List α) (k : Nat) (b : β), foldGo f (fun _ => z) k b q = z
  | [], k, b => rfl
  | x :: q, k, b => by
    unfold foldGo
    obtain ⟨b', e⟩ := h b k x
    rw [e]
    exact fold_const' f z h q (k + 1) b'
def qB : Option Bool → UInt8
  | none => 63
  | some false => 48
  | some true => 49
theorem bytesOf_q : ∀ v : Vals, bytesOf (v.map eQ) = some (v.map qB)
  | [] => rfl
  | x :: r => by
    rw [List.map_cons, List.map_cons]
    unfold bytesOf
    rw [bytesOf_q r]
    have hb : byteOf (eQ x) = some (qB x) := by
      cases x with
      | none => rfl
      | some b => cases b <;> rfl
    rw [hb]; rfl
theorem se_u8 (a b : Int) : storeEl 0 1 [.int .u8 a] (.int .u8 a) (.int .u8 b) = some (.int .u8 b) := rfl
def mvsOk (s : STG) (n : Nat) (mv : List Mv) : Prop := ∀ m ∈ mv, (0 ≤ m.from_ ∧ m.from_ < n) ∧ (0 ≤ m.to ∧ m.to < n) ∧ (0 ≤ m.by_ ∧ m.by_ < s.labels.length)
def l5V (s : STG) (n : Nat) (mv : List Mv) (sig : Int) : Option Vals := manyV false (mv.map (vaOf s sig)) (n + 1) (List.replicate n none)
def l5R : Option Vals → PV
  | none => .tup [.str [], pB false]
  | some v => .tup [.str (v.map qB), pB true]
def filK (n k : Nat) : List PV := List.replicate k (eQ none) ++ List.replicate (n - k) (.int .u8 0)
theorem filK_0 (n : Nat) : List.replicate n (PV.int .u8 0) = filK n 0 := by simp [filK]
theorem filK_len (n : Nat) : (filK n 0).length = n := by simp [filK]
theorem filK_n (n : Nat) : filK n n = (List.replicate n none).map eQ := by simp [filK]
theorem stepV_len {own : Bool} {v u : Vals} {a : VA} (h : stepV own v a = some u) : u.length = v.length := by
  unfold stepV at h
  split at h
  · split at h
    · split at h
      · cases h; rfl
      · cases h
    · cases h; simp
    · cases h; simp
    · cases h; rfl
  · split at h
    · cases h; simp
    · cases h
theorem passV_len {own : Bool} : ∀ {l : List VA} {v u : Vals}, passV own l v = some u → u.length = v.length
  | [], v, u, h => by cases h; rfl
  | a :: r, v, u, h => by
    unfold passV at h
    obtain ⟨w, h1, h2⟩ := Option.bind_eq_some_iff.1 h
    exact (passV_len h2).trans (stepV_len h1)
theorem pv_3_3 (a b c : PV) : partV true 0 3 [a, b, c] = some (.agg [a, b, c]) := rfl
theorem pv_2_2' (a b : PV) : partV true 0 2 [a, b] = some (.agg [a, b]) := rfl
theorem spl33 (a b c a' b' c' : PV) : splice [a, b, c] 0 [a', b', c'] = [a', b', c'] := rfl
theorem spl22 (a b a' b' : PV) : splice [a, b] 0 [a', b'] = [a', b'] := rfl
theorem pv_5_3 (a b c d e : PV) : partV false 3 1 [a, b, c, d, e] = some d := rfl
theorem p_r_l5Values (s : STG) (ms : List (List UInt8)) (mv : List Mv) (sig : Int) (hn : ms.length ≤ 1000) (hm : mv.length ≤ 1000000) (hl : s.labels.length ≤ 1000) (ho : mvsOk s ms.length mv) :
    s_r_l5Values [eStg s, .agg [.lst (ms.map PV.str), .lst (mv.map eMv)], pI sig] = some (l5R (l5V s ms.length mv sig)) := by
  show (fun x0 x1 x2 => s_r_l5Values [x0, x1, x2]) _ _ _ = _
  rw [sh_r_l5Values]
  obtain ⟨n, hne⟩ : ∃ n, ms.length = n := ⟨_, rfl⟩
  have hz : zeroPV (TI.mk 1 1 (TD.int .u8) [ZC.int .u8] [] false) = .int .u8 0 := rfl
  simp only [eStg, List.length_map, hne, mk_v _ _ (show n ≤ 4294967296 by omega), List.length_replicate, hz, filK_0, filK_len, EVS]
  refine (congrArg (fun m : Option PV => m.bind fun r => if r.sc = true then some r else none) ((foldLoop (R := PV) (List.replicate n ()) (fun (_ : Unit) k => [.lst (filK n k), pI (Int.ofNat k)]) (fun _ _ => True) (fun _ _ _ => .inl ()) (fun _ => some (l5R (l5V s n mv sig))) _ (by rw [List.length_replicate]; omega) (fun b k x b' _ _ _ => trivial) (fun again b k x _ hx => ?_) (fun again b _ => ?_) (b := ()) trivial).trans (fold_const' _ _ (fun b k x => ⟨_, rfl⟩) _ _ _))).trans ?_
  · have hk := lt_of_some hx
    rw [List.length_replicate] at hk
    have hpl : plcV (filK n k) (.int .i64 (k : Int)) = some (.int .i64 (k : Int)) := plc_at (by unfold filK; simp; omega)
    have hat : (filK n k)[k]? = some (.int .u8 0) := by
      unfold filK
      rw [List.getElem?_append_right (by simp), List.length_replicate, Nat.sub_self, List.getElem?_replicate, if_pos (by omega)]
    have hst : (filK n k).set k (.int .u8 63) = filK n (k + 1) := by
      unfold filK
      rw [List.set_append_right _ _ (by simp), List.length_replicate, Nat.sub_self]
      obtain ⟨j, hj⟩ : ∃ j, n - k = j + 1 := ⟨n - k - 1, by omega⟩
      rw [hj, show n - (k + 1) = j by omega, List.replicate_succ, List.set_cons_zero, List.replicate_succ', List.append_assoc]
      rfl
    simp only [lt_d hk, hpl, hat, se_u8, hst, next_w hk (show n ≤ 9223372036854775807 by omega), EVS]
  · simp only [List.length_replicate, filK_n, ge_d, EVS]
    refine (foldLoop (R := PV) (List.replicate (n + 1) ()) (fun (v : Vals) k => [.lst (v.map eQ), pI (Int.ofNat k)]) (fun _ v => v.length = n) (paStep (mv.map (vaOf s sig)) (some (l5R none))) (fun v => some (l5R (some v))) _ (by rw [List.length_replicate]; omega) (fun v k x v' hi hx he => ?_) (fun again v k x hi hx => ?_) (fun again v hi => ?_) (b := List.replicate n none) (by simp)).trans ?_
    · unfold paStep at he
      cases hp : passV false (mv.map (vaOf s sig)) v with
      | none => rw [hp] at he; cases he
      | some u => rw [hp] at he; cases he; exact (passV_len hp).trans hi
    · have hk := lt_of_some hx
      rw [List.length_replicate] at hk
      have hd : decide ((k : Int) ≤ (n : Int)) = true := by simp only [decide_eq_true_eq]; omega
      simp only [hd, EVS]
      refine (foldLoop (R := PV) mv (fun (v : Vals) j => [.lst (v.map eQ), pI (Int.ofNat j)]) (fun _ v => v.length = n) (mvStep (vaOf s sig) (some (l5R none))) (fun u => again [.lst (u.map eQ), pI (Int.ofNat (k + 1))]) _ (by omega) (fun v j m v' hi hx he => ?_) (fun again v j m hi hx => ?_) (fun again2 v hi => ?_) (b := v) hi).trans ?_
      · cases h : stepV false v (vaOf s sig m) with
        | none => rw [mvStep_none h] at he; cases he
        | some u => rw [mvStep_some h] at he; cases he; exact (stepV_len h).trans hi
      · have hj := lt_of_some hx
        have him : idxV (.lst (mv.map eMv)) (.int .i64 (j : Int)) = some (eMv m) := idx_map hx
        obtain ⟨⟨f1, f2⟩, ⟨t1, t2⟩, b1, b2⟩ := ho m (List.mem_of_getElem? hx)
        obtain ⟨f, hf⟩ : ∃ f : Nat, m.from_ = f := ⟨m.from_.toNat, by omega⟩
        obtain ⟨t, ht⟩ : ∃ t : Nat, m.to = t := ⟨m.to.toNat, by omega⟩
        obtain ⟨b, hb⟩ : ∃ b : Nat, m.by_ = b := ⟨m.by_.toNat, by omega⟩
        have hbl : b < s.labels.length := by omega
        obtain ⟨lb, hlb⟩ : ∃ lb, s.labels[b]? = some lb := ⟨s.labels[b], List.getElem?_eq_getElem hbl⟩
        have hil : idxV (.lst (s.labels.map eLb)) (.int .i64 (b : Int)) = some (eLb lb) := idx_map hlb
        have hva : vaOf s sig m = ⟨f, t, if lb.sig = sig then some lb.up else none⟩ := by
          unfold vaOf labAt
          rw [hf, ht, hb, Int.toNat_natCast, Int.toNat_natCast, Int.toNat_natCast, List.getD_eq_getElem?_getD, hlb]; rfl
        have hpf : plcV (v.map eQ) (.int .i64 (f : Int)) = some (.int .i64 (f : Int)) := plc_at (by rw [List.length_map]; omega)
        have hpt : plcV (v.map eQ) (.int .i64 (t : Int)) = some (.int .i64 (t : Int)) := plc_at (by rw [List.length_map]; omega)
        have haf : (v.map eQ)[f]? = some (.int .u8 (qN (vAt v f))) := qAt (by omega)
        have hat : (v.map eQ)[t]? = some (.int .u8 (qN (vAt v t))) := qAt (by omega)
        have hpt2 : ∀ x, plcV ((v.set f x).map eQ) (.int .i64 (t : Int)) = some (.int .i64 (t : Int)) := fun x => plc_at (by simp; omega)
        have hat2 : ∀ x, ((v.set f x).map eQ)[t]? = some (.int .u8 (qN (vAt (v.set f x) t))) := fun x => qAt (by simp; omega)
        have s0 : (v.map eQ).set f (.int .u8 63) = (v.set f none).map eQ := qSet v f none
        have s1 : (v.map eQ).set f (.int .u8 48) = (v.set f (some false)).map eQ := qSet v f (some false)
        have s2 : (v.map eQ).set f (.int .u8 49) = (v.set f (some true)).map eQ := qSet v f (some true)
        have r0 : ∀ x, ((v.set f x).map eQ).set t (.int .u8 63) = ((v.set f x).set t none).map eQ := fun x => qSet _ t none
        have r1 : ∀ x, ((v.set f x).map eQ).set t (.int .u8 48) = ((v.set f x).set t (some false)).map eQ := fun x => qSet _ t (some false)
        have r2 : ∀ x, ((v.set f x).map eQ).set t (.int .u8 49) = ((v.set f x).set t (some true)).map eQ := fun x => qSet _ t (some true)
        have hnw := next_w hj (show mv.length ≤ 9223372036854775807 by omega)
        simp only [lt_d hj, him, eMv, hf, ht, hb, hil, eLb, pv_3_3, pv_2_2', pv_5_3, spl33, spl22, List.drop_zero, EVS]
        by_cases c : lb.sig = sig
        · have hsp := stepV_edge v f t lb.up
          rw [if_pos c] at hva
          rw [← hva] at hsp
          have hdc : decide (lb.sig = sig) = true := by simp [c]
          have g0 : s_r_l5Bit [.bool false] = some (.str [48]) := p_r_l5Bit false
          have g1 : s_r_l5Bit [.bool true] = some (.str [49]) := p_r_l5Bit true
          have y0 : byteV (.str [48]) (.int .i64 0) = some (.int .u8 48) := rfl
          have y1 : byteV (.str [49]) (.int .i64 0) = some (.int .u8 49) := rfl
          cases cu : lb.up <;> rcases cf : vAt v f with _ | ⟨_ | _⟩ <;> rcases ct : vAt v t with _ | ⟨_ | _⟩ <;>
            (rw [cf] at haf hsp; rw [ct] at hat hsp; rw [cu] at hsp; simp at hsp; (first | rw [mvStep_some hsp] | rw [mvStep_none hsp]); simp only [hdc, g0, g1, y0, y1, hpf, haf, hpt, hat, hpt2, hat2, se_u8, s0, s1, s2, r0, r1, r2, hnw, qN, Int.reduceEq, decide_true, decide_false, EVS]; try rfl)
        · have hsp := stepV_plain v f t (by omega) (by omega)
          rw [if_neg c] at hva
          rw [← hva] at hsp
          have hdc : decide (lb.sig = sig) = false := by simp [c]
          rcases cf : vAt v f with _ | ⟨_ | _⟩ <;> rcases ct : vAt v t with _ | ⟨_ | _⟩ <;>
            (rw [cf] at haf hsp; rw [ct] at hat hsp; simp at hsp; (first | rw [mvStep_some hsp] | rw [mvStep_none hsp]); simp only [hdc, hpf, haf, hpt, hat, hpt2, hat2, se_u8, s0, s1, s2, r0, r1, r2, hnw, qN, Int.reduceEq, decide_true, decide_false, EVS]; try rfl)
      · simp only [ge_d, next_w (show k < n + 1 by omega) (show n + 1 ≤ 9223372036854775807 by omega), EVS]
      · rw [fold_pass]
        unfold paStep
        cases passV false (mv.map (vaOf s sig)) v <;> rfl
    · have hd : decide (((n + 1 : Nat) : Int) ≤ (n : Int)) = false := by simp only [decide_eq_false_iff_not]; omega
      simp only [List.length_replicate, hd, bytesOf_q, EVS]
      rfl
    · rw [fold_many]
      unfold l5V
      cases manyV false (mv.map (vaOf s sig)) (n + 1) (List.replicate n none) <;> rfl
  · cases l5V s n mv sig <;> rfl
end Go.Proofs.Ytnpbdphfjablbaa

namespace Go.Proofs.Ytnpbdphfjablbaa
open Go.RowKit
set_option linter.unusedVariables false
set_option linter.unusedSimpArgs false
/-! EXPLORING: what is found, and its bounds. -/
theorem stgP_start {s : STG} (c : stgP s = true) : goodMark s.net s.start = true := by unfold stgP at c; simp only [Bool.and_eq_true] at c; exact c.1.1
structure Mo (s : ESt) : Prop where
  lim : s.marks.length ≤ 300
  mv : ∀ v ∈ s.moves, (0 ≤ v.from_ ∧ v.from_ ≤ 300) ∧ (0 ≤ v.by_ ∧ v.by_ ≤ 24) ∧ (0 ≤ v.to ∧ v.to ≤ 300)
theorem exIn_mo {n : Net} {m : List UInt8} {k : Nat} (hm : goodMark n m = true) (hk : k ≤ 300) : ∀ (l : List Int) (s s' : ESt), (∀ t ∈ l, t ∈ enL n m) → Mo s → exIn n m k l s = .ok s' → Mo s'
  | [], s, s', _, h, he => by cases he; exact h
  | t :: r, s, s', hl, h, he => by
    have hr : ∀ t ∈ r, t ∈ enL n m := fun t ht => hl t (List.mem_cons_of_mem _ ht)
    obtain ⟨j, x, e, hx, he', hf⟩ := enL_mem (hl t (List.mem_cons_self ..))
    have hj := lt_of_some hx
    have hle : n.trans.length ≤ 24 := by unfold goodMark goodNet at hm; simp only [Bool.and_eq_true, decide_eq_true_eq] at hm; omega
    have hlim := h.lim
    unfold exIn at he
    cases hF : fireB n m t with
    | none => rw [hF] at he; cases he
    | some m' =>
      rw [hF] at he
      have he2 : (if m' ∈ s.marks then exIn n m k r (exOld k t (findM m' s.marks) s) else if s.marks.length = 300 then .full s else exIn n m k r (exNew k t m' s)) = .ok s' := he
      by_cases h2 : m' ∈ s.marks
      · rw [if_pos h2] at he2
        refine exIn_mo hm hk r (exOld k t (findM m' s.marks) s) s' hr ⟨hlim, fun v hv => ?_⟩ he2
        rcases List.mem_append.1 hv with hv | hv
        · exact h.mv v hv
        · rw [List.mem_singleton] at hv
          subst hv
          have h3 := findM_idx h2
          have h4 := List.idxOf_lt_length_iff.2 h2
          exact ⟨⟨by show (0 : Int) ≤ (k : Int); omega, by show (k : Int) ≤ 300; omega⟩, ⟨by show 0 ≤ t; omega, by show t ≤ 24; omega⟩, by show 0 ≤ findM m' s.marks; omega, by show findM m' s.marks ≤ 300; omega⟩
      · rw [if_neg h2] at he2
        by_cases h3 : s.marks.length = 300
        · rw [if_pos h3] at he2; cases he2
        · rw [if_neg h3] at he2
          refine exIn_mo hm hk r (exNew k t m' s) s' hr ⟨by unfold exNew; simp; omega, fun v hv => ?_⟩ he2
          rcases List.mem_append.1 hv with hv | hv
          · exact h.mv v hv
          · rw [List.mem_singleton] at hv
            subst hv
            exact ⟨⟨by show (0 : Int) ≤ (k : Int); omega, by show (k : Int) ≤ 300; omega⟩, ⟨by show 0 ≤ t; omega, by show t ≤ 24; omega⟩, by show (0 : Int) ≤ (s.marks.length : Int); omega, by show (s.marks.length : Int) ≤ 300; omega⟩
theorem exOut_mo {n : Net} : ∀ (f k : Nat) (s : ESt), (∀ x ∈ s.marks, goodMark n x = true) → s.by_.length ≤ s.marks.length → Mo s → (exOut n f k s).code = 0 → Mo (exOut n f k s).st ∧ ∀ x ∈ (exOut n f k s).st.marks, goodMark n x = true
  | 0, k, s, hg, _, h, _ => ⟨h, hg⟩
  | f + 1, k, s, hg, hb, h, hc => by
    cases hk : s.marks[k]? with
    | none => unfold exOut; rw [hk]; exact ⟨h, hg⟩
    | some m =>
      rw [exOut_step hk] at hc ⊢
      have hm := hg m (List.mem_of_getElem? hk)
      have hkl := lt_of_some hk
      have hlim := h.lim
      cases hE : exIn n m k (enL n m) s with
      | bad t s' => rw [hE] at hc; cases hc
      | full s' => rw [hE] at hc; cases hc
      | ok s' =>
        rw [hE] at hc
        have hms := exIn_ms (s0 := s) hm (enL n m) s 0 s' (fun t ht => ht) ⟨⟨[], by simp⟩, hg, hlim, by omega, hb⟩ hE
        exact exOut_mo f (k + 1) s' hms.good hms.by_ (exIn_mo hm (by omega) (enL n m) s s' (fun t ht => ht) h hE) hc
theorem explore_mo {s : STG} (hg : goodMark s.net s.start = true) (hc : (explore s).code = 0) : Mo (explore s).st ∧ ∀ x ∈ (explore s).st.marks, goodMark s.net x = true :=
  exOut_mo 301 0 (exStart s.start) (by simpa [exStart] using hg) (by simp [exStart]) ⟨by simp [exStart], by simp [exStart]⟩ hc
theorem exOut_code (n : Net) : ∀ (f k : Nat) (s : ESt), (exOut n f k s).code ≤ 2
  | 0, k, s => Nat.zero_le _
  | f + 1, k, s => by
    unfold exOut
    cases s.marks[k]? with
    | none => exact Nat.zero_le _
    | some m =>
      dsimp only
      cases exIn n m k (enL n m) s with
      | ok s' => exact exOut_code n f (k + 1) s'
      | bad t s' => exact Nat.le_succ _
      | full s' => exact Nat.le_refl _
theorem parts_tup (l : List PV) : (PV.tup l).parts = l := rfl
theorem pv_2_2 (a b : PV) : partV true 0 2 [a, b] = some (.agg [a, b]) := rfl
def exP (s : STG) : RG × Bool := if stgP s = true ∧ (explore s).code = 0 then (⟨(explore s).st.marks, (explore s).st.moves⟩, true) else (⟨[], []⟩, false)
theorem exP_len (s : STG) : (exP s).1.marks.length ≤ 300 ∧ (exP s).1.moves.length ≤ 100000 := by
  unfold exP
  split
  · rename_i c
    exact ⟨(explore_mo (stgP_start c.1) c.2).1.lim, explore_moves (stgP_start c.1)⟩
  · exact ⟨Nat.zero_le _, Nat.zero_le _⟩
theorem at_i_Explore (s : STG) (hs : StgFit s) : s_i_Explore [eStg s] = some (.tup [.agg [.lst ((exP s).1.marks.map PV.str), .lst ((exP s).1.moves.map eMv)], pB (exP s).2]) := by
  have g1 := p_i_IsValidSTG s hs
  simp only [eStg] at g1
  show (fun x0 => s_i_Explore [x0]) _ = _
  rw [sh_i_Explore]
  unfold exP
  cases c1 : stgP s
  · rw [c1] at g1
    simp only [eStg, pv_t5, g1, EVS]
    rfl
  · rw [c1] at g1
    have g2 := p_i_explored s hs (stgP_start c1)
    unfold exV rgV at g2
    simp only [eStg] at g2
    by_cases c2 : (explore s).code = 0
    · rw [c2] at g2
      simp only [eStg, pv_t5, g1, g2, c2, parts_tup, grp2, spl2, pv_2_2, show ((0 : Nat) == 0) = true from rfl, and_self, if_true, List.getElem?_cons_zero, List.getElem?_cons_succ, EVS]
      try rfl
    · have hb : ((explore s).code == 0) = false := by simpa using c2
      rw [hb] at g2
      simp only [eStg, pv_t5, g1, g2, c2, parts_tup, grp2, spl2, pv_2_2, and_false, if_false, List.getElem?_cons_zero, List.getElem?_cons_succ, EVS]
      try rfl
theorem at_r_Explore (s : STG) (hs : StgFit s) : s_r_Explore [eStg s] = some (.tup [.agg [.lst ((exP s).1.marks.map PV.str), .lst ((exP s).1.moves.map eMv)], pB (exP s).2]) := by
  have g1 := p_r_l2Good s hs
  simp only [eStg] at g1
  show (fun x0 => s_r_Explore [x0]) _ = _
  rw [sh_r_Explore]
  unfold exP
  cases c1 : stgP s
  · rw [c1] at g1
    simp only [eStg, pv_t5, g1, EVS]
    rfl
  · rw [c1] at g1
    have g2 := p_r_l4Reach s hs (stgP_start c1)
    unfold exW stW at g2
    simp only [eStg] at g2
    have hle2 : (explore s).code ≤ 2 := exOut_code s.net _ _ _
    obtain ⟨cd, hcd⟩ : ∃ cd, (explore s).code = cd := ⟨_, rfl⟩
    rw [hcd] at g2 hle2
    have h3 : cd = 0 ∨ cd = 1 ∨ cd = 2 := by omega
    rcases h3 with rfl | rfl | rfl
    · simp only [eStg, pv_t5, g1, g2, hcd, pv_6_2, show ((0 : Nat) == 2) = false from rfl, show ¬ (0 : Nat) = 1 by omega, and_self, if_true, if_false, show decide ((0 : Int) ≤ -1) = false from rfl, EVS]
      try rfl
    · obtain ⟨hk, ht1, ht2⟩ := (explore_eo (stgP_start c1)).bad hcd
      have hd : decide ((0 : Int) ≤ (explore s).t) = true := by simpa using ht1
      simp only [eStg, pv_t5, g1, g2, hcd, hd, show ((1 : Nat) == 2) = false from rfl, show ¬ (1 : Nat) = 0 by omega, and_false, if_true, if_false, EVS]
      try rfl
    · simp only [eStg, pv_t5, g1, g2, hcd, show ((2 : Nat) == 2) = true from rfl, show ¬ (2 : Nat) = 0 by omega, show ¬ (2 : Nat) = 1 by omega, and_false, if_true, if_false, show decide ((0 : Int) ≤ -1) = false from rfl, EVS]
      try rfl
end Go.Proofs.Ytnpbdphfjablbaa

namespace Go.Proofs.Ytnpbdphfjablbaa
open Go.RowKit
set_option linter.unusedVariables false
set_option linter.unusedSimpArgs false
/-! SIGNALS WITHOUT VALUES: the reference. -/
def Mv2 (n : Net) (s : ESt) : Prop := ∀ v ∈ s.moves, (0 ≤ v.from_ ∧ v.from_ < s.marks.length) ∧ (0 ≤ v.to ∧ v.to < s.marks.length) ∧ (0 ≤ v.by_ ∧ v.by_ < n.trans.length)
theorem exIn_mv2 {n : Net} {m : List UInt8} {k : Nat} : ∀ (l : List Int) (s s' : ESt), (∀ t ∈ l, t ∈ enL n m) → k < s.marks.length → Mv2 n s → exIn n m k l s = .ok s' → Mv2 n s' ∧ s.marks.length ≤ s'.marks.length
  | [], s, s', _, _, h, he => by cases he; exact ⟨h, Nat.le_refl _⟩
  | t :: r, s, s', hl, hk, h, he => by
    have hr : ∀ t ∈ r, t ∈ enL n m := fun t ht => hl t (List.mem_cons_of_mem _ ht)
    obtain ⟨j, x, e, hx, he', hf⟩ := enL_mem (hl t (List.mem_cons_self ..))
    have hj := lt_of_some hx
    unfold exIn at he
    cases hF : fireB n m t with
    | none => rw [hF] at he; cases he
    | some m' =>
      rw [hF] at he
      have he2 : (if m' ∈ s.marks then exIn n m k r (exOld k t (findM m' s.marks) s) else if s.marks.length = 300 then .full s else exIn n m k r (exNew k t m' s)) = .ok s' := he
      by_cases h2 : m' ∈ s.marks
      · rw [if_pos h2] at he2
        refine exIn_mv2 r (exOld k t (findM m' s.marks) s) s' hr hk (fun v hv => ?_) he2
        rcases List.mem_append.1 hv with hv | hv
        · exact h v hv
        · rw [List.mem_singleton] at hv
          subst hv
          have h3 := findM_idx h2
          have h4 := List.idxOf_lt_length_iff.2 h2
          exact ⟨⟨by show (0 : Int) ≤ (k : Int); omega, by show (k : Int) < (s.marks.length : Int); omega⟩, ⟨by show 0 ≤ findM m' s.marks; omega, by show findM m' s.marks < (s.marks.length : Int); omega⟩, by show 0 ≤ t; omega, by show t < (n.trans.length : Int); omega⟩
      · rw [if_neg h2] at he2
        by_cases h3 : s.marks.length = 300
        · rw [if_pos h3] at he2; cases he2
        · rw [if_neg h3] at he2
          have hlen : (exNew k t m' s).marks.length = s.marks.length + 1 := by unfold exNew; simp
          have hnew : Mv2 n (exNew k t m' s) := fun v hv => by
            rcases List.mem_append.1 hv with hv | hv
            · obtain ⟨a, b, c⟩ := h v hv
              exact ⟨⟨a.1, by omega⟩, ⟨b.1, by omega⟩, c⟩
            · rw [List.mem_singleton] at hv
              subst hv
              exact ⟨⟨by show (0 : Int) ≤ (k : Int); omega, by show (k : Int) < ((exNew k t m' s).marks.length : Int); omega⟩, ⟨by show (0 : Int) ≤ (s.marks.length : Int); omega, by show (s.marks.length : Int) < ((exNew k t m' s).marks.length : Int); omega⟩, by show 0 ≤ t; omega, by show t < (n.trans.length : Int); omega⟩
          obtain ⟨g1, g2⟩ := exIn_mv2 r (exNew k t m' s) s' hr (by omega) hnew he2
          exact ⟨g1, by omega⟩
theorem exOut_mv2 {n : Net} : ∀ (f k : Nat) (s : ESt), Mv2 n s → (exOut n f k s).code = 0 → Mv2 n (exOut n f k s).st
  | 0, k, s, h, _ => h
  | f + 1, k, s, h, hc => by
    cases hk : s.marks[k]? with
    | none => unfold exOut; rw [hk]; exact h
    | some m =>
      rw [exOut_step hk] at hc ⊢
      have hkl := lt_of_some hk
      cases hE : exIn n m k (enL n m) s with
      | bad t s' => rw [hE] at hc; cases hc
      | full s' => rw [hE] at hc; cases hc
      | ok s' =>
        rw [hE] at hc
        exact exOut_mv2 f (k + 1) s' (exIn_mv2 (enL n m) s s' (fun t ht => ht) hkl h hE).1 hc
theorem exP_mvs (s : STG) (h : (exP s).2 = true) : mvsOk s (exP s).1.marks.length (exP s).1.moves ∧ s.labels.length ≤ 24 ∧ stgP s = true := by
  unfold exP at h ⊢
  split
  case isFalse c => rw [if_neg c] at h; cases h
  rename_i c
  have h1 : Mv2 s.net (explore s).st := exOut_mv2 301 0 (exStart s.start) (fun v hv => by simp [exStart] at hv) c.2
  have h2 : s.labels.length = s.net.trans.length := by have := c.1; unfold stgP at this; simp only [Bool.and_eq_true, decide_eq_true_eq] at this; exact this.1.2.2
  have hg := stgP_start c.1
  have hle : s.net.trans.length ≤ 24 := by unfold goodMark goodNet at hg; simp only [Bool.and_eq_true, decide_eq_true_eq] at hg; omega
  exact ⟨fun v hv => by obtain ⟨a, b, d⟩ := h1 v hv; exact ⟨a, b, d.1, by omega⟩, by omega, c.1⟩
def clL (s : STG) (n : Nat) (mv : List Mv) : Nat → List Sig → List Int
  | _, [] => []
  | k, _ :: r => (if (l5V s n mv k).isNone = true then [(k : Int)] else []) ++ clL s n mv (k + 1) r
def clStep (s : STG) (n : Nat) (mv : List Mv) (acc : List Int) (k : Nat) (_ : Sig) : Sum (List Int) (Option PV) := .inl (acc ++ if (l5V s n mv k).isNone = true then [(k : Int)] else [])
theorem fold_cl (s : STG) (n : Nat) (mv : List Mv) (e : List Int → Option PV) : ∀ (l : List Sig) (k : Nat) (acc : List Int), foldGo (R := PV) (clStep s n mv) e k acc l = e (acc ++ clL s n mv k l)
  | [], k, acc => by simp [foldGo, clL]
  | x :: r, k, acc => by
    unfold foldGo clL clStep
    dsimp only
    refine (fold_cl s n mv e r (k + 1) _).trans ?_
    rw [List.append_assoc]
theorem p_r_l5Clash (s : STG) (ms : List (List UInt8)) (mv : List Mv) (hn : ms.length ≤ 1000) (hm : mv.length ≤ 1000000) (hl : s.labels.length ≤ 1000) (ho : mvsOk s ms.length mv) (hs : s.signals.length ≤ 1000) :
    s_r_l5Clash [eStg s, .agg [.lst (ms.map PV.str), .lst (mv.map eMv)]] = some (.lst ((clL s ms.length mv 0 s.signals).map pI)) := by
  show (fun x0 x1 => s_r_l5Clash [x0, x1]) _ _ = _
  rw [sh_r_l5Clash]
  simp only [eStg, List.length_map, pv_t5, pv_2_2, EVS]
  refine (foldLoop (R := PV) s.signals (fun (acc : List Int) k => [.lst (acc.map pI), pI (Int.ofNat k)]) (fun k acc => acc.length ≤ k) (clStep s ms.length mv) (fun acc => some (.lst (acc.map pI))) _ (by omega) (fun acc k x acc' hi hx he => ?_) (fun again acc k x hi hx => ?_) (fun again acc hi => ?_) (b := []) (Nat.zero_le _)).trans ?_
  · unfold clStep at he; cases he
    split <;> simp <;> omega
  · have hk := lt_of_some hx
    have hi' : acc.length ≤ k := hi
    have g := p_r_l5Values s ms mv k hn hm hl ho
    simp only [eStg] at g
    have hla : acc.length + [pI (k : Int)].length ≤ 4294967296 ∧ [pI (k : Int)].all (okEl 1) = true := ⟨by simp; omega, rfl⟩
    have hnw := next_w hk (show s.signals.length ≤ 9223372036854775807 by omega)
    simp only [lt_d hk, g, EVS]
    unfold clStep
    cases hv : l5V s ms.length mv k with
    | none => simp only [l5R, Option.isNone_none, if_true, List.length_map, if_pos hla, hnw, List.map_append, List.map_cons, List.map_nil, EVS]
    | some u => simp only [l5R, Option.isNone_some, Bool.false_eq_true, if_false, List.append_nil, hnw, EVS]
  · simp only [ge_d, EVS]
  · rw [fold_cl]; rfl
def isC (s : STG) : List Int := clL s (exP s).1.marks.length (exP s).1.moves 0 s.signals
def isP (s : STG) : List Int × Bool := if (exP s).2 = true ∧ isC s ≠ [] then (isC s, true) else ([], false)
theorem sigs_le {s : STG} (h : stgP s = true) : s.signals.length ≤ 1000 := by
  unfold stgP at h
  simp only [Bool.and_eq_true, decide_eq_true_eq] at h
  have := h.1.2.1
  unfold sigsP at this
  simp only [Bool.and_eq_true, decide_eq_true_eq] at this
  have h2 := this.2
  unfold inR at h2
  rw [List.length_map] at h2
  simp only [Bool.and_eq_true, decide_eq_true_eq] at h2
  omega
theorem at_r_InconsistentSignals (s : STG) (hs : StgFit s) : s_r_InconsistentSignals [eStg s] = some (.tup [.lst ((isP s).1.map pI), pB (isP s).2]) := by
  have g1 := at_r_Explore s hs
  simp only [eStg] at g1
  have hln := exP_len s
  show (fun x0 => s_r_InconsistentSignals [x0]) _ = _
  rw [sh_r_InconsistentSignals]
  unfold isP
  cases c : (exP s).2
  · rw [c] at g1
    simp only [eStg, pv_t5, g1, spl22, EVS]
    simp
  · obtain ⟨h1, h2, h3⟩ := exP_mvs s c
    have g2 := p_r_l5Clash s (exP s).1.marks (exP s).1.moves (by omega) (by omega) (by omega) h1 (sigs_le h3)
    simp only [eStg] at g2
    rw [c] at g1
    by_cases c2 : isC s = []
    · have hc : clL s (exP s).1.marks.length (exP s).1.moves 0 s.signals = [] := c2
      rw [hc] at g2
      simp only [eStg, pv_t5, pv_2_2, spl22, g1, g2, c2, List.map_nil, List.length_nil, EVS]
      simp
    · have hc : decide (((isC s).length : Int) = 0) = false := by
        simp only [decide_eq_false_iff_not]
        intro h0
        exact c2 (List.length_eq_zero_iff.1 (by omega))
      have e : clL s (exP s).1.marks.length (exP s).1.moves 0 s.signals = isC s := rfl
      rw [e] at g2
      simp only [eStg, pv_t5, pv_2_2, spl22, g1, g2, hc, c2, List.length_map, EVS]
      simp [c2]
end Go.Proofs.Ytnpbdphfjablbaa

namespace Go.Proofs.Ytnpbdphfjablbaa
open Go.RowKit
set_option linter.unusedVariables false
set_option linter.unusedSimpArgs false
/-! VALUES OF A SIGNAL, the program's passes: till nothing becomes known. -/
theorem iter_fuel {l : List VA} : ∀ (f g : Nat) (v : Vals), VOk v.length l → VNo l → cntV v ≤ f → cntV v ≤ g → iterV l (f + 1) v = iterV l (g + 1) v
  | f, g, v, ho, hn, hf, hg => by
    unfold iterV
    cases h : passV true l v with
    | none => rfl
    | some u =>
      obtain ⟨e3, e4⟩ := passV_cnt ho hn h
      show (if moreV true l v = true then iterV l f u else some u) = (if moreV true l v = true then iterV l g u else some u)
      rw [moreV_eq ho hn h]
      rcases e4 with rfl | e4
      · rw [if_neg (by simp), if_neg (by simp)]
      · rw [if_pos (by simpa using e4), if_pos (by simpa using e4)]
        cases f with
        | zero => omega
        | succ f =>
          cases g with
          | zero => omega
          | succ g => exact iter_fuel f g u (by rw [e3]; exact ho) hn (by omega) (by omega)
def outV (l : List VA) (v : Vals) : Option Vals := iterV l (v.length + 1) v
theorem vno_of {l : List VA} {v u : Vals} (h : passV true l v = some u) : VNo l := fun a ha => by
  by_cases h1 : a.e = none
  · exact .inl h1
  · right
    intro h2
    rw [passV_bad ha h1 h2] at h
    cases h
theorem cnt_le (v : Vals) : cntV v ≤ v.length := by unfold cntV; exact List.countP_le_length
theorem outV_none {l : List VA} {v : Vals} (h : passV true l v = none) : outV l v = none := by unfold outV iterV; rw [h]; rfl
theorem outV_some {l : List VA} {v u : Vals} (ho : VOk v.length l) (h : passV true l v = some u) : outV l v = if moreV true l v = true then outV l u else some u := by
  have hn := vno_of h
  obtain ⟨e3, e4⟩ := passV_cnt ho hn h
  have e : outV l v = if moreV true l v = true then iterV l v.length u else some u := by
    have h0 : iterV l (v.length + 1) v = (passV true l v).bind fun u => if moreV true l v = true then iterV l v.length u else some u := rfl
    unfold outV
    rw [h0, h]
    rfl
  rw [e]
  by_cases hm : moreV true l v = true
  · rw [if_pos hm, if_pos hm]
    rw [moreV_eq ho hn h] at hm
    have h5 := of_decide_eq_true hm
    have h6 := cnt_le v
    obtain ⟨f, hf⟩ : ∃ f, v.length = f + 1 := ⟨v.length - 1, by omega⟩
    unfold outV
    rw [hf, e3, hf]
    exact iter_fuel f (f + 1) u (by rw [e3]; exact ho) hn (by omega) (by omega)
  · rw [if_neg hm, if_neg hm]
theorem whileV {R : Type} (n : Nat) (l : List VA) (z : Option R) (E : Vals → Option R) (enc : Vals → Bool → List PV) (f : (List PV → Option R) → List PV → Option R) (ho : VOk n l) (hn : n ≤ 1000000)
    (h1 : ∀ again v, v.length = n → f again (enc v true) = match passV true l v with | none => z | some u => again (enc u (moreV true l v)))
    (h2 : ∀ again v, v.length = n → f again (enc v false) = E v) {v : Vals} (hv : v.length = n) : loopR f 18446744073709551616 (enc v true) = match outV l v with | none => z | some u => E u := by
  have key := loopR_go (R := R) (fun q : {q : Vals × Bool // q.1.length = n} => enc q.1.1 q.1.2) (fun q => if q.1.2 = true then cntV q.1.1 + 2 else 1) (fun q => if q.1.2 = true then (match outV l q.1.1 with | none => z | some u => E u) else E q.1.1) f (fun again q ih => ?_) 18446744073709551616 ⟨(v, true), hv⟩ (by have := cnt_le v; simp only [if_true]; omega)
  · simpa using key
  · obtain ⟨⟨v, ch⟩, hv⟩ := q
    dsimp only at ih hv ⊢
    cases ch with
    | false => simpa using h2 again v hv
    | true =>
      simp only [if_true]
      rw [h1 again v hv]
      have ho' : VOk v.length l := by rw [hv]; exact ho
      cases hp : passV true l v with
      | none => rw [outV_none hp]
      | some u =>
        have hno := vno_of hp
        obtain ⟨e3, e4⟩ := passV_cnt ho' hno hp
        have hm := moreV_eq ho' hno hp
        dsimp only
        rw [outV_some ho' hp]
        cases hb : moreV true l v with
        | false =>
          have := ih ⟨(u, false), e3.trans hv⟩ (by simp)
          simpa using this
        | true =>
          rw [hb] at hm
          have h5 : cntV u < cntV v := of_decide_eq_true hm.symm
          have := ih ⟨(u, true), e3.trans hv⟩ (by simp; exact h5)
          simpa using this
theorem outV_many {l : List VA} {v : Vals} (ho : VOk v.length l) (hn : 0 < v.length) : outV l v = manyV false l (v.length + 1) v := iter_eq ho hn
/-- One arc's step, with what it tells of changes. -/
def psStep {R α : Type} (g : α → VA) (z : Option R) (q : Bool × Vals) (_ : Nat) (m : α) : Sum (Bool × Vals) (Option R) := match stepV true q.2 (g m) with | none => .inr z | some u => .inl (q.1 || decide (u ≠ q.2), u)
theorem psStep_none {R α : Type} {g : α → VA} {z : Option R} {q : Bool × Vals} {k : Nat} {m : α} (h : stepV true q.2 (g m) = none) : psStep g z q k m = .inr z := by unfold psStep; rw [h]
theorem psStep_some {R α : Type} {g : α → VA} {z : Option R} {q : Bool × Vals} {u : Vals} {k : Nat} {m : α} (h : stepV true q.2 (g m) = some u) : psStep g z q k m = .inl (q.1 || decide (u ≠ q.2), u) := by unfold psStep; rw [h]
theorem fold_ps {R : Type} {α : Type} (g : α → VA) (z : Option R) (e : Bool × Vals → Option R) : ∀ (l : List α) (k : Nat) (c : Bool) (v : Vals), foldGo (R := R) (psStep g z) e k (c, v) l = (match passV true (l.map g) v with | none => z | some u => e (c || moreV true (l.map g) v, u))
  | [], k, c, v => by simp [foldGo, passV, moreV]
  | m :: r, k, c, v => by
    unfold foldGo
    simp only [List.map_cons]
    unfold passV moreV
    cases h : stepV true v (g m) with
    | none => rw [psStep_none (q := (c, v)) h]; rfl
    | some u =>
      rw [psStep_some (q := (c, v)) h]
      dsimp only
      rw [fold_ps g z e r (k + 1)]
      show (match passV true (r.map g) u with | none => z | some u => e _) = _
      simp only [Option.bind_some, Bool.or_assoc]
end Go.Proofs.Ytnpbdphfjablbaa

namespace Go.Proofs.Ytnpbdphfjablbaa
open Go.RowKit
set_option linter.unusedVariables false
set_option linter.unusedSimpArgs false
/-! VALUES OF A SIGNAL, the program. -/
def eLA (s : STG) (m : Mv) : PV := .agg [pI m.from_, pI (labAt s m.by_).sig, pB (labAt s m.by_).up, pI m.to]
theorem fold_app {R : Type} {α : Type} (e : List α → Option R) : ∀ (l : List α) (k : Nat) (acc : List α), foldGo (R := R) (fun (acc : List α) _ m => .inl (acc ++ [m])) e k acc l = e (acc ++ l)
  | [], k, acc => by simp [foldGo]
  | m :: r, k, acc => by
    unfold foldGo
    dsimp only
    refine (fold_app e r (k + 1) _).trans ?_
    rw [List.append_assoc]; rfl
theorem spl4a (a b c d x y z w : PV) : splice (splice (splice (splice [a, b, c, d] 0 [x]) 1 [y]) 2 [z]) 3 [w] = [x, y, z, w] := rfl
theorem p_i_labelledArcs (s : STG) (ms : List (List UInt8)) (mv : List Mv) (hm : mv.length ≤ 1000000) (ho : mvsOk s ms.length mv) : s_i_labelledArcs [eStg s, .agg [.lst (ms.map PV.str), .lst (mv.map eMv)]] = some (.lst (mv.map (eLA s))) := by
  show (fun x0 x1 => s_i_labelledArcs [x0, x1]) _ _ = _
  rw [sh_i_labelledArcs]
  simp only [eStg, List.length_map, EVS]
  refine (foldLoop (R := PV) mv (fun (acc : List Mv) k => [.lst (acc.map (eLA s)), pI (Int.ofNat k)]) (fun k acc => acc.length = k) (fun acc _ m => .inl (acc ++ [m])) (fun acc => some (.lst (acc.map (eLA s)))) _ (by omega) (fun acc k m acc' hi hx he => ?_) (fun again acc k m hi hx => ?_) (fun again acc hi => ?_) (b := []) rfl).trans ?_
  · cases he; simp; exact hi
  · have hk := lt_of_some hx
    have hi' : acc.length = k := hi
    have him : idxV (.lst (mv.map eMv)) (.int .i64 (k : Int)) = some (eMv m) := idx_map hx
    obtain ⟨_, _, b1, b2⟩ := ho m (List.mem_of_getElem? hx)
    obtain ⟨b, hb⟩ : ∃ b : Nat, m.by_ = b := ⟨m.by_.toNat, by omega⟩
    obtain ⟨lb, hlb⟩ : ∃ lb, s.labels[b]? = some lb := ⟨s.labels[b]'(by omega), List.getElem?_eq_getElem (by omega)⟩
    have hil : idxV (.lst (s.labels.map eLb)) (.int .i64 (b : Int)) = some (eLb lb) := idx_map hlb
    have hla : labAt s m.by_ = lb := by unfold labAt; rw [hb, Int.toNat_natCast, List.getD_eq_getElem?_getD, hlb]; rfl
    have hla2 : labAt s (b : Int) = lb := by rw [← hb]; exact hla
    have hls : acc.length + [PV.agg [pI m.from_, pI lb.sig, pB lb.up, pI m.to]].length ≤ 4294967296 ∧ [PV.agg [pI m.from_, pI lb.sig, pB lb.up, pI m.to]].all (okEl 4) = true := ⟨by simp; omega, rfl⟩
    have hnw := next_w hk (show mv.length ≤ 9223372036854775807 by omega)
    simp only [lt_d hk, him, eMv, hb, hil, eLb, pv_3_3, pv_2_2', pv_5_3, spl33, spl22, spl4a, List.length_map, if_pos hls, hnw, List.map_append, List.map_cons, List.map_nil, eLA, hla2, List.drop_zero, EVS]
  · simp only [ge_d, EVS]
  · rw [fold_app]; rfl
def zN : Option Bool → Int
  | none => 0
  | some false => 48
  | some true => 49
def eZ (x : Option Bool) : PV := .int .u8 (zN x)
def fZ : Option Bool → PV
  | some true => .int .u8 49
  | _ => .int .u8 48
theorem zAt {v : Vals} {k : Nat} (h : k < v.length) : (v.map eZ)[k]? = some (.int .u8 (zN (vAt v k))) := by
  rw [List.getElem?_map]
  unfold vAt
  rw [List.getD_eq_getElem?_getD, List.getElem?_eq_getElem h]; rfl
theorem elZ {v : Vals} {k : Nat} (h : k < v.length) : elU8 (v.map eZ) (.int .i64 (k : Int)) = some (zN (vAt v k)) := by
  show (if (0 : Int) ≤ (k : Int) then ((v.map eZ)[((k : Int)).toNat]?).bind u8n else none) = _
  rw [if_pos (by omega), Int.toNat_natCast, zAt h]; rfl
theorem zSet (v : Vals) (k : Nat) (x : Option Bool) : (v.map eZ).set k (eZ x) = (v.set k x).map eZ := set_map eZ v k x
theorem u8n_i (n : Int) : u8n (.int .u8 n) = some n := rfl
theorem as4_t (a b : Bool) (x y : Int) : as4 (.tup [.bool a, .bool b, .int .u8 x, .int .u8 y]) = some (a, b, x, y) := rfl
theorem ag_t (a b : Int) : s_i_agreed [.bool true, .int .u8 a, .int .u8 b] = some (.tup [.bool (agrB a b).1, .bool (agrB a b).2, .int .u8 (agrV a b).1, .int .u8 (agrV a b).2]) := rfl
def voR : Option Vals → PV
  | none => .tup [.lst [], pB false]
  | some u => .tup [.lst (u.map fZ), pB true]
theorem zRep (n : Nat) : List.replicate n (PV.int .u8 0) = (List.replicate n none).map eZ := by rw [List.map_replicate]; rfl
theorem pv_4_4 (a b c d : PV) : partV true 0 4 [a, b, c, d] = some (.agg [a, b, c, d]) := rfl
theorem spl44 (a b c d a' b' c' d' : PV) : splice [a, b, c, d] 0 [a', b', c', d'] = [a', b', c', d'] := rfl
def fil (v : Vals) (k : Nat) : List PV := (v.take k).map fZ ++ (v.drop k).map eZ
theorem fil_0 (v : Vals) : v.map eZ = fil v 0 := by simp [fil]
theorem fil_n (v : Vals) : fil v v.length = v.map fZ := by simp [fil]
theorem fil_len (v : Vals) (k : Nat) : (fil v k).length = v.length := by
  unfold fil
  rw [List.length_append, List.length_map, List.length_map, ← List.length_append, List.take_append_drop]
theorem fil_cut {v : Vals} {k : Nat} {x : Option Bool} (h : v[k]? = some x) : fil v k = (v.take k).map fZ ++ eZ x :: (v.drop (k + 1)).map eZ ∧ fil v (k + 1) = (v.take k).map fZ ++ fZ x :: (v.drop (k + 1)).map eZ ∧ ((v.take k).map fZ).length = k := by
  obtain ⟨hk, he⟩ := List.getElem?_eq_some_iff.1 h
  refine ⟨?_, ?_, ?_⟩
  · unfold fil
    rw [List.drop_eq_getElem_cons hk, he, List.map_cons]
  · unfold fil
    rw [List.take_add_one, h, Option.toList_some, List.map_append, List.append_assoc]
    rfl
  · rw [List.length_map, List.length_take]; omega
theorem fil_at {v : Vals} {k : Nat} {x : Option Bool} (h : v[k]? = some x) : (fil v k)[k]? = some (.int .u8 (zN x)) := by
  obtain ⟨e1, _, e3⟩ := fil_cut h
  rw [e1, List.getElem?_append_right (by omega), e3, Nat.sub_self]; rfl
theorem fil_set {v : Vals} {k : Nat} {x : Option Bool} (h : v[k]? = some x) : (fil v k).set k (fZ x) = fil v (k + 1) := by
  obtain ⟨e1, e2, e3⟩ := fil_cut h
  rw [e1, e2, List.set_append_right _ _ (by omega), e3, Nat.sub_self]; rfl
theorem fil_keep {v : Vals} {k : Nat} {x : Option Bool} (h : v[k]? = some x) (hx : fZ x = eZ x) : fil v (k + 1) = fil v k := by
  obtain ⟨e1, e2, _⟩ := fil_cut h
  rw [e1, e2, hx]
theorem set_none_id {v : Vals} {k : Nat} (h : vAt v k = none) : v.set k none = v := by
  unfold vAt at h
  by_cases hk : k < v.length
  · rw [List.getD_eq_getElem?_getD, List.getElem?_eq_getElem hk] at h
    simp only [Option.getD_some] at h
    exact same_set (by rw [List.getElem?_eq_getElem hk, h])
  · exact List.set_eq_of_length_le (by omega)
theorem set_new {v : Vals} {k : Nat} {x : Bool} (hk : k < v.length) (h : vAt v k = none) : decide (v.set k (some x) ≠ v) = true := by
  simp only [decide_eq_true_eq]
  intro hc
  have := at_set (v := v) (k := k) (j := k) (x := some x) hk
  rw [hc, h, if_pos rfl] at this
  cases this
theorem p_i_valuesOf (s : STG) (n : Nat) (mv : List Mv) (sig : Int) (hn : n ≤ 1000) (hm : mv.length ≤ 1000000) (hl : s.labels.length ≤ 1000) (ho : mvsOk s n mv) :
    s_i_valuesOf [pI n, .lst (mv.map (eLA s)), pI sig] = some (voR (outV (mv.map (vaOf s sig)) (List.replicate n none))) := by
  have hz : zeroPV (TI.mk 1 1 (TD.int .u8) [ZC.int .u8] [] false) = .int .u8 0 := rfl
  show (fun x0 x1 x2 => s_i_valuesOf [x0, x1, x2]) _ _ _ = _
  rw [sh_i_valuesOf]
  simp only [mk_v _ _ (show n ≤ 4294967296 by omega), hz, zRep, List.length_map, EVS]
  refine (whileV (R := PV) n (mv.map (vaOf s sig)) (some (voR none)) (fun u => some (voR (some u))) (fun v c => [.lst (v.map eZ), pB c]) _ (fun a ha => ?_) (by omega) (fun again v hv => ?_) (fun again v hv => ?_) (v := List.replicate n none) (by simp)).trans ?_
  · obtain ⟨m, hm', rfl⟩ := List.mem_map.1 ha
    obtain ⟨a1, a2, _⟩ := ho m hm'
    unfold vaOf
    exact ⟨by show m.from_.toNat < n; omega, by show m.to.toNat < n; omega⟩
  · simp only [EVS]
    refine (foldLoop (R := PV) mv (fun (q : Bool × Vals) j => [pB q.1, .lst (q.2.map eZ), pI (Int.ofNat j)]) (fun _ q => q.2.length = n) (psStep (vaOf s sig) (some (voR none))) (fun q => again [.lst (q.2.map eZ), pB q.1]) _ (by omega) (fun q j m q' hi hx he => ?_) (fun again2 q j m hi hx => ?_) (fun again2 q hi => ?_) (b := (false, v)) hv).trans ?_
    · cases h : stepV true q.2 (vaOf s sig m) with
      | none => rw [psStep_none h] at he; cases he
      | some u => rw [psStep_some h] at he; cases he; exact (stepV_len h).trans hi
    · obtain ⟨ch, v⟩ := q
      dsimp only at hi ⊢
      have hj := lt_of_some hx
      have him : idxV (.lst (mv.map (eLA s))) (.int .i64 (j : Int)) = some (eLA s m) := idx_map hx
      obtain ⟨⟨f1, f2⟩, ⟨t1, t2⟩, _⟩ := ho m (List.mem_of_getElem? hx)
      obtain ⟨f, hf⟩ : ∃ f : Nat, m.from_ = f := ⟨m.from_.toNat, by omega⟩
      obtain ⟨t, ht⟩ : ∃ t : Nat, m.to = t := ⟨m.to.toNat, by omega⟩
      obtain ⟨lb, hlb⟩ : ∃ lb, labAt s m.by_ = lb := ⟨_, rfl⟩
      have hva : vaOf s sig m = ⟨f, t, if lb.sig = sig then some lb.up else none⟩ := by
        unfold vaOf
        rw [hf, ht, hlb, Int.toNat_natCast, Int.toNat_natCast]
      have hfl : f < v.length := by omega
      have htl : t < v.length := by omega
      have hpf : plcV (v.map eZ) (.int .i64 (f : Int)) = some (.int .i64 (f : Int)) := plc_at (by rw [List.length_map]; omega)
      have hpt : plcV (v.map eZ) (.int .i64 (t : Int)) = some (.int .i64 (t : Int)) := plc_at (by rw [List.length_map]; omega)
      have haf : (v.map eZ)[f]? = some (.int .u8 (zN (vAt v f))) := zAt hfl
      have hat : (v.map eZ)[t]? = some (.int .u8 (zN (vAt v t))) := zAt htl
      have elf : elU8 (v.map eZ) (.int .i64 (f : Int)) = some (zN (vAt v f)) := elZ hfl
      have elt : elU8 (v.map eZ) (.int .i64 (t : Int)) = some (zN (vAt v t)) := elZ htl
      have hat2 : ∀ x, ((v.set f x).map eZ)[t]? = some (.int .u8 (zN (vAt (v.set f x) t))) := fun x => zAt (by simp; omega)
      have hpt2 : ∀ x, plcV ((v.set f x).map eZ) (.int .i64 (t : Int)) = some (.int .i64 (t : Int)) := fun x => plc_at (by simp; omega)
      have el2 : ∀ x, elU8 ((v.set f x).map eZ) (.int .i64 (t : Int)) = some (zN (vAt (v.set f x) t)) := fun x => elZ (by simp; omega)
      have s0 : (v.map eZ).set f (.int .u8 0) = (v.set f none).map eZ := zSet v f none
      have s1 : (v.map eZ).set f (.int .u8 48) = (v.set f (some false)).map eZ := zSet v f (some false)
      have s2 : (v.map eZ).set f (.int .u8 49) = (v.set f (some true)).map eZ := zSet v f (some true)
      have r0 : ∀ x, ((v.set f x).map eZ).set t (.int .u8 0) = ((v.set f x).set t none).map eZ := fun x => zSet _ t none
      have r1 : ∀ x, ((v.set f x).map eZ).set t (.int .u8 48) = ((v.set f x).set t (some false)).map eZ := fun x => zSet _ t (some false)
      have r2 : ∀ x, ((v.set f x).map eZ).set t (.int .u8 49) = ((v.set f x).set t (some true)).map eZ := fun x => zSet _ t (some true)
      have st0 : (v.map eZ).set t (.int .u8 0) = (v.set t none).map eZ := zSet v t none
      have st1 : (v.map eZ).set t (.int .u8 48) = (v.set t (some false)).map eZ := zSet v t (some false)
      have st2 : (v.map eZ).set t (.int .u8 49) = (v.set t (some true)).map eZ := zSet v t (some true)
      have lv2 : ∀ (a b : Int) (o : Option (PV × PV × PV)), liveThen [.int .i64 a, .int .i64 b] o = o := fun _ _ _ => rfl
      have hnw := next_w hj (show mv.length ≤ 9223372036854775807 by omega)
      have gb0 : s_i_bit [.bool false] = some (.int .u8 48) := p_i_bit false
      have gb1 : s_i_bit [.bool true] = some (.int .u8 49) := p_i_bit true
      simp only [lt_d hj, him, eLA, hf, ht, hlb, pv_4_4, spl44, List.drop_zero, EVS]
      by_cases c : lb.sig = sig
      · rw [if_pos c] at hva
        have hdc : decide (lb.sig = sig) = true := by simp [c]
        have hsp : stepV true v (vaOf s sig m) = (if (vAt v f = none ∨ vAt v f = some (!lb.up)) ∧ (vAt v t = none ∨ vAt v t = some lb.up) ∧ (true = true → f ≠ t) then some ((v.set f (some (!lb.up))).set t (some lb.up)) else none) := by rw [hva]; rfl
        by_cases hft : f = t
        · rw [if_neg (by rintro ⟨_, _, h3⟩; exact h3 rfl hft)] at hsp
          rw [psStep_none (q := (ch, v)) hsp]
          subst hft
          have hv2 : ∀ x, vAt (v.set f x) f = x := fun x => by rw [at_set hfl, if_pos rfl]
          cases cu : lb.up <;> rcases cf : vAt v f with _ | ⟨_ | _⟩ <;>
            (rw [cf] at haf elf hat elt; simp only [hdc, lv2, hpf, hpt, haf, hat, elf, elt, hat2, hpt2, el2, hv2, se_u8, s0, s1, s2, st0, st1, st2, r0, r1, r2, ag_t, as4_t, u8n_i, agrB, agrV, zN, hnw, spl1a, PV.parts, Int.reduceEq, decide_true, decide_false, if_true, if_false, List.getElem?_cons_zero, List.getElem?_cons_succ, gb0, gb1, EVS]; try rfl)
        · have hv2 : ∀ x, vAt (v.set f x) t = vAt v t := fun x => by rw [at_set hfl, if_neg (fun hc => hft hc.symm)]
          have hu1 : ∀ a b, vAt ((v.set f a).set t b) f = a := fun a b => by rw [at_set (by simp; omega), if_neg hft, at_set hfl, if_pos rfl]
          have hu2 : ∀ a b, vAt ((v.set f a).set t b) t = b := fun a b => by rw [at_set (by simp; omega), if_pos rfl]
          have fl1 : vAt v f = none → ∀ a b : Bool, decide ((v.set f (some a)).set t (some b) ≠ v) = true := fun h a b => by
            simp only [decide_eq_true_eq]
            intro hc
            have := hu1 (some a) (some b)
            rw [hc, h] at this
            cases this
          have fl2 : vAt v t = none → ∀ a b : Bool, decide ((v.set f (some a)).set t (some b) ≠ v) = true := fun h a b => by
            simp only [decide_eq_true_eq]
            intro hc
            have := hu2 (some a) (some b)
            rw [hc, h] at this
            cases this
          cases cu : lb.up <;> rw [cu] at hsp <;> rcases cf : vAt v f with _ | ⟨_ | _⟩ <;> rcases ct : vAt v t with _ | ⟨_ | _⟩ <;>
            (rw [cf, ct] at hsp
             simp [hft] at hsp
             (first | rw [psStep_some (q := (ch, v)) hsp] | rw [psStep_none (q := (ch, v)) hsp])
             (try have g1 := fl1 cf)
             (try have g2 := fl2 ct)
             (try have g3 : ∀ b : Bool, ¬ v.set t (some b) = v := fun b hc => by have := set_new (x := b) htl ct; rw [hc] at this; simp at this)
             (try have i1 := set_id cf)
             (try have i2 := set_id ct)
             rw [cf] at haf elf
             rw [ct] at hat elt
             simp only [hdc, lv2, hpf, hpt, haf, hat, elf, elt, hat2, hpt2, el2, hv2, se_u8, s0, s1, s2, st0, st1, st2, r0, r1, r2, ag_t, as4_t, u8n_i, agrB, agrV, zN, hnw, spl1a, PV.parts, Int.reduceEq, decide_true, decide_false, if_true, if_false, List.getElem?_cons_zero, List.getElem?_cons_succ, gb0, gb1, ct, EVS]
             first | rfl | (cases ch <;> first | rfl | (simp [*]; done) | (simp [*]; rfl)))
      · rw [if_neg c] at hva
        have hdc : decide (lb.sig = sig) = false := by simp [c]
        have hsp : stepV true v (vaOf s sig m) = (match vAt v f, vAt v t with
          | some x, some y => if x = y then some v else none
          | some x, none => some (v.set t (some x))
          | none, some y => some (v.set f (some y))
          | none, none => some v) := by rw [hva]; rfl
        rcases cf : vAt v f with _ | x <;> rcases ct : vAt v t with _ | y <;> rw [cf, ct] at hsp
        · rw [psStep_some (q := (ch, v)) hsp]
          have n1 := set_none_id cf
          have n2 := set_none_id ct
          rw [cf] at haf elf
          rw [ct] at hat elt
          simp only [hdc, lv2, hpf, hpt, haf, hat, elf, elt, hat2, hpt2, el2, se_u8, s0, s1, s2, st0, st1, st2, r0, r1, r2, ag_t, as4_t, u8n_i, agrB, agrV, zN, hnw, spl1a, PV.parts, Int.reduceEq, decide_true, decide_false, if_true, if_false, List.getElem?_cons_zero, List.getElem?_cons_succ, n1, n2, EVS]
          cases ch <;> first | (simp; done) | (simp; rfl)
        · rw [psStep_some (q := (ch, v)) hsp]
          have hne : f ≠ t := fun hc => by rw [hc, ct] at cf; cases cf
          have hid : (v.set f (some y)).set t (some y) = v.set f (some y) := set_id (by rw [at_set hfl, if_neg (fun hc => hne hc.symm)]; exact ct)
          have hnew := set_new (x := y) hfl cf
          rw [cf] at haf elf
          rw [ct] at hat elt
          cases y <;> simp only [hdc, lv2, hpf, hpt, haf, hat, elf, elt, hat2, hpt2, el2, se_u8, s0, s1, s2, st0, st1, st2, r0, r1, r2, ag_t, as4_t, u8n_i, agrB, agrV, zN, hnw, spl1a, PV.parts, Int.reduceEq, decide_true, decide_false, if_true, if_false, List.getElem?_cons_zero, List.getElem?_cons_succ, hid, hnew, EVS] <;> cases ch <;> first | (simp; done) | (simp; rfl)
        · rw [psStep_some (q := (ch, v)) hsp]
          have hid : v.set f (some x) = v := set_id cf
          have hnew := set_new (x := x) htl ct
          rw [cf] at haf elf
          rw [ct] at hat elt
          cases x <;> simp only [hdc, lv2, hpf, hpt, haf, hat, elf, elt, hat2, hpt2, el2, se_u8, s0, s1, s2, st0, st1, st2, r0, r1, r2, ag_t, as4_t, u8n_i, agrB, agrV, zN, hnw, spl1a, PV.parts, Int.reduceEq, decide_true, decide_false, if_true, if_false, List.getElem?_cons_zero, List.getElem?_cons_succ, hid, hnew, EVS] <;> cases ch <;> first | (simp; done) | (simp; rfl)
        · have hid : v.set f (some x) = v := set_id cf
          have hid2 : v.set t (some y) = v := set_id ct
          rw [cf] at haf elf
          rw [ct] at hat elt
          by_cases hxy : x = y
          · subst hxy
            dsimp only at hsp
            rw [if_pos rfl] at hsp
            rw [psStep_some (q := (ch, v)) hsp]
            cases x <;> simp only [hdc, lv2, hpf, hpt, haf, hat, elf, elt, hat2, hpt2, el2, se_u8, s0, s1, s2, st0, st1, st2, r0, r1, r2, ag_t, as4_t, u8n_i, agrB, agrV, zN, hnw, spl1a, PV.parts, Int.reduceEq, decide_true, decide_false, if_true, if_false, List.getElem?_cons_zero, List.getElem?_cons_succ, hid, hid2, EVS] <;> cases ch <;> first | (simp; done) | (simp; rfl)
          · dsimp only at hsp
            rw [if_neg hxy] at hsp
            rw [psStep_none (q := (ch, v)) hsp]
            cases x <;> cases y <;> first | exact absurd rfl hxy | (simp only [hdc, lv2, hpf, hpt, haf, hat, elf, elt, hat2, hpt2, el2, se_u8, s0, s1, s2, st0, st1, st2, r0, r1, r2, ag_t, as4_t, u8n_i, agrB, agrV, zN, hnw, spl1a, PV.parts, Int.reduceEq, decide_true, decide_false, if_true, if_false, List.getElem?_cons_zero, List.getElem?_cons_succ, hid, hid2, EVS]; try rfl)
    · simp only [ge_d, EVS]
    · rw [fold_ps]
      cases passV true (mv.map (vaOf s sig)) v with
      | none => rfl
      | some u => simp only [Bool.false_or]
  · simp only [fil_0, fil_len, EVS]
    refine (foldLoop (R := PV) v (fun (_ : Unit) k => [.lst (fil v k), pI (Int.ofNat k)]) (fun _ _ => True) (fun _ _ _ => .inl ()) (fun _ => some (voR (some v))) _ (by omega) (fun b k x b' _ _ _ => trivial) (fun again b k x _ hx => ?_) (fun again b _ => ?_) (b := ()) trivial).trans (fold_const' _ _ (fun b k x => ⟨_, rfl⟩) _ _ _)
    · have hk := lt_of_some hx
      have hpl : plcV (fil v k) (.int .i64 (k : Int)) = some (.int .i64 (k : Int)) := plc_at (by rw [fil_len]; exact hk)
      have hat := fil_at hx
      have hnw := next_w hk (show v.length ≤ 9223372036854775807 by omega)
      rcases x with _ | ⟨_ | _⟩
      · have hset : (fil v k).set k (.int .u8 48) = fil v (k + 1) := fil_set hx
        simp only [lt_d hk, hpl, hat, zN, se_u8, hset, hnw, Int.reduceEq, decide_true, EVS]
      · have hkp := fil_keep hx rfl
        simp only [lt_d hk, hpl, hat, zN, hkp, hnw, Int.reduceEq, decide_false, EVS]
      · have hkp := fil_keep hx rfl
        simp only [lt_d hk, hpl, hat, zN, hkp, hnw, Int.reduceEq, decide_false, EVS]
    · simp only [ge_d, fil_n, EVS]
      rfl
  · cases outV (mv.map (vaOf s sig)) (List.replicate n none) <;> rfl
end Go.Proofs.Ytnpbdphfjablbaa

namespace Go.Proofs.Ytnpbdphfjablbaa
open Go.RowKit
set_option linter.unusedVariables false
set_option linter.unusedSimpArgs false
theorem clL_in (s : STG) (n : Nat) (mv : List Mv) : ∀ (l : List Sig) (k : Nat), (∀ x ∈ clL s n mv k l, (k : Int) ≤ x ∧ x < (k : Int) + l.length) ∧ (clL s n mv k l).length ≤ l.length
  | [], k => ⟨fun x hx => (by cases hx), Nat.le_refl _⟩
  | a :: r, k => by
    obtain ⟨h1, h2⟩ := clL_in s n mv r (k + 1)
    unfold clL
    refine ⟨fun x hx => ?_, ?_⟩
    · rcases List.mem_append.1 hx with hx | hx
      · split at hx
        · rw [List.mem_singleton] at hx; subst hx; simp; omega
        · cases hx
      · have := h1 x hx
        simp only [List.length_cons]
        omega
    · rw [List.length_append, List.length_cons]
      split <;> simp <;> omega
theorem isP_all (s : STG) : (∀ x ∈ (isP s).1, 0 ≤ x ∧ x ≤ 1000) ∧ (isP s).1.length ≤ 1000 := by
  unfold isP
  split
  case isFalse => exact ⟨fun x hx => (by cases hx), Nat.zero_le _⟩
  rename_i c
  have hs := sigs_le (exP_mvs s c.1).2.2
  obtain ⟨h1, h2⟩ := clL_in s (exP s).1.marks.length (exP s).1.moves s.signals 0
  exact ⟨fun x hx => by have := h1 x hx; omega, by show (isC s).length ≤ 1000; unfold isC; omega⟩
theorem isP_in (s : STG) : ∀ x ∈ (isP s).1, 0 ≤ x ∧ x ≤ 1000 := (isP_all s).1
theorem isP_len (s : STG) : (isP s).1.length ≤ 1000 := (isP_all s).2
end Go.Proofs.Ytnpbdphfjablbaa

namespace Go.Proofs.Ytnpbdphfjablbaa
open Go.RowKit
set_option linter.unusedVariables false
set_option linter.unusedSimpArgs false
/-! SIGNALS WITHOUT VALUES: the program. -/
theorem exOut_grow {n : Net} : ∀ (f k : Nat) (s : ESt), Mv2 n s → (exOut n f k s).code = 0 → s.marks.length ≤ (exOut n f k s).st.marks.length
  | 0, k, s, _, _ => Nat.le_refl _
  | f + 1, k, s, h, hc => by
    cases hk : s.marks[k]? with
    | none => unfold exOut; rw [hk]; exact Nat.le_refl _
    | some m =>
      rw [exOut_step hk] at hc ⊢
      have hkl := lt_of_some hk
      cases hE : exIn n m k (enL n m) s with
      | bad t s' => rw [hE] at hc; cases hc
      | full s' => rw [hE] at hc; cases hc
      | ok s' =>
        rw [hE] at hc
        obtain ⟨g1, g2⟩ := exIn_mv2 (enL n m) s s' (fun t ht => ht) hkl h hE
        exact Nat.le_trans g2 (exOut_grow f (k + 1) s' g1 hc)
theorem exP_pos (s : STG) (h : (exP s).2 = true) : 0 < (exP s).1.marks.length := by
  unfold exP at h ⊢
  split
  case isFalse c => rw [if_neg c] at h; cases h
  rename_i c
  have := exOut_grow (n := s.net) 301 0 (exStart s.start) (fun v hv => by simp [exStart] at hv) c.2
  have e : (exStart s.start).marks.length = 1 := rfl
  rw [e] at this
  exact this
theorem at_i_InconsistentSignals (s : STG) (hs : StgFit s) : s_i_InconsistentSignals [eStg s] = some (.tup [.lst ((isP s).1.map pI), pB (isP s).2]) := by
  have g1 := at_i_Explore s hs
  simp only [eStg] at g1
  have hln := exP_len s
  show (fun x0 => s_i_InconsistentSignals [x0]) _ = _
  rw [sh_i_InconsistentSignals]
  unfold isP
  cases c : (exP s).2
  · rw [c] at g1
    simp only [eStg, pv_t5, g1, spl22, EVS]
    simp
  · obtain ⟨h1, h2, h3⟩ := exP_mvs s c
    have hpos := exP_pos s c
    have hsg := sigs_le h3
    have g2 := p_i_labelledArcs s (exP s).1.marks (exP s).1.moves (by omega) h1
    simp only [eStg] at g2
    rw [c] at g1
    simp only [eStg, pv_t5, pv_2_2, spl22, g1, g2, List.length_map, EVS]
    obtain ⟨n, hne⟩ : ∃ n, (exP s).1.marks.length = n := ⟨_, rfl⟩
    rw [hne] at h1 hln hpos
    rw [hne]
    refine (foldLoop (R := PV) s.signals (fun (acc : List Int) k => [.lst (acc.map pI), pI (Int.ofNat k)]) (fun k acc => acc.length ≤ k) (clStep s n (exP s).1.moves) (fun acc => some (.tup [.lst (acc.map pI), pB (decide (0 < (acc.length : Int)))])) _ (by omega) (fun acc k x acc' hi hx he => ?_) (fun again acc k x hi hx => ?_) (fun again acc hi => ?_) (b := []) (Nat.zero_le _)).trans ?_
    · unfold clStep at he; cases he
      split <;> simp <;> omega
    · have hk := lt_of_some hx
      have hi' : acc.length ≤ k := hi
      have g := p_i_valuesOf s n (exP s).1.moves k (by omega) (by omega) (by omega) h1
      have hov : outV ((exP s).1.moves.map (vaOf s k)) (List.replicate n none) = l5V s n (exP s).1.moves k := by
        unfold l5V
        have := outV_many (l := (exP s).1.moves.map (vaOf s k)) (v := List.replicate n none) (fun a ha => by
          obtain ⟨m, hm', rfl⟩ := List.mem_map.1 ha
          obtain ⟨a1, a2, _⟩ := h1 m hm'
          rw [List.length_replicate]
          unfold vaOf
          exact ⟨by show m.from_.toNat < n; omega, by show m.to.toNat < n; omega⟩) (by rw [List.length_replicate]; omega)
        rw [List.length_replicate] at this
        exact this
      rw [hov] at g
      have hla : acc.length + [pI (k : Int)].length ≤ 4294967296 ∧ [pI (k : Int)].all (okEl 1) = true := ⟨by simp; omega, rfl⟩
      have hnw := next_w hk (show s.signals.length ≤ 9223372036854775807 by omega)
      simp only [lt_d hk, g, EVS]
      unfold clStep
      cases hv : l5V s n (exP s).1.moves k with
      | none => simp only [voR, Option.isNone_none, if_true, List.length_map, if_pos hla, hnw, List.map_append, List.map_cons, List.map_nil, EVS]
      | some u => simp only [voR, Option.isNone_some, Bool.false_eq_true, if_false, List.append_nil, hnw, EVS]
    · simp only [ge_d, List.length_map, EVS]
    · rw [fold_cl, List.nil_append]
      have e : clL s n (exP s).1.moves 0 s.signals = isC s := by unfold isC; rw [hne]
      rw [e]
      by_cases c2 : isC s = []
      · simp [c2]
      · have h5 := List.length_pos_iff.2 c2
        simp [c2, h5]
end Go.Proofs.Ytnpbdphfjablbaa
