/-
  PLAIN LAWS of what the functions compute that FnExactEarliestRun reaches.
-/
import Derived.Test.YtnpbdphfjablbaaGreatEarliestRunF
import Derived.Test.YtnpbdphfjablbaaGreatExPure
import Derived.Test.YtnpbdphfjablbaaGreatReachFacts

namespace Go.Proofs.YtnpbdphfjablbaaGreat
open Go.RowKit
set_option linter.unusedVariables false
set_option linter.unusedSimpArgs false
theorem p_r_l1In (n lo hi : Int) : s_r_l1In [pI n, pI lo, pI hi] = some (pB (decide (lo ≤ n) && decide (n ≤ hi))) := by
  show (fun x0 x1 x2 => s_r_l1In [x0, x1, x2]) _ _ _ = _
  rw [sh_r_l1In]
  by_cases h : lo ≤ n <;> simp only [h, EVS]
/-- A name's byte. -/
def nameB (first : Bool) (b : UInt8) : Bool := (decide ((97 : Int) ≤ b.toNat) && decide ((b.toNat : Int) ≤ 122)) || (!first && (!decide ((b.toNat : Int) < 48) && !decide ((57 : Int) < b.toNat)))
def nameGo : Bool → List UInt8 → Bool
  | _, [] => true
  | f, b :: r => nameB f b && nameGo false r
def isNameP (s : List UInt8) : Bool := nameGo true s && (decide ((1 : Int) ≤ s.length) && decide ((s.length : Int) ≤ 6))
theorem p_r_l2Name (s : List UInt8) (hs : s.length ≤ 9223372036854775807) : s_r_l2Name [.str s] = some (pB (isNameP s)) := by
  show (fun x0 => s_r_l2Name [x0]) _ = _
  rw [sh_r_l2Name]
  refine (congrArg (scOnly true) (loopR_go (R := PV) (fun k : Nat => [pI (Int.ofNat k)]) (fun k => s.length + 1 - k) (fun k => some (pB (nameGo (k == 0) (s.drop k) && (decide ((1 : Int) ≤ s.length) && decide ((s.length : Int) ≤ 6))))) _ (fun again k ih => ?_) _ 0 (by omega))).trans ?_
  · by_cases hk : k < s.length
    · obtain ⟨b, hb⟩ : ∃ b, s[k]? = some b := ⟨s[k], List.getElem?_eq_getElem hk⟩
      have hd : s.drop k = b :: s.drop (k + 1) := by
        obtain ⟨h1, rfl⟩ := List.getElem?_eq_some_iff.1 hb
        exact List.drop_eq_getElem_cons h1
      have hlt : decide ((k : Int) < s.length) = true := by simpa using hk
      have hw : IntKind.i64.wrap ((k : Int) + 1) = ((k + 1 : Nat) : Int) := by rw [wrap_of (by omega) (by omega)]; omega
      have hnext := ih (k + 1) (by omega)
      simp only [Int.ofNat_eq_natCast] at hnext
      have hk0 : decide ((k : Int) = 0) = (k == 0) := by rw [Bool.eq_iff_iff]; simp
      rw [hd]
      have hk1 : (k + 1 == 0) = false := rfl
      rw [hk1] at hnext
      have ev1 := hlt
      have ev2 := byteV_at (k := .i64) hb
      simp only [nameGo, nameB, hlt, byteV_at hb, hk0, hw, hnext, EVS]
      by_cases c1 : (97 : Int) ≤ b.toNat
      all_goals simp only [c1, byteV_at hb, EVS]
      by_cases c2 : (b.toNat : Int) ≤ 122
      all_goals try simp only [c2, byteV_at hb, EVS]
      all_goals try simp only [hk0]
      all_goals try (cases c5 : (k == 0))
      all_goals try simp only [c5, byteV_at hb, EVS]
      all_goals try (by_cases c3 : (b.toNat : Int) < 48)
      all_goals try simp only [c3, byteV_at hb, EVS]
      all_goals try (by_cases c4 : (57 : Int) < b.toNat)
      all_goals try simp only [c4, byteV_at hb, EVS]
    · have hd : s.drop k = [] := List.drop_eq_nil_of_le (by omega)
      have hlt : decide ((k : Int) < s.length) = false := by simpa using hk
      rw [hd]
      simp only [nameGo, hlt, p_r_l1In, EVS]
  · simp only [isNameP, List.drop_zero, beq_self_eq_true, EVS]
end Go.Proofs.YtnpbdphfjablbaaGreat

namespace Go.Proofs.YtnpbdphfjablbaaGreat
open Go.RowKit
set_option linter.unusedVariables false
set_option linter.unusedSimpArgs false
theorem lt_of_some {α : Type} {l : List α} {k : Nat} {x : α} (h : l[k]? = some x) : k < l.length := (List.getElem?_eq_some_iff.1 h).1
theorem next_w {k n : Nat} (h : k < n) (hn : n ≤ 9223372036854775807) : IntKind.i64.wrap ((k : Int) + 1) = ((k + 1 : Nat) : Int) := by rw [wrap_of (by omega) (by omega)]; omega
theorem lt_d {k n : Nat} (h : k < n) : decide ((k : Int) < (n : Int)) = true := by simpa using h
theorem ge_d {n : Nat} : decide ((n : Int) < (n : Int)) = false := by simp
end Go.Proofs.YtnpbdphfjablbaaGreat

namespace Go.Proofs.YtnpbdphfjablbaaGreat
open Go.RowKit
set_option linter.unusedVariables false
set_option linter.unusedSimpArgs false
abbrev eSig (s : List UInt8 × Int) : PV := .agg [.str s.1, pI s.2]
def inR (n lo hi : Int) : Bool := decide (lo ≤ n) && decide (n ≤ hi)
def sigOk (l : List (List UInt8 × Int)) (k : Nat) (s : List UInt8 × Int) : Bool := (isNameP s.1 && inR s.2 1 3) && allK (fun _ y => !decide (s.1 = y.1)) 0 (l.take k)
def sigsP (l : List (List UInt8 × Int)) : Bool := allK (sigOk l) 0 l && inR l.length 1 8
theorem okEl_eSig (x : List UInt8 × Int) : okEl 2 (eSig x) = true := rfl
theorem p_r_l2Signals (l : List (List UInt8 × Int)) (hl : l.length ≤ 9223372036854775807) (hs : ∀ s ∈ l, s.1.length ≤ 9223372036854775807) : s_r_l2Signals [.lst (l.map eSig)] = some (pB (sigsP l)) := by
  show (fun x0 => s_r_l2Signals [x0]) _ = _
  rw [sh_r_l2Signals]
  simp only [EVS]
  refine (congrArg (scOnly true) (rangeAll (R := PV) l (sigOk l) (some (pB false)) (some (pB (inR l.length 1 8))) _ hl (fun again k s hb => ?_) (fun again => ?_))).trans ?_
  · have hk := lt_of_some hb
    have hi : idxV (.lst (l.map eSig)) (.int .i64 (k : Int)) = some (eSig s) := idx_map hb
    have hc : cutL 2 (.lst (l.map eSig)) none (some (.int .i64 (k : Int))) = some (.lst ((l.take k).map eSig)) := cut_map okEl_eSig (by omega)
    have hn := p_r_l2Name s.1 (hs s (List.mem_of_getElem? hb))
    simp only [lt_d hk, next_w hk hl, hi, eSig, hn, p_r_l1In, sigOk, inR, EVS]
    obtain c1 | c1 := (Bool.eq_false_or_eq_true (isNameP s.1)).symm <;> simp only [c1, p_r_l1In, EVS]
    obtain c2 | c2 := (Bool.eq_false_or_eq_true (decide (1 ≤ s.2) && decide (s.2 ≤ 3))).symm <;> simp only [c2, EVS]
    simp only [hc, EVS]
    refine (rangeAll (R := PV) (l.take k) (fun _ y => !decide (s.1 = y.1)) (some (pB false)) (again [pI ((k + 1 : Nat) : Int)]) _ (by simp; omega) (fun again' j y hy => ?_) (fun again' => ?_)).trans ?_
    · have hj := lt_of_some hy
      have hi' : idxV (.lst ((l.take k).map eSig)) (.int .i64 (j : Int)) = some (eSig y) := idx_map hy
      simp only [lt_d hj, next_w hj (by simp; omega), hi', eSig, EVS]
      cases c3 : decide (s.1 = y.1) <;> simp only [c3, EVS]
    · simp only [ge_d, next_w hk hl, EVS]
    · rfl
  · simp only [ge_d, p_r_l1In, inR, EVS]
  · unfold sigsP
    cases allK (sigOk l) 0 l <;> simp only [EVS]
end Go.Proofs.YtnpbdphfjablbaaGreat

namespace Go.Proofs.YtnpbdphfjablbaaGreat
open Go.RowKit
set_option linter.unusedVariables false
set_option linter.unusedSimpArgs false
abbrev Fits {α : Type} (l : List α) : Prop := l.length ≤ 9223372036854775807
end Go.Proofs.YtnpbdphfjablbaaGreat

namespace Go.Proofs.YtnpbdphfjablbaaGreat
open Go.RowKit
set_option linter.unusedVariables false
set_option linter.unusedSimpArgs false
end Go.Proofs.YtnpbdphfjablbaaGreat

namespace Go.Proofs.YtnpbdphfjablbaaGreat
open Go.RowKit
set_option linter.unusedVariables false
set_option linter.unusedSimpArgs false
theorem p_i_within (n lo hi : Int) : s_i_within [pI n, pI lo, pI hi] = some (pB (inR n lo hi)) := by
  show (fun x0 x1 x2 => s_i_within [x0, x1, x2]) _ _ _ = _
  rw [sh_i_within]
  unfold inR
  by_cases h : lo ≤ n <;> simp only [h, EVS]
def nameB' (k : Nat) (b : UInt8) : Bool := (decide ((97 : Int) ≤ b.toNat) && decide ((b.toNat : Int) ≤ 122)) || (!decide ((k : Int) = 0) && (decide ((48 : Int) ≤ b.toNat) && decide ((b.toNat : Int) ≤ 57)))
def nameP' (s : List UInt8) : Bool := allK nameB' 0 s && inR s.length 1 6
theorem p_i_isName (s : List UInt8) (hs : s.length ≤ 9223372036854775807) : s_i_isName [.str s] = some (pB (nameP' s)) := by
  show (fun x0 => s_i_isName [x0]) _ = _
  rw [sh_i_isName]
  refine (congrArg (scOnly true) (rangeAll (R := PV) s nameB' (some (pB false)) (some (pB (inR s.length 1 6))) _ hs (fun again k b hb => ?_) (fun again => ?_))).trans ?_
  · have hk := lt_of_some hb
    simp only [nameB', lt_d hk, next_w hk hs, byteV_at hb, EVS]
    obtain c1 | c1 := (Bool.eq_false_or_eq_true (decide ((97 : Int) ≤ b.toNat))).symm <;> simp only [c1, byteV_at hb, EVS]
    all_goals (obtain c2 | c2 := (Bool.eq_false_or_eq_true (decide ((b.toNat : Int) ≤ 122))).symm <;> try simp only [c2, byteV_at hb, EVS])
    all_goals (obtain c3 | c3 := (Bool.eq_false_or_eq_true (decide ((48 : Int) ≤ b.toNat))).symm <;> try simp only [c3, byteV_at hb, EVS])
    all_goals (obtain c4 | c4 := (Bool.eq_false_or_eq_true (decide ((b.toNat : Int) ≤ 57))).symm <;> try simp only [c4, byteV_at hb, EVS])
    all_goals (obtain c5 | c5 := (Bool.eq_false_or_eq_true (decide ((k : Int) = 0))).symm <;> try simp only [c5, EVS])
  · simp only [ge_d, p_i_within, EVS]
  · unfold nameP'
    cases allK nameB' 0 s <;> simp only [EVS]
theorem nameGo_all : ∀ (l : List UInt8) (k : Nat), nameGo (k == 0) l = allK nameB' k l
  | [], _ => rfl
  | b :: r, k => by
    have h := nameGo_all r (k + 1)
    have h1 : (k + 1 == 0) = false := rfl
    rw [h1] at h
    unfold nameGo allK
    rw [h]
    congr 1
    unfold nameB nameB'
    have e1 : decide ((48 : Int) ≤ b.toNat) = !decide ((b.toNat : Int) < 48) := by rw [Bool.eq_iff_iff]; simp
    have e2 : decide ((b.toNat : Int) ≤ 57) = !decide ((57 : Int) < b.toNat) := by rw [Bool.eq_iff_iff]; simp
    have e3 : decide ((k : Int) = 0) = (k == 0) := by rw [Bool.eq_iff_iff]; simp
    rw [e1, e2, e3]
theorem name_eq (s : List UInt8) : isNameP s = nameP' s := by
  unfold isNameP nameP' inR
  rw [← nameGo_all s 0]
  rfl
theorem p_i_isName' (s : List UInt8) (hs : s.length ≤ 9223372036854775807) : s_i_isName [.str s] = some (pB (isNameP s)) := (p_i_isName s hs).trans (by rw [name_eq])
end Go.Proofs.YtnpbdphfjablbaaGreat

namespace Go.Proofs.YtnpbdphfjablbaaGreat
open Go.RowKit
set_option linter.unusedVariables false
set_option linter.unusedSimpArgs false
/-- The first index of an element that answers. -/
def ixf {α : Type} (q : α → Bool) : Nat → List α → Int
  | _, [] => -1
  | k, x :: r => if q x = true then (k : Int) else ixf q (k + 1) r
theorem rgo_ixf {α : Type} (q : α → Bool) : ∀ (l : List α) (k : Nat), rgo (fun k x => if q x = true then some (some (pI (k : Int))) else none) (some (pI (-1))) k l = some (pI (ixf q k l))
  | [], k => rfl
  | x :: r, k => by
    unfold rgo ixf
    cases q x
    · simp [rgo_ixf q r (k + 1)]
    · simp
theorem ixf_ge {α : Type} (q : α → Bool) : ∀ (l : List α) (k : Nat), decide ((0 : Int) ≤ ixf q k l) = !allK (fun _ x => !q x) k l
  | [], k => rfl
  | x :: r, k => by
    unfold ixf allK
    cases q x
    · simp [ixf_ge q r (k + 1)]
    · simp
theorem rangeIx {α : Type} (l : List α) (q : α → Bool) (f : (List PV → Option PV) → List PV → Option PV) (hl : l.length ≤ 9223372036854775807)
    (h1 : ∀ again k x, l[k]? = some x → f again [pI (Int.ofNat k)] = if q x = true then some (pI (k : Int)) else again [pI (Int.ofNat (k + 1))])
    (h2 : ∀ again, f again [pI (Int.ofNat l.length)] = some (pI (-1))) : loopR f 18446744073709551616 [pI (Int.ofNat 0)] = some (pI (ixf q 0 l)) := by
  rw [range1 l (fun k x => if q x = true then some (some (pI (k : Int))) else none) (some (pI (-1))) f hl (fun again k x hx => ?_) h2, rgo_ixf]
  rw [h1 again k x hx]
  cases q x <;> simp
theorem caps1 (l : List PV) : capsOf 1 (.tup [.agg l]) = some [.agg l] := by simp [capsOf, PV.parts, PV.isU]
theorem p_i_areSignals_1 (a x : List UInt8 × Int) : s_i_areSignals_1 [eSig a, eSig x] = some (pB (decide (a.1 = x.1))) := by
  show (fun x0 x1 => s_i_areSignals_1 [x0, x1]) _ _ = _
  rw [sh_i_areSignals_1]
  simp only [eSig, List.drop_zero, EVS]
theorem p_g_slices_IndexFunc_Signal__i_areSignals_1 (l : List (List UInt8 × Int)) (x : List UInt8 × Int) (hl : Fits l) : s_g_slices_IndexFunc_Signal__i_areSignals_1 [.lst (l.map eSig), .tup [eSig x]] = some (pI (ixf (fun a => decide (a.1 = x.1)) 0 l)) := by
  show (fun x0 x1 => s_g_slices_IndexFunc_Signal__i_areSignals_1 [x0, x1]) _ _ = _
  rw [sh_g_slices_IndexFunc_Signal__i_areSignals_1]
  unfold Fits at hl
  simp only [EVS]
  refine (congrArg (scOnly true) (rangeIx l (fun a => decide (a.1 = x.1)) _ hl (fun again k a hb => ?_) (fun again => ?_))).trans ?_
  · have hk := lt_of_some hb
    have hi : idxV (.lst (l.map eSig)) (.int .i64 (k : Int)) = some (eSig a) := idx_map hb
    have g := p_i_areSignals_1 a x
    simp only [eSig] at g
    simp only [lt_d hk, next_w hk hl, hi, eSig, caps1, List.cons_append, List.nil_append, g, EVS]
  · simp only [ge_d, EVS]
    rfl
  · simp only [EVS]
theorem p_g_slices_ContainsFunc_Signal__i_areSignals_1 (l : List (List UInt8 × Int)) (x : List UInt8 × Int) (hl : Fits l) : s_g_slices_ContainsFunc_Signal__i_areSignals_1 [.lst (l.map eSig), .tup [eSig x]] = some (pB (!allK (fun _ a => !decide (a.1 = x.1)) 0 l)) := by
  show (fun x0 x1 => s_g_slices_ContainsFunc_Signal__i_areSignals_1 [x0, x1]) _ _ = _
  rw [sh_g_slices_ContainsFunc_Signal__i_areSignals_1]
  simp only [p_g_slices_IndexFunc_Signal__i_areSignals_1 l x hl, ixf_ge (fun a : List UInt8 × Int => decide (a.1 = x.1)) l 0, EVS]
end Go.Proofs.YtnpbdphfjablbaaGreat

namespace Go.Proofs.YtnpbdphfjablbaaGreat
open Go.RowKit
set_option linter.unusedVariables false
set_option linter.unusedSimpArgs false
end Go.Proofs.YtnpbdphfjablbaaGreat

namespace Go.Proofs.YtnpbdphfjablbaaGreat
open Go.RowKit
set_option linter.unusedVariables false
set_option linter.unusedSimpArgs false
theorem eqPin (a c : Int) (b d : Bool) : eqV (some [(0, TD.int .i64), (1, TD.bool)]) .struct (.agg [pI a, pB b]) (.agg [pI c, pB d]) = some (decide (a = c) && (b == d)) := by
  simp [eqV, eqAt, scEq, beq_eq_decide]
end Go.Proofs.YtnpbdphfjablbaaGreat

namespace Go.Proofs.YtnpbdphfjablbaaGreat
open Go.RowKit
set_option linter.unusedVariables false
set_option linter.unusedSimpArgs false
def sigOkI (l : List (List UInt8 × Int)) (k : Nat) (s : List UInt8 × Int) : Bool := (isNameP s.1 && inR s.2 1 3) && allK (fun _ a => !decide (a.1 = s.1)) 0 (l.take k)
def sigsI (l : List (List UInt8 × Int)) : Bool := allK (sigOkI l) 0 l && inR l.length 1 8
theorem p_i_areSignals (l : List (List UInt8 × Int)) (hl : Fits l) (hs : ∀ s ∈ l, Fits s.1) : s_i_areSignals [.lst (l.map eSig)] = some (pB (sigsI l)) := by
  unfold Fits at hl
  show (fun x0 => s_i_areSignals [x0]) _ = _
  rw [sh_i_areSignals]
  simp only [EVS]
  refine (congrArg (scOnly true) (rangeAll (R := PV) l (sigOkI l) (some (pB false)) (some (pB (inR l.length 1 8))) _ hl (fun again k s hb => ?_) (fun again => ?_))).trans ?_
  · have hk := lt_of_some hb
    have hi : idxV (.lst (l.map eSig)) (.int .i64 (k : Int)) = some (eSig s) := idx_map hb
    have hc : cutL 2 (.lst (l.map eSig)) none (some (.int .i64 (k : Int))) = some (.lst ((l.take k).map eSig)) := cut_map okEl_eSig (by omega)
    have hn := p_i_isName' s.1 (hs s (List.mem_of_getElem? hb))
    have g := p_g_slices_ContainsFunc_Signal__i_areSignals_1 (l.take k) s (by show (l.take k).length ≤ _; simp; omega)
    simp only [eSig] at g
    simp only [lt_d hk, next_w hk hl, hi, eSig, hn, sigOkI, EVS]
    obtain c1 | c1 := (Bool.eq_false_or_eq_true (isNameP s.1)).symm <;> simp only [c1, p_i_within, EVS]
    obtain c2 | c2 := (Bool.eq_false_or_eq_true (inR s.2 1 3)).symm <;> simp only [c2, EVS]
    simp only [hc, List.drop_zero, lt_tup, g, EVS]
    obtain c3 | c3 := (Bool.eq_false_or_eq_true (allK (fun _ (a : List UInt8 × Int) => !decide (a.1 = s.1)) 0 (l.take k))).symm <;> simp only [c3, EVS]
  · simp only [ge_d, p_i_within, EVS]
  · unfold sigsI
    cases allK (sigOkI l) 0 l <;> simp only [EVS]
end Go.Proofs.YtnpbdphfjablbaaGreat

namespace Go.Proofs.YtnpbdphfjablbaaGreat
open Go.RowKit
set_option linter.unusedVariables false
set_option linter.unusedSimpArgs false
theorem allK_all {α : Type} (q : α → Bool) : ∀ (l : List α) (k : Nat), allK (fun _ x => q x) k l = l.all q
  | [], _ => rfl
  | x :: r, k => by unfold allK; rw [allK_all q r (k + 1), List.all_cons]
theorem allK_congr {α : Type} (f g : Nat → α → Bool) (h : ∀ k x, f k x = g k x) : ∀ (l : List α) (k : Nat), allK f k l = allK g k l
  | [], _ => rfl
  | x :: r, k => by unfold allK; rw [h k x, allK_congr f g h r (k + 1)]
theorem sigs_eq (l : List (List UInt8 × Int)) : sigsP l = sigsI l := by
  unfold sigsP sigsI
  rw [allK_congr (sigOk l) (sigOkI l) (fun k x => ?_) l 0]
  unfold sigOk sigOkI
  rw [allK_congr (fun _ (y : List UInt8 × Int) => !decide (x.1 = y.1)) (fun _ (y : List UInt8 × Int) => !decide (y.1 = x.1)) (fun _ y => by simp [eq_comm]) _ 0]
end Go.Proofs.YtnpbdphfjablbaaGreat

namespace Go.Proofs.YtnpbdphfjablbaaGreat
open Go.RowKit
set_option linter.unusedVariables false
set_option linter.unusedSimpArgs false
def bitB (b : UInt8) : Bool := decide ((b.toNat : Int) = 48) || decide ((b.toNat : Int) = 49)
def bitsP (s : List UInt8) (n : Int) : Bool := allK (fun _ b => bitB b) 0 s && decide ((s.length : Int) = n)
theorem p_i_isBits (s : List UInt8) (n : Int) (hs : Fits s) : s_i_isBits [.str s, pI n] = some (pB (bitsP s n)) := by
  unfold Fits at hs
  show (fun x0 x1 => s_i_isBits [x0, x1]) _ _ = _
  rw [sh_i_isBits]
  refine (congrArg (scOnly true) (rangeAll (R := PV) s (fun _ b => bitB b) (some (pB false)) (some (pB (decide ((s.length : Int) = n)))) _ hs (fun again k b hb => ?_) (fun again => ?_))).trans ?_
  · have hk := lt_of_some hb
    simp only [bitB, lt_d hk, next_w hk hs, byteV_at hb, EVS]
    obtain c1 | c1 := (Bool.eq_false_or_eq_true (decide ((b.toNat : Int) = 48))).symm <;> simp only [c1, byteV_at hb, EVS]
    obtain c2 | c2 := (Bool.eq_false_or_eq_true (decide ((b.toNat : Int) = 49))).symm <;> simp only [c2, byteV_at hb, EVS]
  · simp only [ge_d, EVS]
  · unfold bitsP
    cases allK (fun _ b => bitB b) 0 s <;> simp only [EVS]
end Go.Proofs.YtnpbdphfjablbaaGreat

namespace Go.Proofs.YtnpbdphfjablbaaGreat
open Go.RowKit
set_option linter.unusedVariables false
set_option linter.unusedSimpArgs false
theorem bitB_iff (b : UInt8) : bitB b = true ↔ b = 48 ∨ b = 49 := by
  unfold bitB
  rw [Bool.or_eq_true, decide_eq_true_eq, decide_eq_true_eq]
  have h48 : (48 : UInt8).toNat = 48 := rfl
  have h49 : (49 : UInt8).toNat = 49 := rfl
  constructor
  · rintro (h | h)
    · exact .inl (UInt8.toNat_inj.1 (by omega))
    · exact .inr (UInt8.toNat_inj.1 (by omega))
  · rintro (rfl | rfl)
    · exact .inl rfl
    · exact .inr rfl
end Go.Proofs.YtnpbdphfjablbaaGreat

namespace Go.Proofs.YtnpbdphfjablbaaGreat
open Go.RowKit
set_option linter.unusedVariables false
set_option linter.unusedSimpArgs false
theorem convB_s (s : List UInt8) (h : s.length ≤ 9223372036854775807) : convB (.str s) = some (.lst (s.map pU)) := by
  unfold convB
  simp only
  rw [if_pos h]
theorem se_int (k k' : IntKind) (m n : Int) : storeEl 0 1 [.int k m] (.int k m) (.int k' n) = some (.int k' n) := rfl
theorem set_map {α : Type} (f : α → PV) (l : List α) (i : Nat) (x : α) : (l.map f).set i (f x) = (l.set i x).map f := by rw [List.map_set]
end Go.Proofs.YtnpbdphfjablbaaGreat

namespace Go.Proofs.YtnpbdphfjablbaaGreat
open Go.RowKit
set_option linter.unusedVariables false
set_option linter.unusedSimpArgs false
/-! NETS: validity, marks, what is enabled, firing. -/
def eTr (t : Tr) : PV := .agg [.lst (t.pre.map pI), .lst (t.post.map pI)]
def eNt (n : Net) : PV := .agg [pI n.places, .lst (n.trans.map eTr)]
structure TrFit (t : Tr) : Prop where
  pre : Fits t.pre
  post : Fits t.post
structure NtFit (n : Net) : Prop where
  trans : Fits n.trans
  each : ∀ t ∈ n.trans, TrFit t
/-- The number ahead of place k of a row, -1 at its head. -/
def prev (l : List Int) (k : Nat) : Int := if k = 0 then -1 else l.getD (k - 1) 0
theorem inc_all (hi : Int) (l : List Int) : allK (fun k x => inB x 0 hi && decide (prev l k < x)) 0 l = incB hi l := by
  suffices h : ∀ (a r : List Int), l = a ++ r → allK (fun k x => inB x 0 hi && decide (prev l k < x)) a.length r = goInc hi (prev l a.length) r by
    have := h [] l rfl
    simpa [prev, incB] using this
  intro a r
  induction r generalizing a with
  | nil => intro _; rfl
  | cons x r ih =>
    intro e
    have e2 := ih (a ++ [x]) (by simp [e])
    have hp : prev l (a.length + 1) = x := by unfold prev; rw [if_neg (by omega), e]; simp
    simp only [List.length_append, List.length_cons, List.length_nil, Nat.zero_add] at e2
    unfold allK goInc
    rw [e2, hp]
theorem sub_1 {k : Nat} (h : 0 < k) (hk : k ≤ 9223372036854775807) : IntKind.i64.wrap ((k : Int) - 1) = ((k - 1 : Nat) : Int) := by rw [wrap_of (by omega) (by omega)]; omega
theorem prev_at {l : List Int} {k : Nat} (h : 0 < k) (hk : k < l.length) : l[k - 1]? = some (prev l k) := by
  unfold prev
  rw [if_neg (by omega), List.getD_eq_getElem?_getD, List.getElem?_eq_getElem (by omega)]; rfl
theorem p_r_l1Rising (l : List Int) (hi : Int) (hl : Fits l) : s_r_l1Rising [.lst (l.map pI), pI 0, pI hi] = some (pB (incB (hi) l)) := by
  unfold Fits at hl
  show (fun x0 x1 x2 => s_r_l1Rising [x0, x1, x2]) _ _ _ = _
  rw [sh_r_l1Rising, ← inc_all]
  simp only [EVS]
  refine (congrArg (scOnly true) (rangeAll (R := PV) l (fun k x => inB x 0 (hi) && decide (prev l k < x)) (some (pB false)) (some (pB true)) _ hl (fun again k x hx => ?_) (fun again => ?_))).trans ?_
  · have hk := lt_of_some hx
    have hi' : idxV (.lst (l.map pI)) (.int .i64 (k : Int)) = some (pI x) := idx_map hx
    have g := p_r_l1In x 0 (hi)
    have gi : inB x 0 (hi) = (decide ((0 : Int) ≤ x) && decide (x ≤ hi)) := rfl
    rw [← gi] at g
    simp only [lt_d hk, next_w hk hl, hi', g, EVS]
    cases hc : inB x 0 (hi)
    · simp only [EVS]
    · simp only [EVS]
      by_cases c : 0 < k
      · have hj : idxV (.lst (l.map pI)) (.int .i64 ((k - 1 : Nat) : Int)) = some (pI (prev l k)) := idx_map (prev_at c hk)
        have hd : decide ((0 : Int) < (k : Int)) = true := by simpa using c
        simp only [hd, sub_1 c (by omega), hj, EVS]
        by_cases c2 : prev l k < x
        · have : ¬ x ≤ prev l k := by omega
          simp only [c2, this, EVS]
        · have : x ≤ prev l k := by omega
          simp only [c2, this, EVS]
      · obtain rfl : k = 0 := by omega
        have hd : decide ((0 : Int) < (0 : Int)) = false := by decide
        have c2 : prev l 0 < x := by have := (inB_iff.1 hc).1; show (-1 : Int) < x; omega
        simp only [hd, c2, EVS]
  · simp only [ge_d, EVS]
  · cases allK (fun k x => inB x 0 (hi) && decide (prev l k < x)) 0 l <;> rfl
theorem p_i_isIncreasing (l : List Int) (n : Int) (hl : Fits l) (hn1 : -9223372036854775808 ≤ n - 1) (hn2 : n - 1 ≤ 9223372036854775807) : s_i_isIncreasing [.lst (l.map pI), pI n] = some (pB (incB (n - 1) l)) := by
  unfold Fits at hl
  show (fun x0 x1 => s_i_isIncreasing [x0, x1]) _ _ = _
  rw [sh_i_isIncreasing, ← inc_all]
  simp only [EVS]
  refine (congrArg (scOnly true) (rangeAll (R := PV) l (fun k x => inB x 0 (n - 1) && decide (prev l k < x)) (some (pB false)) (some (pB true)) _ hl (fun again k x hx => ?_) (fun again => ?_))).trans ?_
  · have hk := lt_of_some hx
    have hi' : idxV (.lst (l.map pI)) (.int .i64 (k : Int)) = some (pI x) := idx_map hx
    have g := p_i_within x 0 (n - 1)
    have gi : inB x 0 (n - 1) = inR x 0 (n - 1) := rfl
    rw [← gi] at g
    simp only [lt_d hk, next_w hk hl, hi', wrap_of hn1 hn2, g, EVS]
    cases hc : inB x 0 (n - 1)
    · simp only [EVS]
    · simp only [EVS]
      by_cases c : 0 < k
      · have hj : idxV (.lst (l.map pI)) (.int .i64 ((k - 1 : Nat) : Int)) = some (pI (prev l k)) := idx_map (prev_at c hk)
        have hd : decide ((0 : Int) < (k : Int)) = true := by simpa using c
        simp only [hd, sub_1 c (by omega), hj, EVS]
        by_cases c2 : prev l k < x
        · have : ¬ x ≤ prev l k := by omega
          simp only [c2, this, EVS]
        · have : x ≤ prev l k := by omega
          simp only [c2, this, EVS]
      · obtain rfl : k = 0 := by omega
        have hd : decide ((0 : Int) < (0 : Int)) = false := by decide
        have c2 : prev l 0 < x := by have := (inB_iff.1 hc).1; show (-1 : Int) < x; omega
        simp only [hd, c2, EVS]
  · simp only [ge_d, EVS]
  · cases allK (fun k x => inB x 0 (n - 1) && decide (prev l k < x)) 0 l <;> rfl
theorem p_r_l1Set2 (l : List Int) (hi : Int) (hl : Fits l) : s_r_l1Set2 [.lst (l.map pI), pI hi] = some (pB (incB hi l)) := by
  show (fun x0 x1 => s_r_l1Set2 [x0, x1]) _ _ = _
  rw [sh_r_l1Set2]
  have g := p_r_l1Rising l hi hl
  simp only [g, EVS]
theorem emp_d (l : List Int) : decide ((l.length : Int) = 0) = l.isEmpty := by cases l with
  | nil => rfl
  | cons a l => simp; omega
theorem p_r_l1Good (n : Net) (hn : NtFit n) : s_r_l1Good [eNt n] = some (pB (goodNet n)) := by
  have hl := hn.trans
  unfold Fits at hl
  show (fun x0 => s_r_l1Good [x0]) _ = _
  rw [sh_r_l1Good]
  simp only [eNt, EVS]
  obtain ⟨W, hW⟩ : ∃ W, IntKind.i64.wrap (n.places - 1) = W := ⟨_, rfl⟩
  refine (congrArg (fun m : Option PV => m.bind fun r => if r.sc = true then some r else none) (rangeAll (R := PV) n.trans (fun k t => !t.pre.isEmpty && incB W t.pre && incB W t.post) (some (pB false)) (some (pB (inB n.places 1 30 && decide (n.trans.length ≤ 24)))) _ hl (fun again k t hx => ?_) (fun again => ?_))).trans ?_
  · have hk := lt_of_some hx
    have ht := hn.each t (List.mem_of_getElem? hx)
    have hi' : idxV (.lst (n.trans.map eTr)) (.int .i64 (k : Int)) = some (eTr t) := idx_map hx
    have g1 := p_r_l1Set2 t.pre W ht.pre
    have g2 := p_r_l1Set2 t.post W ht.post
    simp only [lt_d hk, next_w hk hl, hi', eTr, emp_d, hW, g1, g2, EVS]
    cases c1 : t.pre.isEmpty <;> cases c2 : incB W t.pre <;> cases c3 : incB W t.post <;> simp only [c1, c2, c3, hW, g1, g2, EVS]
  · have g := p_r_l1In n.places 1 30
    have gi : inB n.places 1 30 = (decide ((1 : Int) ≤ n.places) && decide (n.places ≤ 30)) := rfl
    rw [← gi] at g
    have hd : decide ((n.trans.length : Int) ≤ 24) = decide (n.trans.length ≤ 24) := by rw [Bool.eq_iff_iff]; simp; omega
    simp only [ge_d, g, EVS]
    cases inB n.places 1 30 <;> simp only [hd, EVS]
  · rw [allK_all]
    unfold goodNet
    cases c : inB n.places 1 30
    · cases n.trans.all (fun t => !t.pre.isEmpty && incB W t.pre && incB W t.post) <;> simp only [EVS] <;> rfl
    · have hw : W = n.places - 1 := by rw [← hW]; have := inB_iff.1 c; exact wrap_of (by omega) (by omega)
      subst hw
      have hh : (n.trans.all fun t => !t.pre.isEmpty && incB (n.places - 1) t.pre && incB (n.places - 1) t.post) = n.trans.all (trB n.places) := rfl
      rw [hh]
      cases n.trans.all (trB n.places) <;> simp only [EVS] <;> rfl
theorem p_i_IsValidNet_1 (t : Tr) (n : Net) (ht : TrFit t) (hp : -9223372036854775808 ≤ n.places - 1 ∧ n.places - 1 ≤ 9223372036854775807) : s_i_IsValidNet_1 [eTr t, .agg [pI n.places, .lst (n.trans.map eTr)]] = some (pB (!trB n.places t)) := by
  have g1 := p_i_isIncreasing t.pre n.places ht.pre hp.1 hp.2
  have g2 := p_i_isIncreasing t.post n.places ht.post hp.1 hp.2
  show (fun x0 x1 => s_i_IsValidNet_1 [x0, x1]) _ _ = _
  rw [sh_i_IsValidNet_1]
  simp only [eTr, emp_d, List.drop_zero, EVS]
  unfold trB
  cases c1 : t.pre.isEmpty <;> cases c2 : incB (n.places - 1) t.pre <;> cases c3 : incB (n.places - 1) t.post <;> simp only [c1, c2, c3, g1, g2, EVS]
theorem p_g_slices_IndexFunc_Transition__i_IsValidNet_1 (n : Net) (hn : NtFit n) (hp : -9223372036854775808 ≤ n.places - 1 ∧ n.places - 1 ≤ 9223372036854775807) : s_g_slices_IndexFunc_Transition__i_IsValidNet_1 [.lst (n.trans.map eTr), .tup [.agg [pI n.places, .lst (n.trans.map eTr)]]] = some (pI (ixf (fun t => !trB n.places t) 0 n.trans)) := by
  show (fun x0 x1 => s_g_slices_IndexFunc_Transition__i_IsValidNet_1 [x0, x1]) _ _ = _
  rw [sh_g_slices_IndexFunc_Transition__i_IsValidNet_1]
  have hl := hn.trans
  unfold Fits at hl
  simp only [EVS]
  refine (congrArg (fun m : Option PV => m.bind fun r => if r.sc = true then some r else none) (rangeIx n.trans (fun t => !trB n.places t) _ hl (fun again k a hb => ?_) (fun again => ?_))).trans ?_
  · have hk := lt_of_some hb
    have hi : idxV (.lst (n.trans.map eTr)) (.int .i64 (k : Int)) = some (eTr a) := idx_map hb
    have g := p_i_IsValidNet_1 a n (hn.each a (List.mem_of_getElem? hb)) hp
    simp only [eTr] at g
    simp only [lt_d hk, next_w hk hl, hi, eTr, caps1, List.cons_append, List.nil_append, EVS]
    simp only [eTr] at hi
    simp only [g, EVS]
  · simp only [ge_d, EVS]
    rfl
  · simp only [EVS]
theorem p_g_slices_ContainsFunc_Transition__i_IsValidNet_1 (n : Net) (hn : NtFit n) (hp : -9223372036854775808 ≤ n.places - 1 ∧ n.places - 1 ≤ 9223372036854775807) : s_g_slices_ContainsFunc_Transition__i_IsValidNet_1 [.lst (n.trans.map eTr), .tup [.agg [pI n.places, .lst (n.trans.map eTr)]]] = some (pB (!n.trans.all (trB n.places))) := by
  show (fun x0 x1 => s_g_slices_ContainsFunc_Transition__i_IsValidNet_1 [x0, x1]) _ _ = _
  rw [sh_g_slices_ContainsFunc_Transition__i_IsValidNet_1]
  simp only [p_g_slices_IndexFunc_Transition__i_IsValidNet_1 n hn hp, ixf_ge (fun t => !trB n.places t) n.trans 0, Bool.not_not, allK_all, EVS]
theorem p_i_IsValidNet (n : Net) (hn : NtFit n) : s_i_IsValidNet [eNt n] = some (pB (goodNet n)) := by
  have g0 := p_i_within n.places 1 30
  have gi : inB n.places 1 30 = inR n.places 1 30 := rfl
  rw [← gi] at g0
  have hd : decide ((24 : Int) < (n.trans.length : Int)) = !decide (n.trans.length ≤ 24) := by rw [Bool.eq_iff_iff]; simp; omega
  show (fun x0 => s_i_IsValidNet [x0]) _ = _
  rw [sh_i_IsValidNet]
  unfold goodNet
  simp only [eNt, g0, EVS]
  cases c1 : inB n.places 1 30
  · simp only [EVS]
  have hp := inB_iff.1 c1
  have g := p_g_slices_ContainsFunc_Transition__i_IsValidNet_1 n hn ⟨by omega, by omega⟩
  cases c2 : decide (n.trans.length ≤ 24) <;> simp only [c2, hd, List.drop_zero, g, Bool.not_not, EVS]
theorem bits_allK (s : List UInt8) : allK (fun _ b => bitB b) 0 s = goBits s := by
  rw [allK_all]
  induction s with
  | nil => rfl
  | cons b r ih =>
    simp only [List.all_cons, goBits, ih]
    have : bitB b = (b == 48 || b == 49) := by
      rw [Bool.eq_iff_iff, bitB_iff]; simp
    rw [this]
end Go.Proofs.YtnpbdphfjablbaaGreat

namespace Go.Proofs.YtnpbdphfjablbaaGreat
open Go.RowKit
set_option linter.unusedVariables false
set_option linter.unusedSimpArgs false
theorem by_49 (b : UInt8) : decide ((b.toNat : Int) = 49) = (b == 49) := by
  rw [Bool.eq_iff_iff]; simp only [decide_eq_true_eq, beq_iff_eq]
  exact ⟨fun h => UInt8.toNat_inj.1 (by show b.toNat = 49; omega), fun h => by subst h; rfl⟩
theorem by_48 (b : UInt8) : decide ((b.toNat : Int) = 48) = (b == 48) := by
  rw [Bool.eq_iff_iff]; simp only [decide_eq_true_eq, beq_iff_eq]
  exact ⟨fun h => UInt8.toNat_inj.1 (by show b.toNat = 48; omega), fun h => by subst h; rfl⟩
theorem bitsP_B (s : List UInt8) (n : Int) : bitsP s n = bitsB s n := by unfold bitsP bitsB; rw [bits_allK]
theorem p_r_l1Mark (n : Net) (m : List UInt8) (hm : Fits m) : s_r_l1Mark [eNt n, .str m] = some (pB (bitsB m n.places)) := by
  unfold Fits at hm
  show (fun x0 x1 => s_r_l1Mark [x0, x1]) _ _ = _
  rw [sh_r_l1Mark]
  simp only [eNt, EVS]
  refine (congrArg (fun m : Option PV => m.bind fun r => if r.sc = true then some r else none) (rangeAll (R := PV) m (fun _ b => bitB b) (some (pB false)) (some (pB (decide ((m.length : Int) = n.places)))) _ hm (fun again k b hx => ?_) (fun again => ?_))).trans ?_
  · have hk := lt_of_some hx
    have hb := byteV_at (k := .i64) hx
    unfold bitB
    simp only [lt_d hk, next_w hk hm, hb, EVS]
    cases c : decide ((b.toNat : Int) = 48) <;> cases c2 : decide ((b.toNat : Int) = 49) <;> simp only [c, c2, hb, EVS]
  · simp only [ge_d, EVS]
  · rw [bits_allK]
    unfold bitsB
    cases goBits m <;> simp only [EVS] <;> rfl
theorem p_i_IsValidMarking (n : Net) (m : List UInt8) (hn : NtFit n) (hm : Fits m) : s_i_IsValidMarking [eNt n, .str m] = some (pB (goodMark n m)) := by
  have g1 := p_i_IsValidNet n hn
  have g2 := p_i_isBits m n.places hm
  rw [bitsP_B] at g2
  show (fun x0 x1 => s_i_IsValidMarking [x0, x1]) _ _ = _
  rw [sh_i_IsValidMarking]
  unfold goodMark
  simp only [eNt] at g1 g2 ⊢
  cases c : goodNet n <;> simp only [c, g1, g2, EVS]
theorem getD_at {m : List UInt8} {j : Nat} (h : j < m.length) : m[j]? = some (m.getD j 0) := by
  rw [List.getD_eq_getElem?_getD, List.getElem?_eq_getElem h]; rfl
theorem p_r_l1Ready (n : Net) (m : List UInt8) (k : Nat) (t : Tr) (hg : goodMark n m = true) (ht : n.trans[k]? = some t) (hf : TrFit t) : s_r_l1Ready [eNt n, .str m, pI k] = some (pB (enB m t)) := by
  have hl := hf.pre
  unfold Fits at hl
  have hpl := (good_tr hg ht).1
  have hi : idxV (.lst (n.trans.map eTr)) (.int .i64 (k : Int)) = some (eTr t) := idx_map ht
  show (fun x0 x1 x2 => s_r_l1Ready [x0, x1, x2]) _ _ _ = _
  rw [sh_r_l1Ready, ← ready_en (good_bits hg) hpl]
  simp only [eNt, hi, eTr, List.drop_zero, EVS]
  refine (congrArg (fun m : Option PV => m.bind fun r => if r.sc = true then some r else none) (rangeAll (R := PV) t.pre (fun _ p => m.getD p.toNat 0 == 49) (some (pB false)) (some (pB true)) _ hl (fun again k p hx => ?_) (fun again => ?_))).trans ?_
  · have hk := lt_of_some hx
    have hi' : idxV (.lst (t.pre.map pI)) (.int .i64 (k : Int)) = some (pI p) := idx_map hx
    obtain ⟨h1, h2⟩ := hpl p (List.mem_of_getElem? hx)
    obtain ⟨j, rfl⟩ : ∃ j : Nat, p = j := ⟨p.toNat, by omega⟩
    have hb := byteV_at (k := .i64) (getD_at (m := m) (j := j) (by omega))
    simp only [lt_d hk, next_w hk hl, hi', hb, by_49, Int.toNat_natCast, EVS]
    cases m.getD j 0 == 49 <;> simp only [EVS]
  · simp only [ge_d, EVS]
  · rw [allK_all]
    unfold readyB
    cases t.pre.all (fun p => m.getD p.toNat 0 == 49) <;> simp only [EVS]
theorem p_i_isEnabled_1 (m : List UInt8) (j : Nat) (h : j < m.length) : s_i_isEnabled_1 [pI j, .agg [.str m]] = some (pB (m.getD j 0 == 48)) := by
  have hb := byteV_at (k := .i64) (getD_at (m := m) (j := j) h)
  show (fun x0 x1 => s_i_isEnabled_1 [x0, x1]) _ _ = _
  rw [sh_i_isEnabled_1]
  simp only [hb, by_48, EVS]
theorem p_g_slices_IndexFunc_int__i_isEnabled_1 (l : List Int) (m : List UInt8) (hp : PlacesIn l m.length) (hl : Fits l) : s_g_slices_IndexFunc_int__i_isEnabled_1 [.lst (l.map pI), .tup [.agg [.str m]]] = some (pI (ixf (fun p => m.getD p.toNat 0 == 48) 0 l)) := by
  show (fun x0 x1 => s_g_slices_IndexFunc_int__i_isEnabled_1 [x0, x1]) _ _ = _
  rw [sh_g_slices_IndexFunc_int__i_isEnabled_1]
  unfold Fits at hl
  simp only [EVS]
  refine (congrArg (fun m : Option PV => m.bind fun r => if r.sc = true then some r else none) (rangeIx l (fun p => m.getD p.toNat 0 == 48) _ hl (fun again k a hb => ?_) (fun again => ?_))).trans ?_
  · have hk := lt_of_some hb
    have hi : idxV (.lst (l.map pI)) (.int .i64 (k : Int)) = some (pI a) := idx_map hb
    obtain ⟨h1, h2⟩ := hp a (List.mem_of_getElem? hb)
    obtain ⟨j, rfl⟩ : ∃ j : Nat, a = j := ⟨a.toNat, by omega⟩
    have g := p_i_isEnabled_1 m j (by omega)
    simp only [lt_d hk, next_w hk hl, hi, caps1, List.cons_append, List.nil_append, g, Int.toNat_natCast, EVS]
  · simp only [ge_d, EVS]
    rfl
  · simp only [EVS]
theorem p_g_slices_ContainsFunc_int__i_isEnabled_1 (l : List Int) (m : List UInt8) (hp : PlacesIn l m.length) (hl : Fits l) : s_g_slices_ContainsFunc_int__i_isEnabled_1 [.lst (l.map pI), .tup [.agg [.str m]]] = some (pB (l.any (fun p => m.getD p.toNat 0 == 48))) := by
  show (fun x0 x1 => s_g_slices_ContainsFunc_int__i_isEnabled_1 [x0, x1]) _ _ = _
  rw [sh_g_slices_ContainsFunc_int__i_isEnabled_1]
  have e : (!l.all fun p => !(m.getD p.toNat 0 == 48)) = l.any (fun p => m.getD p.toNat 0 == 48) := by rw [List.not_all_eq_any_not]; simp
  simp only [p_g_slices_IndexFunc_int__i_isEnabled_1 l m hp hl, ixf_ge (fun p : Int => m.getD p.toNat 0 == 48) l 0, allK_all, e, EVS]
theorem p_i_isEnabled (t : Tr) (m : List UInt8) (hp : PlacesIn t.pre m.length) (hf : TrFit t) : s_i_isEnabled [eTr t, .str m] = some (pB (enB m t)) := by
  have g := p_g_slices_ContainsFunc_int__i_isEnabled_1 t.pre m hp hf.pre
  show (fun x0 x1 => s_i_isEnabled [x0, x1]) _ _ = _
  rw [sh_i_isEnabled]
  unfold enB
  simp only [eTr, List.drop_zero, g, EVS]
theorem fold_en (m : List UInt8) : ∀ (l : List Tr) (k : Nat) (acc : List Int), foldGo (R := PV) (fun (acc : List Int) k t => .inl (if enB m t = true then acc ++ [(k : Int)] else acc)) (fun acc => some (.lst (acc.map pI))) k acc l = some (.lst ((acc ++ goEn m k l).map pI))
  | [], k, acc => by simp [foldGo, goEn]
  | t :: r, k, acc => by
    unfold foldGo goEn
    refine (fold_en m r (k + 1) _).trans ?_
    cases enB m t <;> simp
theorem p_i_enabled (n : Net) (m : List UInt8) (hg : goodMark n m = true) (hn : NtFit n) : s_i_enabled [eNt n, .str m] = some (.lst ((enL n m).map pI)) := by
  have hl : n.trans.length ≤ 24 := by unfold goodMark goodNet at hg; simp only [Bool.and_eq_true, decide_eq_true_eq] at hg; omega
  show (fun x0 x1 => s_i_enabled [x0, x1]) _ _ = _
  rw [sh_i_enabled]
  simp only [eNt, EVS]
  refine (foldLoop (R := PV) n.trans (fun (acc : List Int) k => [.lst (acc.map pI), pI (Int.ofNat k)]) (fun k acc => acc.length ≤ k) (fun acc k t => .inl (if enB m t = true then acc ++ [(k : Int)] else acc)) (fun acc => some (.lst (acc.map pI))) _ (by omega) (fun acc k t acc' hi hx he => ?_) (fun again acc k t hi hx => ?_) (fun again acc hi => ?_) (b := []) (Nat.zero_le _)).trans ?_
  · cases he; split <;> first | (simp; omega) | omega
  · have hk := lt_of_some hx
    have hx' : idxV (.lst (n.trans.map eTr)) (.int .i64 (k : Int)) = some (eTr t) := idx_map hx
    have g := p_i_isEnabled t m (good_tr hg hx).1 (hn.each t (List.mem_of_getElem? hx))
    simp only [eTr] at g
    have hla : acc.length + [pI (k : Int)].length ≤ 4294967296 ∧ [pI (k : Int)].all (okEl 1) = true := ⟨by simp; omega, rfl⟩
    simp only [lt_d hk, hx', eTr, g, EVS]
    cases enB m t
    · simp only [next_w hk (show n.trans.length ≤ 9223372036854775807 by omega), EVS]
    · simp only [if_pos hla, next_w hk (show n.trans.length ≤ 9223372036854775807 by omega), List.map_append, List.map_cons, List.map_nil, EVS]
  · simp only [ge_d, EVS]
  · rw [fold_en]; rfl
end Go.Proofs.YtnpbdphfjablbaaGreat

namespace Go.Proofs.YtnpbdphfjablbaaGreat
open Go.RowKit
set_option linter.unusedVariables false
set_option linter.unusedSimpArgs false
theorem places_le {n : Net} {m : List UInt8} (hg : goodMark n m = true) : m.length ≤ 30 := by
  have := good_places hg; omega
theorem fold_clear {e : List UInt8 → Option PV} : ∀ (l : List Int) (k : Nat) (m : List UInt8), foldGo (R := PV) (fun (m : List UInt8) _ p => .inl (m.set p.toNat 48)) e k m l = e (clearM l m)
  | [], k, m => rfl
  | p :: r, k, m => by
    unfold foldGo clearM
    exact fold_clear r (k + 1) _
theorem fold_mark : ∀ (l : List Int) (k : Nat) (m : List UInt8), foldGo (R := PV) (fun (m : List UInt8) _ p => if (m.getD p.toNat 0 == 49) = true then .inr (some (.tup [.str [], pB false])) else .inl (m.set p.toNat 49)) (fun m => some (.tup [.str m, pB true])) k m l = some (.tup [.str (optS (markM l m)).1, pB (optS (markM l m)).2])
  | [], k, m => rfl
  | p :: r, k, m => by
    unfold foldGo markM
    by_cases c : (m.getD p.toNat 0 == 49) = true
    · rw [if_pos c, if_pos c]; rfl
    · rw [if_neg c, if_neg c]
      exact fold_mark r (k + 1) _
theorem set_48 (m : List UInt8) (j : Nat) : (m.map pU).set j (.int .u8 48) = (m.set j 48).map pU := set_map pU m j 48
theorem set_49 (m : List UInt8) (j : Nat) : (m.map pU).set j (.int .u8 49) = (m.set j 49).map pU := set_map pU m j 49
theorem mapU_at {m : List UInt8} {j : Nat} (h : j < m.length) : (m.map pU)[j]? = some (pU (m.getD j 0)) := by rw [List.getElem?_map, getD_at h]; rfl
theorem p_r_l1Fire (n : Net) (m : List UInt8) (k : Nat) (t : Tr) (hg : goodMark n m = true) (ht : n.trans[k]? = some t) (hf : TrFit t) : s_r_l1Fire [eNt n, .str m, pI k] = some (.tup [.str (optS (fireM t m)).1, pB (optS (fireM t m)).2]) := by
  have hl1 := hf.pre
  have hl2 := hf.post
  unfold Fits at hl1 hl2
  have hp := good_tr hg ht
  have hm := places_le hg
  have hi : idxV (.lst (n.trans.map eTr)) (.int .i64 (k : Int)) = some (eTr t) := idx_map ht
  show (fun x0 x1 x2 => s_r_l1Fire [x0, x1, x2]) _ _ _ = _
  rw [sh_r_l1Fire]
  simp only [eNt, convB_s m (by omega), hi, eTr, List.drop_zero, EVS]
  refine (congrArg (fun m : Option PV => m.bind fun r => if r.sc = true then some r else none) (foldLoop (R := PV) t.pre (fun (b : List UInt8) k => [.lst (b.map pU), pI (Int.ofNat k)]) (fun _ b => b.length = m.length) (fun (b : List UInt8) _ p => .inl (b.set p.toNat 48)) (fun b => some (.tup [.str (optS (markM t.post b)).1, pB (optS (markM t.post b)).2])) _ hl1 (fun b k p b' hb hx he => ?_) (fun again b k p hb hx => ?_) (fun again b hb => ?_) (b := m) rfl)).trans ?_
  · cases he; simpa using hb
  · have hk := lt_of_some hx
    have hi' : idxV (.lst (t.pre.map pI)) (.int .i64 (k : Int)) = some (pI p) := idx_map hx
    obtain ⟨h1, h2⟩ := hp.1 p (List.mem_of_getElem? hx)
    obtain ⟨j, rfl⟩ : ∃ j : Nat, p = j := ⟨p.toNat, by omega⟩
    have hj : j < b.length := by omega
    have hpl : plcV (b.map pU) (.int .i64 (j : Int)) = some (.int .i64 (j : Int)) := plc_at (by rw [List.length_map]; exact hj)
    simp only [lt_d hk, next_w hk hl1, hi', hpl, mapU_at hj, se_int, set_48, EVS]
  · have hi2 : idxV (.lst (n.trans.map eTr)) (.int .i64 (k : Int)) = some (eTr t) := hi
    simp only [ge_d, hi2, eTr, List.drop_succ_cons, List.drop_zero, EVS]
    refine (foldLoop (R := PV) t.post (fun (b : List UInt8) k => [.lst (b.map pU), pI (Int.ofNat k)]) (fun _ b => b.length = m.length) (fun (b : List UInt8) _ p => if (b.getD p.toNat 0 == 49) = true then .inr (some (.tup [.str [], pB false])) else .inl (b.set p.toNat 49)) (fun b => some (.tup [.str b, pB true])) _ hl2 (fun b k p b' hb hx he => ?_) (fun again b k p hb hx => ?_) (fun again b hb => ?_) (b := b) hb).trans (fold_mark _ _ _)
    · split at he
      · cases he
      · cases he; simpa using hb
    · have hk := lt_of_some hx
      have hi' : idxV (.lst (t.post.map pI)) (.int .i64 (k : Int)) = some (pI p) := idx_map hx
      obtain ⟨h1, h2⟩ := hp.2 p (List.mem_of_getElem? hx)
      obtain ⟨j, rfl⟩ : ∃ j : Nat, p = j := ⟨p.toNat, by omega⟩
      have hj : j < b.length := by omega
      have hpl : plcV (b.map pU) (.int .i64 (j : Int)) = some (.int .i64 (j : Int)) := plc_at (by rw [List.length_map]; exact hj)
      simp only [lt_d hk, next_w hk hl2, hi', hpl, mapU_at hj, se_int, set_49, by_49, EVS]
      cases c : (b.getD j 0 == 49) <;> simp only [hpl, mapU_at hj, se_int, set_49, EVS]
      all_goals rfl
    · simp only [ge_d, bytesOf_map, EVS]
  · rw [fold_clear]
    simp only [EVS, List.all_cons, List.all_nil]
    rfl
theorem fold_fire (n : Net) (m : List UInt8) (k : Nat) (t : Tr) (ht : n.trans[k]? = some t) : fireB n m k = if enB m t = true then fireM t m else none := by
  have hk := lt_of_some ht
  unfold fireB
  rw [if_pos (inB_iff.2 ⟨by omega, by omega⟩), Int.toNat_natCast, ht]
theorem p_i_fire (n : Net) (m : List UInt8) (k : Nat) (t : Tr) (hg : goodMark n m = true) (ht : n.trans[k]? = some t) (hf : TrFit t) : s_i_fire [eNt n, .str m, pI k] = some (.tup [.str (optS (fireB n m k)).1, pB (optS (fireB n m k)).2]) := by
  rw [fold_fire n m k t ht]
  have hlt := lt_of_some ht
  have hl : n.trans.length ≤ 24 := by unfold goodMark goodNet at hg; simp only [Bool.and_eq_true, decide_eq_true_eq] at hg; omega
  have hl1 := hf.pre
  have hl2 := hf.post
  unfold Fits at hl1 hl2
  have hp := good_tr hg ht
  have hm := places_le hg
  have hi : idxV (.lst (n.trans.map eTr)) (.int .i64 (k : Int)) = some (eTr t) := idx_map ht
  have g0 := p_i_within (k : Int) 0 ((n.trans.length : Int) - 1)
  have gi : inR (k : Int) 0 ((n.trans.length : Int) - 1) = true := inB_iff.2 ⟨by omega, by omega⟩
  rw [gi] at g0
  have gw : IntKind.i64.wrap ((n.trans.length : Int) - 1) = (n.trans.length : Int) - 1 := wrap_of (by omega) (by omega)
  have g1 := p_i_isEnabled t m hp.1 hf
  simp only [eTr] at g1
  show (fun x0 x1 x2 => s_i_fire [x0, x1, x2]) _ _ _ = _
  rw [sh_i_fire]
  simp only [eNt, gw, g0, hi, eTr, g1, List.drop_zero, EVS]
  cases hE : enB m t
  · simp only [EVS]; rfl
  simp only [convB_s m (by omega), hi, eTr, List.drop_zero, EVS]
  refine (congrArg (fun m : Option PV => m.bind fun r => if r.sc = true then some r else none) (foldLoop (R := PV) t.pre (fun (b : List UInt8) k => [.lst (b.map pU), pI (Int.ofNat k)]) (fun _ b => b.length = m.length) (fun (b : List UInt8) _ p => .inl (b.set p.toNat 48)) (fun b => some (.tup [.str (optS (markM t.post b)).1, pB (optS (markM t.post b)).2])) _ hl1 (fun b k p b' hb hx he => ?_) (fun again b k p hb hx => ?_) (fun again b hb => ?_) (b := m) rfl)).trans ?_
  · cases he; simpa using hb
  · have hk := lt_of_some hx
    have hi' : idxV (.lst (t.pre.map pI)) (.int .i64 (k : Int)) = some (pI p) := idx_map hx
    obtain ⟨h1, h2⟩ := hp.1 p (List.mem_of_getElem? hx)
    obtain ⟨j, rfl⟩ : ∃ j : Nat, p = j := ⟨p.toNat, by omega⟩
    have hj : j < b.length := by omega
    have hpl : plcV (b.map pU) (.int .i64 (j : Int)) = some (.int .i64 (j : Int)) := plc_at (by rw [List.length_map]; exact hj)
    simp only [lt_d hk, next_w hk hl1, hi', hpl, mapU_at hj, se_int, set_48, EVS]
  · have hi2 : idxV (.lst (n.trans.map eTr)) (.int .i64 (k : Int)) = some (eTr t) := hi
    simp only [ge_d, hi2, eTr, List.drop_succ_cons, List.drop_zero, EVS]
    refine (foldLoop (R := PV) t.post (fun (b : List UInt8) k => [.lst (b.map pU), pI (Int.ofNat k)]) (fun _ b => b.length = m.length) (fun (b : List UInt8) _ p => if (b.getD p.toNat 0 == 49) = true then .inr (some (.tup [.str [], pB false])) else .inl (b.set p.toNat 49)) (fun b => some (.tup [.str b, pB true])) _ hl2 (fun b k p b' hb hx he => ?_) (fun again b k p hb hx => ?_) (fun again b hb => ?_) (b := b) hb).trans (fold_mark _ _ _)
    · split at he
      · cases he
      · cases he; simpa using hb
    · have hk := lt_of_some hx
      have hi' : idxV (.lst (t.post.map pI)) (.int .i64 (k : Int)) = some (pI p) := idx_map hx
      obtain ⟨h1, h2⟩ := hp.2 p (List.mem_of_getElem? hx)
      obtain ⟨j, rfl⟩ : ∃ j : Nat, p = j := ⟨p.toNat, by omega⟩
      have hj : j < b.length := by omega
      have hpl : plcV (b.map pU) (.int .i64 (j : Int)) = some (.int .i64 (j : Int)) := plc_at (by rw [List.length_map]; exact hj)
      simp only [lt_d hk, next_w hk hl2, hi', hpl, mapU_at hj, se_int, set_49, by_49, EVS]
      cases c : (b.getD j 0 == 49) <;> simp only [hpl, mapU_at hj, se_int, set_49, EVS]
      all_goals rfl
    · simp only [ge_d, bytesOf_map, EVS]
  · rw [fold_clear]
    simp only [EVS, List.all_cons, List.all_nil]
    rfl
end Go.Proofs.YtnpbdphfjablbaaGreat

namespace Go.Proofs.YtnpbdphfjablbaaGreat
open Go.RowKit
set_option linter.unusedVariables false
set_option linter.unusedSimpArgs false
structure Mt (n : Net) (m : List UInt8) (k : Nat) (out0 out : List (List UInt8)) (i : Nat) : Prop where
  pre : ∃ s, out = out0 ++ s
  good : ∀ x ∈ out, goodMark n x = true
  len : out.length ≤ out0.length + i
theorem Mt.at {n : Net} {m : List UInt8} {k : Nat} {out0 out : List (List UInt8)} {i : Nat} (h : Mt n m k out0 out i) (h0 : out0[k]? = some m) : out[k]? = some m := by
  obtain ⟨s, rfl⟩ := h.pre
  rw [List.getElem?_append_left (lt_of_some h0), h0]
theorem Mt.step {n : Net} {m m' : List UInt8} {k : Nat} {out0 out : List (List UInt8)} {i : Nat} (h : Mt n m k out0 out i) (hg : goodMark n m' = true) : Mt n m k out0 (if m' ∈ out then out else out ++ [m']) (i + 1) := by
  obtain ⟨s, hs⟩ := h.pre
  split
  · exact ⟨⟨s, hs⟩, h.good, by have := h.len; omega⟩
  · refine ⟨⟨s ++ [m'], by rw [hs]; simp⟩, fun x hx => ?_, by have := h.len; simp; omega⟩
    rcases List.mem_append.1 hx with hx | hx
    · exact h.good x hx
    · rw [List.mem_singleton] at hx; subst hx; exact hg
theorem intS_plc {l : List Int} {k : Nat} {m : Int} (h : l[k]? = some m) : plcV (l.map pI) (.int .i64 (k : Int)) = some (.int .i64 (k : Int)) := plc_at (by rw [List.length_map]; exact lt_of_some h)
theorem intS_at {l : List Int} {k : Nat} {m : Int} (h : l[k]? = some m) : (l.map pI)[k]? = some (pI m) := by rw [List.getElem?_map, h]; rfl
end Go.Proofs.YtnpbdphfjablbaaGreat

namespace Go.Proofs.YtnpbdphfjablbaaGreat
open Go.RowKit
set_option linter.unusedVariables false
set_option linter.unusedSimpArgs false
/-! SIGNAL TRANSITION GRAPHS: validity. -/
theorem pv_5_2 (a b c d e : PV) : partV true 0 2 [a, b, c, d, e] = some (.agg [a, b]) := (Eq.refl _).trans (Eq.refl _)
def eLb (x : Lab) : PV := .agg [pI x.sig, pB x.up]
def sgP (x : Sig) : List UInt8 × Int := (x.name, x.kind)
def eStg (s : STG) : PV := .agg [pI s.net.places, .lst (s.net.trans.map eTr), .lst ((s.signals.map sgP).map eSig), .lst (s.labels.map eLb), .str s.start]
structure StgFit (s : STG) : Prop where
  net : NtFit s.net
  sigs : Fits (s.signals.map sgP)
  each : ∀ x ∈ s.signals.map sgP, Fits x.1
  labs : Fits s.labels
  start : Fits s.start
def labP (n : Int) (x : Lab) : Bool := inB x.sig 0 (n - 1) || (decide (x.sig = -1) && !x.up)
def stgP (s : STG) : Bool := (goodMark s.net s.start && (sigsP (s.signals.map sgP) && decide (s.labels.length = s.net.trans.length))) && s.labels.all (labP s.signals.length)
theorem p_r_l2Label (x : Lab) (n : Nat) (hn : n ≤ 9223372036854775807) : s_r_l2Label [eLb x, pI n] = some (pB (labP n x)) := by
  have g := p_r_l1In x.sig 0 ((n : Int) - 1)
  have gi : inB x.sig 0 ((n : Int) - 1) = (decide ((0 : Int) ≤ x.sig) && decide (x.sig ≤ (n : Int) - 1)) := rfl
  rw [← gi] at g
  have hw : IntKind.i64.wrap ((n : Int) - 1) = (n : Int) - 1 := wrap_of (by omega) (by omega)
  show (fun x0 x1 => s_r_l2Label [x0, x1]) _ _ = _
  rw [sh_r_l2Label]
  unfold labP
  simp only [eLb, hw, g, EVS]
  cases inB x.sig 0 ((n : Int) - 1) <;> simp only [EVS]
  rw [show Int.negSucc 0 = (-1 : Int) from rfl]
  cases decide (x.sig = -1) <;> simp only [EVS]
theorem p_r_l2Good (s : STG) (hs : StgFit s) : s_r_l2Good [eStg s] = some (pB (stgP s)) := by
  have hl := hs.labs
  unfold Fits at hl
  have hsl : s.signals.length ≤ 9223372036854775807 := by have := hs.sigs; unfold Fits at this; simpa using this
  have g1 := p_r_l1Good s.net hs.net
  have g2 := p_r_l2Signals (s.signals.map sgP) hs.sigs hs.each
  have g3 := p_r_l1Mark s.net s.start hs.start
  simp only [eNt] at g1 g3
  show (fun x0 => s_r_l2Good [x0]) _ = _
  rw [sh_r_l2Good]
  simp only [eStg, EVS]
  refine (congrArg (fun m : Option PV => m.bind fun r => if r.sc = true then some r else none) (rangeAll (R := PV) s.labels (fun _ x => labP s.signals.length x) (some (pB false)) (some (pB (goodMark s.net s.start && (sigsP (s.signals.map sgP) && decide (s.labels.length = s.net.trans.length))))) _ hl (fun again k x hx => ?_) (fun again => ?_))).trans ?_
  · have hk := lt_of_some hx
    have hi : idxV (.lst (s.labels.map eLb)) (.int .i64 (k : Int)) = some (eLb x) := idx_map hx
    have g := p_r_l2Label x s.signals.length hsl
    simp only [eLb] at g
    simp only [lt_d hk, next_w hk hl, hi, eLb, g, EVS]
    cases labP s.signals.length x <;> simp only [EVS]
  · have hd : decide ((s.labels.length : Int) = (s.net.trans.length : Int)) = decide (s.labels.length = s.net.trans.length) := by rw [Bool.eq_iff_iff]; simp only [decide_eq_true_eq]; omega
    unfold goodMark
    simp only [ge_d, hd, EVS]
    cases c1 : goodNet s.net <;> cases c2 : sigsP (s.signals.map sgP) <;> cases c3 : decide (s.labels.length = s.net.trans.length) <;> simp only [c1, c2, c3, hd, pv_5_2, g1, g2, g3, EVS]
  · rw [allK_all]
    unfold stgP
    cases s.labels.all (labP s.signals.length) <;> simp only [EVS] <;> rfl
theorem p_i_isEdge (x : Lab) (n : Nat) (hn : n ≤ 9223372036854775807) : s_i_isEdge [eLb x, pI n] = some (pB (labP n x)) := by
  have g := p_i_within x.sig 0 ((n : Int) - 1)
  have gi : inB x.sig 0 ((n : Int) - 1) = inR x.sig 0 ((n : Int) - 1) := rfl
  rw [← gi] at g
  have hw : IntKind.i64.wrap ((n : Int) - 1) = (n : Int) - 1 := wrap_of (by omega) (by omega)
  have he : eqV (some [(0, TD.int IntKind.i64), (1, TD.bool)]) TD.struct (.agg [pI x.sig, pB x.up]) (.agg [pI (-1), pB false]) = some (decide (x.sig = -1) && !x.up) := by
    rw [eqPin]; cases x.up <;> rfl
  show (fun x0 x1 => s_i_isEdge [x0, x1]) _ _ = _
  rw [sh_i_isEdge]
  unfold labP
  simp only [eLb, hw, g, EVS]
  cases inB x.sig 0 ((n : Int) - 1) <;> simp only [EVS]
  rw [show Int.negSucc 0 = (-1 : Int) from rfl]
  simp only [he, EVS]
theorem p_i_IsValidSTG_1 (x : Lab) (s : STG) (hs : StgFit s) : s_i_IsValidSTG_1 [eLb x, eStg s] = some (pB (!labP s.signals.length x)) := by
  have hsl : s.signals.length ≤ 9223372036854775807 := by have := hs.sigs; unfold Fits at this; simpa using this
  have g := p_i_isEdge x s.signals.length hsl
  simp only [eLb] at g
  show (fun x0 x1 => s_i_IsValidSTG_1 [x0, x1]) _ _ = _
  rw [sh_i_IsValidSTG_1]
  simp only [eLb, eStg, List.drop_succ_cons, List.drop_zero, List.length_map, g, EVS]
theorem p_g_slices_IndexFunc_Label__i_IsValidSTG_1 (s : STG) (hs : StgFit s) : s_g_slices_IndexFunc_Label__i_IsValidSTG_1 [.lst (s.labels.map eLb), .tup [eStg s]] = some (pI (ixf (fun x => !labP s.signals.length x) 0 s.labels)) := by
  show (fun x0 x1 => s_g_slices_IndexFunc_Label__i_IsValidSTG_1 [x0, x1]) _ _ = _
  rw [sh_g_slices_IndexFunc_Label__i_IsValidSTG_1]
  have hl := hs.labs
  unfold Fits at hl
  simp only [EVS]
  refine (congrArg (fun m : Option PV => m.bind fun r => if r.sc = true then some r else none) (rangeIx s.labels (fun x => !labP s.signals.length x) _ hl (fun again k a hb => ?_) (fun again => ?_))).trans ?_
  · have hk := lt_of_some hb
    have hi : idxV (.lst (s.labels.map eLb)) (.int .i64 (k : Int)) = some (eLb a) := idx_map hb
    have g := p_i_IsValidSTG_1 a s hs
    simp only [eLb, eStg] at g
    simp only [lt_d hk, next_w hk hl, hi, eLb, eStg, caps1, List.cons_append, List.nil_append, g, EVS]
  · simp only [ge_d, EVS]
    rfl
  · simp only [EVS]
theorem p_g_slices_ContainsFunc_Label__i_IsValidSTG_1 (s : STG) (hs : StgFit s) : s_g_slices_ContainsFunc_Label__i_IsValidSTG_1 [.lst (s.labels.map eLb), .tup [eStg s]] = some (pB (!s.labels.all (labP s.signals.length))) := by
  show (fun x0 x1 => s_g_slices_ContainsFunc_Label__i_IsValidSTG_1 [x0, x1]) _ _ = _
  rw [sh_g_slices_ContainsFunc_Label__i_IsValidSTG_1]
  simp only [p_g_slices_IndexFunc_Label__i_IsValidSTG_1 s hs, ixf_ge (fun x => !labP s.signals.length x) s.labels 0, Bool.not_not, allK_all, EVS]
theorem p_i_IsValidSTG (s : STG) (hs : StgFit s) : s_i_IsValidSTG [eStg s] = some (pB (stgP s)) := by
  have g1 := p_i_IsValidMarking s.net s.start hs.net hs.start
  have g2 := p_i_areSignals (s.signals.map sgP) hs.sigs hs.each
  rw [← sigs_eq] at g2
  have g3 := p_g_slices_ContainsFunc_Label__i_IsValidSTG_1 s hs
  have hd : decide ((s.labels.length : Int) = (s.net.trans.length : Int)) = decide (s.labels.length = s.net.trans.length) := by rw [Bool.eq_iff_iff]; simp only [decide_eq_true_eq]; omega
  simp only [eNt, eStg] at g1 g3
  show (fun x0 => s_i_IsValidSTG [x0]) _ = _
  rw [sh_i_IsValidSTG]
  unfold stgP
  simp only [eStg, List.drop_zero, EVS]
  cases c1 : goodMark s.net s.start <;> cases c2 : sigsP (s.signals.map sgP) <;> cases c3 : decide (s.labels.length = s.net.trans.length) <;> simp only [c1, c2, c3, hd, pv_5_2, g1, g2, g3, List.drop_zero, Bool.not_not, EVS]
end Go.Proofs.YtnpbdphfjablbaaGreat

namespace Go.Proofs.YtnpbdphfjablbaaGreat
open Go.RowKit
set_option linter.unusedVariables false
set_option linter.unusedSimpArgs false
section
variable {n : Net} {m m' : List UInt8} {k i : Nat} {z1 : Int → ESt → Option PV} {z2 : ESt → Option PV} {s : ESt} {t : Int}
end
/-- What holds within the firings of one marking. -/
structure Ms (n : Net) (s0 s : ESt) (i : Nat) : Prop where
  pre : ∃ a, s.marks = s0.marks ++ a
  good : ∀ x ∈ s.marks, goodMark n x = true
  len : s.marks.length ≤ 300
  mv : s.moves.length ≤ s0.moves.length + i
  by_ : s.by_.length ≤ s.marks.length
theorem Ms.at {n : Net} {s0 s : ESt} {i k : Nat} {m : List UInt8} (h : Ms n s0 s i) (h0 : s0.marks[k]? = some m) : s.marks[k]? = some m := by
  obtain ⟨a, ha⟩ := h.pre
  rw [ha, List.getElem?_append_left (lt_of_some h0), h0]
end Go.Proofs.YtnpbdphfjablbaaGreat

namespace Go.Proofs.YtnpbdphfjablbaaGreat
open Go.RowKit
set_option linter.unusedVariables false
set_option linter.unusedSimpArgs false
/-! CLOCKS: a mark, a time, and since when each transition is enabled. -/
def meetB (a b : List Int) : Bool := a.any fun x => b.any fun y => decide (y = x)
theorem meet_comm (a b : List Int) : meetB a b = meetB b a := by
  unfold meetB
  rw [Bool.eq_iff_iff]
  simp only [List.any_eq_true, decide_eq_true_eq]
  exact ⟨fun ⟨x, h1, y, h2, e⟩ => ⟨y, h2, x, h1, e.symm⟩, fun ⟨x, h1, y, h2, e⟩ => ⟨y, h2, x, h1, e.symm⟩⟩
structure Clk where
  mark : List UInt8
  now : Int
  since : List Int
def sinceGo (g : Nat → Tr → Int → Int) : Nat → List Tr → List Int → List Int
  | k, x :: r, s :: q => g k x s :: sinceGo g (k + 1) r q
  | _, _, _ => []
theorem sinceGo_len (g : Nat → Tr → Int → Int) : ∀ (r : List Tr) (q : List Int) (k : Nat), q.length = r.length → (sinceGo g k r q).length = r.length
  | [], [], k, _ => rfl
  | x :: r, s :: q, k, h => by
    unfold sinceGo
    simp only [List.length_cons] at h ⊢
    rw [sinceGo_len g r q (k + 1) (by omega)]
  | [], s :: q, k, h => by simp at h
  | x :: r, [], k, h => by simp at h
theorem sinceGo_at (g : Nat → Tr → Int → Int) : ∀ (r : List Tr) (q : List Int) (k i : Nat) (x : Tr) (s : Int), r[i]? = some x → q[i]? = some s → (sinceGo g k r q)[i]? = some (g (k + i) x s)
  | [], _, k, i, x, s, h, _ => by simp at h
  | y :: r, [], k, i, x, s, _, h => by simp at h
  | y :: r, z :: q, k, i, x, s, h1, h2 => by
    unfold sinceGo
    cases i with
    | zero => simp at h1 h2; subst h1 h2; rfl
    | succ i =>
      simp only [List.getElem?_cons_succ] at h1 h2 ⊢
      rw [sinceGo_at g r q (k + 1) i x s h1 h2, show k + 1 + i = k + (i + 1) by omega]
/-- What becomes of the time of transition k (x), where t (tr) has fired. -/
def sinceH (t : Nat) (tr : Tr) (at_ : Int) (k : Nat) (x : Tr) (s : Int) : Int := if s < 0 ∨ k = t ∨ meetB x.pre tr.pre = true then at_ else s
def sinceG (m' : List UInt8) (t : Nat) (tr : Tr) (at_ : Int) (k : Nat) (x : Tr) (s : Int) : Int := if enB m' x = true then sinceH t tr at_ k x s else -1
def clkNew (n : Net) (m : List UInt8) : Clk := ⟨m, 0, sinceGo (fun _ x _ => if enB m x = true then 0 else -1) 0 n.trans (List.replicate n.trans.length 0)⟩
def clkFire (n : Net) (c : Clk) (t : Nat) (at_ : Int) : Clk × Bool := match n.trans[t]? with
  | none => (c, false)
  | some tr => if enB c.mark tr = true then (match fireM tr c.mark with
    | none => (c, false)
    | some m' => (⟨m', at_, sinceGo (sinceG m' t tr at_) 0 n.trans c.since⟩, true)) else (c, false)
/-- A clock of a net: the times tell what is enabled; no time is over B. -/
structure ClkOk (n : Net) (B : Int) (c : Clk) : Prop where
  good : goodMark n c.mark = true
  len : c.since.length = n.trans.length
  en : ∀ (k : Nat) (x : Tr) (s : Int), n.trans[k]? = some x → c.since[k]? = some s → -1 ≤ s ∧ s ≤ B ∧ (0 ≤ s ↔ enB c.mark x = true)
  now : 0 ≤ c.now ∧ c.now ≤ B
theorem at_len {α β : Type} {a : List α} {b : List β} (h : a.length = b.length) {k : Nat} {x : α} (hx : a[k]? = some x) : ∃ y, b[k]? = some y := by
  have := lt_of_some hx
  exact ⟨b[k], List.getElem?_eq_getElem (by omega)⟩
theorem clkNew_ok {n : Net} {m : List UInt8} {B : Int} (hg : goodMark n m = true) (hB : 0 ≤ B) : ClkOk n B (clkNew n m) := by
  refine ⟨hg, sinceGo_len _ _ _ _ (by simp), fun k x s hx hs => ?_, ⟨Int.le_refl _, hB⟩⟩
  have hk := lt_of_some hx
  have := sinceGo_at (fun _ x _ => if enB m x = true then 0 else -1) n.trans (List.replicate n.trans.length 0) 0 k x 0 hx (by simp [hk])
  rw [show (clkNew n m).since = sinceGo (fun _ x _ => if enB m x = true then 0 else -1) 0 n.trans (List.replicate n.trans.length 0) from rfl, this] at hs
  cases hs
  show -1 ≤ (if enB m x = true then (0 : Int) else -1) ∧ _ ∧ (_ ↔ enB m x = true)
  cases enB m x
  · simp; omega
  · simp; omega
theorem clkFire_ok {n : Net} {c : Clk} {B B' : Int} {t : Nat} {at_ : Int} (h : ClkOk n B c) (h0 : 0 ≤ at_) (h1 : at_ ≤ B') (h2 : B ≤ B') : ClkOk n B' (clkFire n c t at_).1 := by
  have hw : ClkOk n B' c := ⟨h.good, h.len, fun k x s hx hs => by have := h.en k x s hx hs; exact ⟨this.1, by omega, this.2.2⟩, by have := h.now; omega⟩
  unfold clkFire
  cases ht : n.trans[t]? with
  | none => exact hw
  | some tr =>
    dsimp only
    by_cases he : enB c.mark tr = true
    · rw [if_pos he]
      cases hf : fireM tr c.mark with
      | none => exact hw
      | some m' =>
        dsimp only
        refine ⟨fireM_good h.good hf, sinceGo_len _ _ _ _ h.len, fun k x s hx hs => ?_, ⟨h0, h1⟩⟩
        obtain ⟨s0, hs0⟩ := at_len h.len.symm hx
        have e := sinceGo_at (sinceG m' t tr at_) n.trans c.since 0 k x s0 hx hs0
        rw [Nat.zero_add] at e
        have hs' : (sinceGo (sinceG m' t tr at_) 0 n.trans c.since)[k]? = some s := hs
        rw [e] at hs'
        cases hs'
        have hh := h.en k x s0 hx hs0
        show _ ∧ _ ∧ (_ ↔ enB m' x = true)
        unfold sinceG sinceH
        cases hE : enB m' x
        · simp; omega
        · simp only [if_true]
          split
          · simp; omega
          · rename_i hn
            have : ¬ s0 < 0 := fun h => hn (.inl h)
            simp; omega
    · rw [if_neg he]; exact hw
/-! the loops -/
theorem fold_since {R : Type} (g : Nat → Tr → Int → Int) (e : List Int → Option R) : ∀ (r : List Tr) (q a : List Int), q.length = r.length → foldGo (R := R) (fun (b : List Int) k x => .inl (b.set k (g k x (b.getD k 0)))) e a.length (a ++ q) r = e (a ++ sinceGo g a.length r q)
  | [], [], a, _ => rfl
  | [], s :: q, a, h => by simp at h
  | x :: r, [], a, h => by simp at h
  | x :: r, s :: q, a, h => by
    unfold foldGo sinceGo
    have e1 : (a ++ s :: q).set a.length (g a.length x ((a ++ s :: q).getD a.length 0)) = (a ++ [g a.length x s]) ++ q := by simp
    have := fold_since g e r q (a ++ [g a.length x s]) (by simpa using h)
    simp only [List.length_append, List.length_cons, List.length_nil, Nat.zero_add] at this
    dsimp only
    rw [e1, this]
    simp
theorem fold_some {R : Type} (m' : List UInt8) (f : Nat → Int) (g : Nat → Tr → Int → Int) (e : List Int → Option R) : ∀ (r : List Tr) (q a : List Int) (i : Nat), q.length = r.length → (∀ (j : Nat) (x : Tr) (s : Int), r[j]? = some x → q[j]? = some s → g (a.length + j) x s = if enB m' x = true then f (a.length + j) else -1) →
    foldGo (R := R) (fun (b : List Int) _ u => .inl (b.set u.toNat (f u.toNat))) e i (a ++ List.replicate r.length (-1)) (goEn m' a.length r) = e (a ++ sinceGo g a.length r q)
  | [], [], a, i, _, _ => by simp [goEn, foldGo, sinceGo]
  | [], s :: q, a, i, h, _ => by simp at h
  | x :: r, [], a, i, h, _ => by simp at h
  | x :: r, s :: q, a, i, h, hg => by
    have h0 := hg 0 x s rfl rfl
    rw [Nat.add_zero] at h0
    have hg' : ∀ v : Int, ∀ (j : Nat) (y : Tr) (z : Int), r[j]? = some y → q[j]? = some z → g ((a ++ [v]).length + j) y z = if enB m' y = true then f ((a ++ [v]).length + j) else -1 := fun v j y z h1 h2 => by
      have := hg (j + 1) y z h1 h2
      rw [List.length_append]
      show g (a.length + 1 + j) y z = if _ then f (a.length + 1 + j) else _
      rw [show a.length + 1 + j = a.length + (j + 1) by omega]
      exact this
    unfold goEn sinceGo
    rw [h0]
    by_cases c : enB m' x = true
    · rw [if_pos c, if_pos c]
      unfold foldGo
      dsimp only
      have e1 : (a ++ List.replicate (r.length + 1) (-1 : Int)).set (a.length : Int).toNat (f (a.length : Int).toNat) = (a ++ [f a.length]) ++ List.replicate r.length (-1) := by
        rw [Int.toNat_natCast]
        simp [List.replicate_succ]
      have := fold_some m' f g e r q (a ++ [f a.length]) (i + 1) (by simpa using h) (hg' _)
      simp only [List.length_append, List.length_cons, List.length_nil, Nat.zero_add] at this
      rw [List.length_cons, e1, this]
      simp
    · rw [if_neg c, if_neg c]
      have e1 : a ++ List.replicate (r.length + 1) (-1 : Int) = (a ++ [-1]) ++ List.replicate r.length (-1) := by simp [List.replicate_succ]
      have := fold_some m' f g e r q (a ++ [-1]) i (by simpa using h) (hg' _)
      simp only [List.length_append, List.length_cons, List.length_nil, Nat.zero_add] at this
      rw [List.length_cons, e1, this]
      simp
end Go.Proofs.YtnpbdphfjablbaaGreat

namespace Go.Proofs.YtnpbdphfjablbaaGreat
open Go.RowKit
set_option linter.unusedVariables false
set_option linter.unusedSimpArgs false
/-! DEADLINES; runs that are checked, runs that are drawn. -/
def dlStep (o : Option Int) (s hi : Int) : Option Int := match o with
  | none => if 0 ≤ s then some (s + hi) else none
  | some x => if 0 ≤ s ∧ s + hi < x then some (s + hi) else some x
def dlGo : Option Int → List Int → List Dl → Option Int
  | o, s :: q, d :: r => dlGo (dlStep o s d.high) q r
  | o, _, _ => o
def deadL (c : Clk) (l : List Dl) : Option Int := dlGo none c.since l
/-- Delays that are good ones. -/
def dlP (l : List Dl) : Bool := l.all fun d => (inB d.low 0 d.high) && decide (d.high ≤ 100)
theorem dlStep_in {o : Option Int} {s hi B : Int} (ho : ∀ x, o = some x → 0 ≤ x ∧ x ≤ B) (h1 : 0 ≤ hi) (h2 : s + hi ≤ B) : ∀ x, dlStep o s hi = some x → 0 ≤ x ∧ x ≤ B := by
  intro x hx
  unfold dlStep at hx
  cases o with
  | none =>
    dsimp only at hx
    split at hx
    · cases hx; omega
    · cases hx
  | some y =>
    have := ho y rfl
    dsimp only at hx
    split at hx
    · cases hx; omega
    · cases hx; exact this
theorem dlGo_in {B : Int} : ∀ (q : List Int) (r : List Dl) (o : Option Int), (∀ x, o = some x → 0 ≤ x ∧ x ≤ B) → (∀ s ∈ q, s + 100 ≤ B) → dlP r = true → ∀ x, dlGo o q r = some x → 0 ≤ x ∧ x ≤ B
  | [], r, o, ho, _, _, x, hx => by unfold dlGo at hx; exact ho x hx
  | s :: q, [], o, ho, _, _, x, hx => by unfold dlGo at hx; exact ho x hx
  | s :: q, d :: r, o, ho, hq, hr, x, hx => by
    unfold dlGo at hx
    unfold dlP at hr
    rw [List.all_cons, Bool.and_eq_true, Bool.and_eq_true, decide_eq_true_eq] at hr
    have hd := inB_iff.1 hr.1.1
    have := hq s (List.mem_cons_self ..)
    exact dlGo_in q r _ (dlStep_in ho (by omega) (by omega)) (fun s hs => hq s (List.mem_cons_of_mem _ hs)) hr.2 x hx
theorem since_mem {n : Net} {B : Int} {c : Clk} (h : ClkOk n B c) : ∀ s ∈ c.since, -1 ≤ s ∧ s ≤ B := by
  intro s hs
  obtain ⟨k, hk⟩ := List.mem_iff_getElem?.1 hs
  obtain ⟨x, hx⟩ := at_len h.len hk
  have := h.en k x s hx hk
  exact ⟨this.1, this.2.1⟩
theorem deadL_in {n : Net} {B : Int} {c : Clk} {l : List Dl} (h : ClkOk n B c) (hl : dlP l = true) : ∀ x, deadL c l = some x → 0 ≤ x ∧ x ≤ B + 100 :=
  dlGo_in c.since l none (fun x h => by cases h) (fun s hs => by have := since_mem h s hs; omega) hl
theorem dlStep_none {o : Option Int} {s hi : Int} (h : dlStep o s hi = none) : o = none ∧ s < 0 := by
  unfold dlStep at h
  cases o with
  | none =>
    dsimp only at h
    split at h
    · cases h
    · exact ⟨rfl, by omega⟩
  | some y =>
    dsimp only at h
    split at h <;> cases h
theorem dlGo_none : ∀ (q : List Int) (r : List Dl) (o : Option Int), q.length = r.length → dlGo o q r = none → o = none ∧ ∀ s ∈ q, s < 0
  | [], r, o, _, h => by unfold dlGo at h; exact ⟨h, fun s hs => by cases hs⟩
  | s :: q, [], o, hl, _ => by simp at hl
  | s :: q, d :: r, o, hl, h => by
    unfold dlGo at h
    obtain ⟨h1, h2⟩ := dlGo_none q r _ (by simpa using hl) h
    obtain ⟨h3, h4⟩ := dlStep_none h1
    exact ⟨h3, fun x hx => by rcases List.mem_cons.1 hx with rfl | hx; exact h4; exact h2 x hx⟩
/-- The earliest time of transition k. -/
def early (c : Clk) (l : List Dl) (k : Nat) : Int := max (c.since.getD k 0 + (l.getD k ⟨0, 0⟩).low) c.now
/-- Transitions that may fire within the deadline d. -/
def readyGo (c : Clk) (l : List Dl) (d : Int) : Nat → List Int → List Nat
  | _, [] => []
  | k, s :: q => if 0 ≤ s ∧ early c l k ≤ d then k :: readyGo c l d (k + 1) q else readyGo c l d (k + 1) q
def readyL (c : Clk) (l : List Dl) (d : Int) : List Nat := readyGo c l d 0 c.since
theorem readyGo_mem (c : Clk) (l : List Dl) (d : Int) : ∀ (q : List Int) (k : Nat) (x : Nat), x ∈ readyGo c l d k q → ∃ j s, x = k + j ∧ q[j]? = some s ∧ 0 ≤ s ∧ early c l x ≤ d
  | [], k, x, h => by simp [readyGo] at h
  | s :: q, k, x, h => by
    unfold readyGo at h
    split at h
    · rename_i hc
      rcases List.mem_cons.1 h with rfl | h
      · exact ⟨0, s, rfl, rfl, hc.1, hc.2⟩
      · obtain ⟨j, y, e, h1, h2, h3⟩ := readyGo_mem c l d q (k + 1) x h
        exact ⟨j + 1, y, by omega, by simpa using h1, h2, h3⟩
    · obtain ⟨j, y, e, h1, h2, h3⟩ := readyGo_mem c l d q (k + 1) x h
      exact ⟨j + 1, y, by omega, by simpa using h1, h2, h3⟩
theorem readyL_mem {c : Clk} {l : List Dl} {d : Int} {x : Nat} (h : x ∈ readyL c l d) : ∃ s, c.since[x]? = some s ∧ 0 ≤ s ∧ early c l x ≤ d := by
  obtain ⟨j, s, e, h1, h2, h3⟩ := readyGo_mem c l d c.since 0 x h
  obtain rfl : x = j := by omega
  exact ⟨s, h1, h2, h3⟩
theorem readyGo_len (c : Clk) (l : List Dl) (d : Int) : ∀ (q : List Int) (k : Nat), (readyGo c l d k q).length ≤ q.length
  | [], k => by simp [readyGo]
  | s :: q, k => by
    unfold readyGo
    have := readyGo_len c l d q (k + 1)
    split <;> simp <;> omega
/-- What a draw picks: the transition, and its time. -/
def pickF (c : Clk) (l : List Dl) (w : Int) : Option (Nat × Int) := match deadL c l with
  | none => none
  | some d => match (readyL c l d)[w.toNat % (readyL c l d).length]? with
    | none => none
    | some t => some (t, early c l t + w % (d - early c l t + 1))
def simGo (n : Net) (l : List Dl) : Clk → List TF → List Int → Clk × List TF
  | c, run, [] => (c, run)
  | c, run, w :: r => match pickF c l w with
    | none => (c, run)
    | some (t, a) => if (clkFire n c t a).2 = true then simGo n l (clkFire n c t a).1 (run ++ [⟨a, (t : Int)⟩]) r else (c, run)
theorem early_in {n : Net} {B : Int} {c : Clk} {l : List Dl} {k : Nat} (h : ClkOk n B c) (hl : dlP l = true) : 0 ≤ early c l k ∧ early c l k ≤ B + 100 := by
  have hn := h.now
  unfold early
  have h1 : c.since.getD k 0 ≤ B := by
    rw [List.getD_eq_getElem?_getD]
    cases hk : c.since[k]? with
    | none => simp; omega
    | some s => exact (since_mem h s (List.mem_of_getElem? hk)).2
  have h2 : (l.getD k ⟨0, 0⟩).low ≤ 100 := by
    rw [List.getD_eq_getElem?_getD]
    cases hk : l[k]? with
    | none => simp
    | some d =>
      unfold dlP at hl
      have := List.all_eq_true.1 hl d (List.mem_of_getElem? hk)
      rw [Bool.and_eq_true, decide_eq_true_eq] at this
      have h3 := inB_iff.1 this.1
      show d.low ≤ 100
      omega
  omega
theorem pickF_in {n : Net} {B : Int} {c : Clk} {l : List Dl} {w : Int} {t : Nat} {a : Int} (h : ClkOk n B c) (hl : dlP l = true) (hw : 0 ≤ w) (hp : pickF c l w = some (t, a)) : ∃ s d, c.since[t]? = some s ∧ 0 ≤ s ∧ deadL c l = some d ∧ early c l t ≤ a ∧ a ≤ d ∧ d ≤ B + 100 := by
  unfold pickF at hp
  cases hd : deadL c l with
  | none => rw [hd] at hp; cases hp
  | some d =>
    rw [hd] at hp
    dsimp only at hp
    cases ht : (readyL c l d)[w.toNat % (readyL c l d).length]? with
    | none => rw [ht] at hp; cases hp
    | some t' =>
      rw [ht] at hp
      cases hp
      obtain ⟨s, h1, h2, h3⟩ := readyL_mem (List.mem_of_getElem? ht)
      have h4 := Int.emod_nonneg w (b := d - early c l t + 1) (by omega)
      have h5 := Int.emod_lt_of_pos w (b := d - early c l t + 1) (by omega)
      exact ⟨s, d, h1, h2, rfl, by omega, by omega, (deadL_in h hl d hd).2⟩
end Go.Proofs.YtnpbdphfjablbaaGreat

namespace Go.Proofs.YtnpbdphfjablbaaGreat
open Go.RowKit
set_option linter.unusedVariables false
set_option linter.unusedSimpArgs false
/-! CLOCKS of the program and of the reference. -/
def eDl (d : Dl) : PV := .agg [pI d.low, pI d.high]
def eTF (x : TF) : PV := .agg [pI x.at_, pI x.t]
def eCk (s : STG) (c : Clk) : PV := .agg [pI s.net.places, .lst (s.net.trans.map eTr), .lst ((s.signals.map sgP).map eSig), .lst (s.labels.map eLb), .str s.start, .str c.mark, pI c.now, .lst (c.since.map pI)]
def eCr (n : Net) (c : Clk) : PV := .agg [pI n.places, .lst (n.trans.map eTr), .str c.mark, pI c.now, .lst (c.since.map pI)]
theorem two2 (a b : PV) : asTwo (.tup [a, b]) = some (a, b) := (Eq.refl _).trans (Eq.refl _)
theorem trans_le {n : Net} {m : List UInt8} (hg : goodMark n m = true) : n.trans.length ≤ 24 := by
  unfold goodMark goodNet at hg; simp only [Bool.and_eq_true, decide_eq_true_eq] at hg; omega
theorem has_any (l : List Int) (x : Int) : (!allK (fun _ y => !decide (y = x)) 0 l) = l.any fun y => decide (y = x) := by
  rw [allK_all, List.not_all_eq_any_not]; simp
theorem p_r_l1Has (l : List Int) (x : Int) (hl : Fits l) : s_r_l1Has [.lst (l.map pI), pI x] = some (pB (l.any fun y => decide (y = x))) := by
  unfold Fits at hl
  show (fun x0 x1 => s_r_l1Has [x0, x1]) _ _ = _
  rw [sh_r_l1Has, ← has_any]
  simp only [EVS]
  refine (congrArg (fun m : Option PV => m.bind fun r => if r.sc = true then some r else none) (rangeAll (R := PV) l (fun _ y => !decide (y = x)) (some (pB true)) (some (pB false)) _ hl (fun again k y hx => ?_) (fun again => ?_))).trans ?_
  · have hk := lt_of_some hx
    have hi : idxV (.lst (l.map pI)) (.int .i64 (k : Int)) = some (pI y) := idx_map hx
    simp only [lt_d hk, next_w hk hl, hi, EVS]
    cases decide (y = x) <;> simp only [EVS]
  · simp only [ge_d, EVS]
  · cases allK (fun _ y => !decide (y = x)) 0 l <;> simp only [EVS]
theorem meet_all (a b : List Int) : (!allK (fun _ x => !(b.any fun y => decide (y = x))) 0 a) = meetB a b := by
  rw [allK_all, List.not_all_eq_any_not]; simp [meetB]
theorem p_r_l1Meet (a b : List Int) (ha : Fits a) (hb : Fits b) : s_r_l1Meet [.lst (a.map pI), .lst (b.map pI)] = some (pB (meetB a b)) := by
  unfold Fits at ha
  show (fun x0 x1 => s_r_l1Meet [x0, x1]) _ _ = _
  rw [sh_r_l1Meet, ← meet_all]
  simp only [EVS]
  refine (congrArg (fun m : Option PV => m.bind fun r => if r.sc = true then some r else none) (rangeAll (R := PV) a (fun _ x => !(b.any fun y => decide (y = x))) (some (pB true)) (some (pB false)) _ ha (fun again k y hx => ?_) (fun again => ?_))).trans ?_
  · have hk := lt_of_some hx
    have hi : idxV (.lst (a.map pI)) (.int .i64 (k : Int)) = some (pI y) := idx_map hx
    have g := p_r_l1Has b y hb
    simp only [lt_d hk, next_w hk ha, hi, g, EVS]
    cases b.any (fun z => decide (z = y)) <;> simp only [EVS]
  · simp only [ge_d, EVS]
  · cases allK (fun _ x => !(b.any fun y => decide (y = x))) 0 a <;> simp only [EVS]
theorem p_g_slices_Index_int (l : List Int) (x : Int) (hl : Fits l) : s_g_slices_Index_int [.lst (l.map pI), pI x] = some (pI (ixf (fun y => decide (y = x)) 0 l)) := by
  unfold Fits at hl
  show (fun x0 x1 => s_g_slices_Index_int [x0, x1]) _ _ = _
  rw [sh_g_slices_Index_int]
  simp only [EVS]
  refine (congrArg (fun m : Option PV => m.bind fun r => if r.sc = true then some r else none) (rangeIx l (fun y => decide (y = x)) _ hl (fun again k y hx => ?_) (fun again => ?_))).trans ?_
  · have hk := lt_of_some hx
    have hi : idxV (.lst (l.map pI)) (.int .i64 (k : Int)) = some (pI y) := idx_map hx
    have hd : decide (x = y) = decide (y = x) := by rw [Bool.eq_iff_iff]; simp only [decide_eq_true_eq]; exact eq_comm
    simp only [lt_d hk, next_w hk hl, hi, hd, EVS]
  · simp only [ge_d, EVS]
    rfl
  · simp only [EVS]
theorem p_g_slices_Contains_int (l : List Int) (x : Int) (hl : Fits l) : s_g_slices_Contains_int [.lst (l.map pI), pI x] = some (pB (l.any fun y => decide (y = x))) := by
  have g := p_g_slices_Index_int l x hl
  have e : (!l.all fun y => !decide (y = x)) = l.any (fun y => decide (y = x)) := by rw [List.not_all_eq_any_not]; simp
  show (fun x0 x1 => s_g_slices_Contains_int [x0, x1]) _ _ = _
  rw [sh_g_slices_Contains_int]
  simp only [g, ixf_ge (fun y => decide (y = x)) l 0, allK_all, e, EVS]
theorem p_i_share_1 (k : Int) (b : List Int) (hb : Fits b) : s_i_share_1 [pI k, .agg [.lst (b.map pI)]] = some (pB (b.any fun y => decide (y = k))) := by
  have g := p_g_slices_Contains_int b k hb
  show (fun x0 x1 => s_i_share_1 [x0, x1]) _ _ = _
  rw [sh_i_share_1]
  simp only [g, EVS]
theorem p_g_slices_IndexFunc_int__i_share_1 (l b : List Int) (hl : Fits l) (hb : Fits b) : s_g_slices_IndexFunc_int__i_share_1 [.lst (l.map pI), .tup [.agg [.lst (b.map pI)]]] = some (pI (ixf (fun x => b.any fun y => decide (y = x)) 0 l)) := by
  show (fun x0 x1 => s_g_slices_IndexFunc_int__i_share_1 [x0, x1]) _ _ = _
  rw [sh_g_slices_IndexFunc_int__i_share_1]
  unfold Fits at hl
  simp only [EVS]
  refine (congrArg (fun m : Option PV => m.bind fun r => if r.sc = true then some r else none) (rangeIx l (fun x => b.any fun y => decide (y = x)) _ hl (fun again k a hx => ?_) (fun again => ?_))).trans ?_
  · have hk := lt_of_some hx
    have hi : idxV (.lst (l.map pI)) (.int .i64 (k : Int)) = some (pI a) := idx_map hx
    have g := p_i_share_1 a b hb
    simp only [lt_d hk, next_w hk hl, hi, caps1, List.cons_append, List.nil_append, g, EVS]
  · simp only [ge_d, EVS]
    rfl
  · simp only [EVS]
theorem p_i_share (a b : List Int) (ha : Fits a) (hb : Fits b) : s_i_share [.lst (a.map pI), .lst (b.map pI)] = some (pB (meetB a b)) := by
  have g0 := p_g_slices_IndexFunc_int__i_share_1 a b ha hb
  have g : s_g_slices_ContainsFunc_int__i_share_1 [.lst (a.map pI), .tup [.agg [.lst (b.map pI)]]] = some (pB (meetB a b)) := by
    have e : (!a.all fun x => !(b.any fun y => decide (y = x))) = meetB a b := by rw [List.not_all_eq_any_not]; simp [meetB]
    show (fun x0 x1 => s_g_slices_ContainsFunc_int__i_share_1 [x0, x1]) _ _ = _
    rw [sh_g_slices_ContainsFunc_int__i_share_1]
    simp only [g0, ixf_ge (fun x : Int => b.any fun y => decide (y = x)) a 0, allK_all, e, EVS]
  show (fun x0 x1 => s_i_share [x0, x1]) _ _ = _
  rw [sh_i_share]
  simp only [List.drop_zero, g, EVS]
end Go.Proofs.YtnpbdphfjablbaaGreat

namespace Go.Proofs.YtnpbdphfjablbaaGreat
open Go.RowKit
set_option linter.unusedVariables false
set_option linter.unusedSimpArgs false
theorem rep_int (v : Int) (n : Nat) (hv : -9223372036854775808 ≤ v ∧ v ≤ 9223372036854775807) (hn : n ≤ 1048576) : s_g_slices_Repeat_int [.lst [.int .i64 v], .int .i64 (n : Int)] = some (.lst ((List.replicate n v).map pI)) := by
  show (if _ then _ else _) = _
  rw [if_pos ⟨hv.1, hv.2, by omega, by omega⟩, Int.toNat_natCast]
theorem stgP_good {s : STG} (h : stgP s = true) : goodMark s.net s.start = true ∧ s.labels.length = s.net.trans.length := by
  unfold stgP at h; simp only [Bool.and_eq_true, decide_eq_true_eq] at h; exact ⟨h.1.1, h.1.2.2⟩
theorem spl8 (a b c d e f g h a' b' c' d' e' m' s' : PV) : splice (splice (splice [a, b, c, d, e, f, g, h] 0 [a', b', c', d', e']) 5 [m']) 7 [s'] = [a', b', c', d', e', m', g, s'] := rfl
theorem spl5b (a b c d e a' b' m' s' : PV) : splice (splice (splice [a, b, c, d, e] 0 [a', b']) 2 [m']) 4 [s'] = [a', b', m', d, s'] := rfl
theorem zpI : zeroPV (TI.mk 1 8 (TD.int .i64) [ZC.int .i64] [] false) = pI 0 := rfl
theorem pv_5_5 (a b c d e : PV) : partV true 0 5 [a, b, c, d, e] = some (.agg [a, b, c, d, e]) := rfl
theorem set_pI (l : List Int) (k : Nat) (x : Int) : (l.map pI).set k (.int .i64 x) = (l.set k x).map pI := set_map pI l k x
theorem set_m1 (l : List Int) (k : Nat) : (l.map pI).set k (.int .i64 (Int.negSucc 0)) = (l.set k (-1)).map pI := by rw [show Int.negSucc 0 = (-1 : Int) from rfl]; exact set_map pI l k (-1)
theorem pI_at {l : List Int} {k : Nat} (h : k < l.length) : (l.map pI)[k]? = some (pI (l.getD k 0)) := by
  rw [List.getElem?_map, List.getD_eq_getElem?_getD, List.getElem?_eq_getElem h]; rfl
theorem p_r_l23New (s : STG) (hs : StgFit s) (hg : goodMark s.net s.start = true) : s_r_l23New [eStg s] = some (eCr s.net (clkNew s.net s.start)) := by
  have hl := trans_le hg
  have hn := hs.net
  show (fun x0 => s_r_l23New [x0]) _ = _
  rw [sh_r_l23New]
  simp only [eStg, pv_5_2, mk_v _ _ (show s.net.trans.length ≤ 4294967296 by omega), spl5b, zpI, EVS]
  have hrep : List.replicate s.net.trans.length (pI 0) = (List.replicate s.net.trans.length (0 : Int)).map pI := by rw [List.map_replicate]
  rw [hrep]
  simp only [List.length_map, List.length_replicate]
  refine (foldLoop (R := PV) s.net.trans (fun (b : List Int) k => [eCr s.net ⟨s.start, 0, b⟩, pI (Int.ofNat k)]) (fun _ b => b.length = s.net.trans.length) (fun b k t => .inl (b.set k (if enB s.start t = true then 0 else -1))) (fun b => some (eCr s.net ⟨s.start, 0, b⟩)) _ (by omega) (fun b k t b' hb hx he => ?_) (fun again b k t hb hx => ?_) (fun again b hb => ?_) (b := List.replicate s.net.trans.length 0) (by simp)).trans ?_
  · cases he; simpa using hb
  · have hk := lt_of_some hx
    have g := p_r_l1Ready s.net s.start k t hg hx (hn.each t (List.mem_of_getElem? hx))
    simp only [eNt] at g
    have hpl : plcV (b.map pI) (.int .i64 (k : Int)) = some (.int .i64 (k : Int)) := plc_at (by rw [List.length_map]; omega)
    have hpl2 : plcV ((b.set k (-1)).map pI) (.int .i64 (k : Int)) = some (.int .i64 (k : Int)) := plc_at (by rw [List.length_map, List.length_set]; omega)
    have hat := pI_at (l := b) (k := k) (by omega)
    have hat2 := pI_at (l := b.set k (-1)) (k := k) (by rw [List.length_set]; omega)
    simp only [eCr, List.length_map, hb, lt_d hk, hpl, hat, se_int, set_m1, pv_5_2, g, EVS]
    cases enB s.start t <;> simp only [next_w hk (show s.net.trans.length ≤ 9223372036854775807 by omega), hpl2, hat2, se_int, set_pI, List.set_set, EVS]
  · simp only [eCr, ge_d, EVS]
  · have := fold_since (R := PV) (fun _ x _ => if enB s.start x = true then 0 else -1) (fun b => some (eCr s.net ⟨s.start, 0, b⟩)) s.net.trans (List.replicate s.net.trans.length 0) [] (by simp)
    exact this
theorem fold_new {R : Type} (m : List UInt8) (e : List Int → Option R) (n : Net) : foldGo (R := R) (fun (b : List Int) _ u => .inl (b.set u.toNat 0)) e 0 (List.replicate n.trans.length (-1)) (enL n m) = e (clkNew n m).since := by
  have := fold_some (R := R) m (fun _ => 0) (fun _ x _ => if enB m x = true then 0 else -1) e n.trans (List.replicate n.trans.length 0) [] 0 (by simp) (fun j x s _ _ => rfl)
  simpa [enL, clkNew] using this
theorem p_i_newClock (s : STG) (hs : StgFit s) (hg : goodMark s.net s.start = true) (hlab : s.labels.length = s.net.trans.length) : s_i_newClock [eStg s] = some (eCk s (clkNew s.net s.start)) := by
  have hl := trans_le hg
  have hn := hs.net
  have hel := enL_length hg
  have g1 := rep_int (-1) s.net.trans.length (by constructor <;> omega) (by omega)
  have g2 := p_i_enabled s.net s.start hg hn
  simp only [eNt] at g2
  show (fun x0 => s_i_newClock [x0]) _ = _
  rw [sh_i_newClock]
  simp only [eStg, List.length_map, hlab, pv_5_5, pv_5_2, show Int.negSucc 0 = (-1 : Int) from rfl, g1, g2, spl8, EVS]
  refine (foldLoop (R := PV) (enL s.net s.start) (fun (b : List Int) k => [eCk s ⟨s.start, 0, b⟩, pI (Int.ofNat k)]) (fun _ b => b.length = s.net.trans.length) (fun b k u => .inl (b.set u.toNat 0)) (fun b => some (eCk s ⟨s.start, 0, b⟩)) _ (by omega) (fun b k t b' hb hx he => ?_) (fun again b k t hb hx => ?_) (fun again b hb => ?_) (b := List.replicate s.net.trans.length (-1)) (by simp)).trans ?_
  · cases he; simpa using hb
  · obtain ⟨j, x, rfl, hx', he', hf⟩ := enL_mem (List.mem_of_getElem? hx)
    have hk := lt_of_some hx
    have hj := lt_of_some hx'
    have hpl : plcV (b.map pI) (.int .i64 (j : Int)) = some (.int .i64 (j : Int)) := plc_at (by rw [List.length_map]; omega)
    have hat := pI_at (l := b) (k := j) (by omega)
    simp only [eCk, lt_d hk, intS_plc hx, intS_at hx, hpl, hat, se_int, set_pI, next_w hk (show (enL s.net s.start).length ≤ 9223372036854775807 by omega), EVS]
  · simp only [eCk, ge_d, EVS]
  · rw [fold_new]; rfl
end Go.Proofs.YtnpbdphfjablbaaGreat

namespace Go.Proofs.YtnpbdphfjablbaaGreat
open Go.RowKit
set_option linter.unusedVariables false
set_option linter.unusedSimpArgs false
theorem fold_dl {R : Type} (l : List Dl) (e : Option Int → Option R) : ∀ (q : List Int) (k : Nat) (o : Option Int), q.length = (l.drop k).length → foldGo (R := R) (fun (o : Option Int) k s => .inl (dlStep o s (l.getD k ⟨0, 0⟩).high)) e k o q = e (dlGo o q (l.drop k))
  | [], k, o, _ => by
    unfold foldGo
    cases l.drop k <;> rfl
  | s :: q, k, o, h => by
    unfold foldGo
    dsimp only
    have hk : k < l.length := by simp at h; omega
    rw [List.drop_eq_getElem_cons hk]
    unfold dlGo
    rw [fold_dl l e q (k + 1) _ (by simp at h ⊢; omega)]
    rw [List.getD_eq_getElem?_getD, List.getElem?_eq_getElem hk]; rfl
theorem dlP_at {l : List Dl} (h : dlP l = true) {k : Nat} {d : Dl} (hd : l[k]? = some d) : 0 ≤ d.low ∧ d.low ≤ d.high ∧ d.high ≤ 100 := by
  unfold dlP at h
  have := List.all_eq_true.1 h d (List.mem_of_getElem? hd)
  rw [Bool.and_eq_true, decide_eq_true_eq] at this
  have h2 := inB_iff.1 this.1
  omega
theorem p_i_clock_deadline (s : STG) (c : Clk) (l : List Dl) (B : Int) (hB : B ≤ 4611686018427387904) (hc : ClkOk s.net B c) (hl : dlP l = true) (hn : l.length = s.net.trans.length) :
    s_i_clock_deadline [eCk s c, .lst (l.map eDl)] = some (.tup [.tup [pI ((deadL c l).getD 0), pB (deadL c l).isSome], eCk s c]) := by
  have ht := trans_le hc.good
  have hcl := hc.len
  show (fun x0 x1 => s_i_clock_deadline [x0, x1]) _ _ = _
  rw [sh_i_clock_deadline]
  simp only [eCk, List.length_map, EVS]
  refine (foldLoop (R := PV) c.since (fun (o : Option Int) k => [pB o.isSome, pI (o.getD 0), pI (Int.ofNat k)]) (fun _ o => ∀ x, o = some x → 0 ≤ x ∧ x ≤ B + 100) (fun o k s => .inl (dlStep o s (l.getD k ⟨0, 0⟩).high)) (fun o => some (.tup [.tup [pI (o.getD 0), pB o.isSome], eCk s c])) _ (by omega) (fun o k x o' ho hx he => ?_) (fun again o k x ho hx => ?_) (fun again o ho => ?_) (b := none) (fun x h => by cases h)).trans ?_
  · cases he
    have hk := lt_of_some hx
    obtain ⟨d, hd⟩ : ∃ d, l[k]? = some d := ⟨l[k]'(by omega), List.getElem?_eq_getElem (by omega)⟩
    have h1 := dlP_at hl hd
    have h2 := since_mem hc x (List.mem_of_getElem? hx)
    rw [List.getD_eq_getElem?_getD, hd]
    exact dlStep_in ho (by show (0 : Int) ≤ d.high; omega) (by show x + d.high ≤ B + 100; omega)
  · have hk := lt_of_some hx
    obtain ⟨d, hd⟩ : ∃ d, l[k]? = some d := ⟨l[k]'(by omega), List.getElem?_eq_getElem (by omega)⟩
    have h1 := dlP_at hl hd
    have h2 := since_mem hc x (List.mem_of_getElem? hx)
    have hi : idxV (.lst (l.map eDl)) (.int .i64 (k : Int)) = some (eDl d) := idx_map hd
    have hpl : plcV (c.since.map pI) (.int .i64 (k : Int)) = some (.int .i64 (k : Int)) := intS_plc hx
    have hat := intS_at hx
    have hw : IntKind.i64.wrap (x + d.high) = x + d.high := wrap_of (by omega) (by omega)
    have hg : l.getD k ⟨0, 0⟩ = d := by rw [List.getD_eq_getElem?_getD, hd]; rfl
    simp only [lt_d hk, hpl, hat, hi, eDl, hg, hw, List.drop_succ_cons, List.drop_zero, EVS]
    have hnw := next_w hk (show c.since.length ≤ 9223372036854775807 by omega)
    by_cases c1 : 0 ≤ x
    · cases o with
      | none => simp only [c1, hi, eDl, hw, hnw, dlStep, List.drop_succ_cons, List.drop_zero, Option.isSome_none, Option.isSome_some, Option.getD_some, if_true, EVS]
      | some y =>
        have := ho y rfl
        by_cases c2 : x + d.high < y
        · simp only [c1, c2, hi, eDl, hw, hnw, dlStep, List.drop_succ_cons, List.drop_zero, Option.isSome_none, Option.isSome_some, Option.getD_some, and_self, if_true, EVS]
        · simp only [c1, c2, hi, eDl, hw, hnw, dlStep, List.drop_succ_cons, List.drop_zero, Option.isSome_none, Option.isSome_some, Option.getD_some, and_false, if_false, EVS]
    · have e : dlStep o x d.high = o := by unfold dlStep; cases o <;> simp [c1]
      simp only [c1, e, hnw, EVS]
  · simp only [ge_d, eCk, EVS]
  · have := fold_dl (R := PV) l (fun o => some (.tup [.tup [pI (o.getD 0), pB o.isSome], eCk s c])) c.since 0 none (by rw [List.drop_zero]; omega)
    rw [List.drop_zero] at this
    exact this
theorem p_r_l23C_last (n : Net) (c : Clk) (l : List Dl) (B : Int) (hB : B ≤ 4611686018427387904) (hc : ClkOk n B c) (hl : dlP l = true) (hn : l.length = n.trans.length) :
    s_r_l23C_last [eCr n c, .lst (l.map eDl)] = some (.tup [pI ((deadL c l).getD (-1)), eCr n c]) := by
  have ht := trans_le hc.good
  have hcl := hc.len
  show (fun x0 x1 => s_r_l23C_last [x0, x1]) _ _ = _
  rw [sh_r_l23C_last]
  simp only [eCr, List.length_map, show Int.negSucc 0 = (-1 : Int) from rfl, EVS]
  refine (foldLoop (R := PV) c.since (fun (o : Option Int) k => [pI (o.getD (-1)), pI (Int.ofNat k)]) (fun _ o => ∀ x, o = some x → 0 ≤ x ∧ x ≤ B + 100) (fun o k s => .inl (dlStep o s (l.getD k ⟨0, 0⟩).high)) (fun o => some (.tup [pI (o.getD (-1)), eCr n c])) _ (by omega) (fun o k x o' ho hx he => ?_) (fun again o k x ho hx => ?_) (fun again o ho => ?_) (b := none) (fun x h => by cases h)).trans ?_
  · cases he
    have hk := lt_of_some hx
    obtain ⟨d, hd⟩ : ∃ d, l[k]? = some d := ⟨l[k]'(by omega), List.getElem?_eq_getElem (by omega)⟩
    have h1 := dlP_at hl hd
    have h2 := since_mem hc x (List.mem_of_getElem? hx)
    rw [List.getD_eq_getElem?_getD, hd]
    exact dlStep_in ho (by show (0 : Int) ≤ d.high; omega) (by show x + d.high ≤ B + 100; omega)
  · have hk := lt_of_some hx
    obtain ⟨d, hd⟩ : ∃ d, l[k]? = some d := ⟨l[k]'(by omega), List.getElem?_eq_getElem (by omega)⟩
    have h1 := dlP_at hl hd
    have h2 := since_mem hc x (List.mem_of_getElem? hx)
    have hi : idxV (.lst (l.map eDl)) (.int .i64 (k : Int)) = some (eDl d) := idx_map hd
    have hpl : plcV (c.since.map pI) (.int .i64 (k : Int)) = some (.int .i64 (k : Int)) := intS_plc hx
    have hat := intS_at hx
    have hw : IntKind.i64.wrap (x + d.high) = x + d.high := wrap_of (by omega) (by omega)
    have hg : l.getD k ⟨0, 0⟩ = d := by rw [List.getD_eq_getElem?_getD, hd]; rfl
    simp only [lt_d hk, hpl, hat, hi, eDl, hg, hw, List.drop_succ_cons, List.drop_zero, EVS]
    have hnw := next_w hk (show c.since.length ≤ 9223372036854775807 by omega)
    by_cases c1 : 0 ≤ x
    · cases o with
      | none => simp only [c1, hi, eDl, hw, hnw, dlStep, show decide ((-1 : Int) < 0) = true from rfl, List.drop_succ_cons, List.drop_zero, Option.getD_none, Option.getD_some, if_true, EVS]
      | some y =>
        have hy := ho y rfl
        have c3 : decide (y < 0) = false := by simp only [decide_eq_false_iff_not]; omega
        by_cases c2 : x + d.high < y
        · simp only [c1, c2, c3, hi, eDl, hw, hnw, dlStep, List.drop_succ_cons, List.drop_zero, Option.getD_some, and_self, if_true, EVS]
        · simp only [c1, c2, c3, hi, eDl, hw, hnw, dlStep, List.drop_succ_cons, List.drop_zero, Option.getD_some, and_false, if_false, EVS]
    · have e : dlStep o x d.high = o := by unfold dlStep; cases o <;> simp [c1]
      simp only [c1, e, hnw, EVS]
  · simp only [ge_d, eCr, EVS]
  · have := fold_dl (R := PV) l (fun o => some (.tup [pI (o.getD (-1)), eCr n c])) c.since 0 none (by rw [List.drop_zero]; omega)
    rw [List.drop_zero] at this
    exact this
theorem mx_max (a b : Int) : mxV true (.int .i64 a) (.int .i64 b) = some (.int .i64 (max a b)) := by
  have e : (if b > a then b else a) = max a b := by split <;> omega
  show (if IntKind.i64 = IntKind.i64 then some (PV.int .i64 (if true = true then (if b > a then b else a) else (if b < a then b else a))) else none) = _
  rw [if_pos rfl, if_pos rfl, e]
theorem p_i_clock_earliest (s : STG) (c : Clk) (l : List Dl) (k : Nat) (B : Int) (hB : B ≤ 4611686018427387904) (hc : ClkOk s.net B c) (hl : dlP l = true) (hn : l.length = s.net.trans.length) (hk : k < s.net.trans.length) :
    s_i_clock_earliest [eCk s c, pI k, .lst (l.map eDl)] = some (pI (early c l k)) := by
  have hcl := hc.len
  obtain ⟨d, hd⟩ : ∃ d, l[k]? = some d := ⟨l[k]'(by omega), List.getElem?_eq_getElem (by omega)⟩
  obtain ⟨x, hx⟩ : ∃ x, c.since[k]? = some x := ⟨c.since[k]'(by omega), List.getElem?_eq_getElem (by omega)⟩
  have h1 := dlP_at hl hd
  have h2 := since_mem hc x (List.mem_of_getElem? hx)
  have hi : idxV (.lst (l.map eDl)) (.int .i64 (k : Int)) = some (eDl d) := idx_map hd
  have hj : idxV (.lst (c.since.map pI)) (.int .i64 (k : Int)) = some (pI x) := idx_map hx
  have hw : IntKind.i64.wrap (x + d.low) = x + d.low := wrap_of (by omega) (by omega)
  have he : early c l k = max (x + d.low) c.now := by
    unfold early
    rw [List.getD_eq_getElem?_getD, List.getD_eq_getElem?_getD, hx, hd]; rfl
  show (fun x0 x1 x2 => s_i_clock_earliest [x0, x1, x2]) _ _ _ = _
  rw [sh_i_clock_earliest, he]
  simp only [eCk, hi, hj, eDl, hw, mx_max, List.drop_zero, List.drop_succ_cons, EVS]
end Go.Proofs.YtnpbdphfjablbaaGreat

namespace Go.Proofs.YtnpbdphfjablbaaGreat
open Go.RowKit
set_option linter.unusedVariables false
set_option linter.unusedSimpArgs false
theorem splmark (a b c d e x : PV) : splice [a, b, c, d, e] 2 [x] = [a, b, x, d, e] := rfl
theorem splnow (a b c d e x : PV) : splice [a, b, c, d, e] 3 [x] = [a, b, c, x, e] := rfl
theorem clkFire_no {n : Net} {c : Clk} {t : Nat} {a : Int} {tr : Tr} (ht : n.trans[t]? = some tr) (he : enB c.mark tr = true) (hf : fireM tr c.mark = none) : clkFire n c t a = (c, false) := by
  unfold clkFire; rw [ht]; dsimp only; rw [if_pos he, hf]
theorem clkFire_go {n : Net} {c : Clk} {t : Nat} {a : Int} {tr : Tr} {m' : List UInt8} (ht : n.trans[t]? = some tr) (he : enB c.mark tr = true) (hf : fireM tr c.mark = some m') : clkFire n c t a = (⟨m', a, sinceGo (sinceG m' t tr a) 0 n.trans c.since⟩, true) := by
  unfold clkFire; rw [ht]; dsimp only; rw [if_pos he, hf]
theorem clkFire_dis {n : Net} {c : Clk} {t : Nat} {a : Int} {tr : Tr} (ht : n.trans[t]? = some tr) (he : enB c.mark tr = false) : clkFire n c t a = (c, false) := by
  unfold clkFire; rw [ht]; dsimp only; rw [if_neg (by simp [he])]
theorem p_r_l23C_fire (n : Net) (c : Clk) (B : Int) (t : Nat) (a : Int) (tr : Tr) (hn : NtFit n) (hc : ClkOk n B c) (ht : n.trans[t]? = some tr) (he : enB c.mark tr = true) :
    s_r_l23C_fire [eCr n c, pI t, pI a] = some (.tup [pB (clkFire n c t a).2, eCr n (clkFire n c t a).1]) := by
  have hl := trans_le hc.good
  have hcl := hc.len
  have htl := lt_of_some ht
  have hft := hn.each tr (List.mem_of_getElem? ht)
  have g1 := p_r_l1Fire n c.mark t tr hc.good ht hft
  simp only [eNt] at g1
  have hit : idxV (.lst (n.trans.map eTr)) (.int .i64 (t : Int)) = some (eTr tr) := idx_map ht
  show (fun x0 x1 x2 => s_r_l23C_fire [x0, x1, x2]) _ _ _ = _
  rw [sh_r_l23C_fire]
  cases hf : fireM tr c.mark with
  | none => rw [hf] at g1; rw [clkFire_no ht he hf]; simp only [eCr, pv_5_2, g1, optS, EVS]
  | some m' =>
    have hg' := fireM_good hc.good hf
    rw [hf] at g1
    rw [clkFire_go ht he hf]
    simp only [eCr, pv_5_2, g1, optS, splmark, splnow, List.length_map, hcl, EVS]
    refine (foldLoop (R := PV) n.trans (fun (b : List Int) k => [eCr n ⟨m', a, b⟩, pI (Int.ofNat k)]) (fun _ b => b.length = n.trans.length) (fun b k x => .inl (b.set k (sinceG m' t tr a k x (b.getD k 0)))) (fun b => some (.tup [pB true, eCr n ⟨m', a, b⟩])) _ (by omega) (fun b k x b' hb hx he => ?_) (fun again b k x hb hx => ?_) (fun again b hb => ?_) (b := c.since) (by omega)).trans ?_
    · cases he; simpa using hb
    · have hk := lt_of_some hx
      have hfx := hn.each x (List.mem_of_getElem? hx)
      have g := p_r_l1Ready n m' k x hg' hx hfx
      simp only [eNt] at g
      have hpl : plcV (b.map pI) (.int .i64 (k : Int)) = some (.int .i64 (k : Int)) := plc_at (by rw [List.length_map]; omega)
      have hat := pI_at (l := b) (k := k) (by omega)
      have hix : idxV (.lst (n.trans.map eTr)) (.int .i64 (k : Int)) = some (eTr x) := idx_map hx
      have hnw := next_w hk (show n.trans.length ≤ 9223372036854775807 by omega)
      have g3 := p_r_l1Meet tr.pre x.pre hft.pre hfx.pre
      rw [meet_comm] at g3
      simp only [eCr, lt_d hk, pv_5_2, g, EVS]
      unfold sinceG sinceH
      cases hE : enB m' x
      · simp only [hpl, hat, se_int, set_m1, hnw, if_false, EVS]
      · simp only [if_true, EVS]
        have hkt : decide ((k : Int) = (t : Int)) = decide (k = t) := by rw [Bool.eq_iff_iff]; simp only [decide_eq_true_eq]; omega
        simp only [hkt, EVS]
        by_cases c1 : k = t
        · subst c1
          simp only [hpl, hat, se_int, set_pI, hnw, true_or, or_true, if_true, EVS]
        · by_cases c2 : b.getD k 0 < 0
          · simp only [c1, c2, hpl, hat, se_int, set_pI, hnw, true_or, or_true, if_true, EVS]
          · cases c3 : meetB x.pre tr.pre
            · rw [c3] at g3
              have hs : b.set k (b.getD k 0) = b := by
                apply List.ext_getElem?
                intro i
                rw [List.getElem?_set]
                split
                · rename_i e
                  subst e
                  rw [if_pos (by omega), List.getD_eq_getElem?_getD, List.getElem?_eq_getElem (by omega : k < b.length)]; rfl
                · rfl
              simp only [c1, c2, hpl, hat, hit, hix, eTr, g3, se_int, set_pI, hnw, or_self, if_false, hs, List.drop_succ_cons, List.drop_zero, EVS]
            · rw [c3] at g3
              simp only [c1, c2, hpl, hat, hit, hix, eTr, g3, se_int, set_pI, hnw, or_self, or_true, if_true, List.drop_succ_cons, List.drop_zero, EVS]
    · simp only [eCr, ge_d, EVS]
    · have := fold_since (R := PV) (sinceG m' t tr a) (fun b => some (.tup [pB true, eCr n ⟨m', a, b⟩])) n.trans c.since [] (by omega)
      exact this
end Go.Proofs.YtnpbdphfjablbaaGreat

namespace Go.Proofs.YtnpbdphfjablbaaGreat
open Go.RowKit
set_option linter.unusedVariables false
set_option linter.unusedSimpArgs false
theorem spl8m (a b c d e f g h x : PV) : splice [a, b, c, d, e, f, g, h] 5 [x] = [a, b, c, d, e, x, g, h] := rfl
theorem spl8n (a b c d e f g h x : PV) : splice [a, b, c, d, e, f, g, h] 6 [x] = [a, b, c, d, e, f, x, h] := rfl
theorem set8 (a b c d e f g h x : PV) : [a, b, c, d, e, f, g, h].set 7 x = [a, b, c, d, e, f, g, x] := rfl
theorem lt2 {R : Type} (a b : Bool) (x : Option R) : liveThen [.bool a, .bool b] x = x := rfl
theorem pv_8_2 (a b c d e f g h : PV) : partV true 0 2 [a, b, c, d, e, f, g, h] = some (.agg [a, b]) := rfl
theorem fold_fired {R : Type} (m' : List UInt8) (n : Net) (t : Nat) (tr : Tr) (a : Int) (since : List Int) (hl : since.length = n.trans.length) (e : List Int → Option R) : foldGo (R := R) (fun (b : List Int) _ u => .inl (b.set u.toNat (sinceH t tr a u.toNat (n.trans.getD u.toNat ⟨[], []⟩) (since.getD u.toNat 0)))) e 0 (List.replicate n.trans.length (-1)) (enL n m') = e (sinceGo (sinceG m' t tr a) 0 n.trans since) := by
  have := fold_some (R := R) m' (fun k => sinceH t tr a k (n.trans.getD k ⟨[], []⟩) (since.getD k 0)) (sinceG m' t tr a) e n.trans since [] 0 hl (fun j x s hx hs => by
    have e1 : n.trans.getD j ⟨[], []⟩ = x := by rw [List.getD_eq_getElem?_getD, hx]; rfl
    have e2 : since.getD j 0 = s := by rw [List.getD_eq_getElem?_getD, hs]; rfl
    simp only [List.length_nil, Nat.zero_add, e1, e2]
    rfl)
  simpa [enL] using this
theorem p_i_clock_fire (s : STG) (c : Clk) (B : Int) (t : Nat) (a : Int) (tr : Tr) (hs : StgFit s) (hc : ClkOk s.net B c) (ht : s.net.trans[t]? = some tr) :
    s_i_clock_fire [eCk s c, pI t, pI a] = some (.tup [pB (clkFire s.net c t a).2, eCk s (clkFire s.net c t a).1]) := by
  have hn := hs.net
  have hl := trans_le hc.good
  have hcl := hc.len
  have htl := lt_of_some ht
  have hft := hn.each tr (List.mem_of_getElem? ht)
  have g1 := p_i_fire s.net c.mark t tr hc.good ht hft
  rw [fold_fire s.net c.mark t tr ht] at g1
  simp only [eNt] at g1
  have hit : idxV (.lst (s.net.trans.map eTr)) (.int .i64 (t : Int)) = some (eTr tr) := idx_map ht
  show (fun x0 x1 x2 => s_i_clock_fire [x0, x1, x2]) _ _ _ = _
  rw [sh_i_clock_fire]
  cases he : enB c.mark tr
  · rw [he, if_neg (by simp)] at g1
    rw [clkFire_dis ht he]
    simp only [eCk, pv_8_2, g1, optS, EVS]
  rw [he, if_pos rfl] at g1
  cases hf : fireM tr c.mark with
  | none => rw [hf] at g1; rw [clkFire_no ht he hf]; simp only [eCk, pv_8_2, g1, optS, EVS]
  | some m' =>
    have hg' := fireM_good hc.good hf
    have hel := enL_length hg'
    rw [hf] at g1
    have g4 := p_i_enabled s.net m' hg' hn
    simp only [eNt] at g4
    have g5 := rep_int (-1) s.net.trans.length (by constructor <;> omega) (by omega)
    rw [clkFire_go ht he hf]
    simp only [eCk, pv_8_2, g1, g4, g5, optS, spl8m, spl8n, set8, List.length_map, hcl, show Int.negSucc 0 = (-1 : Int) from rfl, EVS]
    refine (foldLoop (R := PV) (enL s.net m') (fun (b : List Int) k => [.lst (b.map pI), pI (Int.ofNat k)]) (fun _ b => b.length = s.net.trans.length) (fun b k u => .inl (b.set u.toNat (sinceH t tr a u.toNat (s.net.trans.getD u.toNat ⟨[], []⟩) (c.since.getD u.toNat 0)))) (fun b => some (.tup [pB true, eCk s ⟨m', a, b⟩])) _ (by omega) (fun b k x b' hb hx he => ?_) (fun again b k x hb hx => ?_) (fun again b hb => ?_) (b := List.replicate s.net.trans.length (-1)) (by simp)).trans ?_
    · cases he; simpa using hb
    · obtain ⟨j, x, rfl, hx', he', hf'⟩ := enL_mem (List.mem_of_getElem? hx)
      have hk := lt_of_some hx
      have hj := lt_of_some hx'
      have hfx := hn.each x (List.mem_of_getElem? hx')
      have hpl : plcV (b.map pI) (.int .i64 (j : Int)) = some (.int .i64 (j : Int)) := plc_at (by rw [List.length_map]; omega)
      have hat := pI_at (l := b) (k := j) (by omega)
      have hpl1 : plcV (c.since.map pI) (.int .i64 (j : Int)) = some (.int .i64 (j : Int)) := plc_at (by rw [List.length_map]; omega)
      have hat1 := pI_at (l := c.since) (k := j) (by omega)
      have hpl2 : ∀ v, plcV ((b.set j v).map pI) (.int .i64 (j : Int)) = some (.int .i64 (j : Int)) := fun v => plc_at (by rw [List.length_map, List.length_set]; omega)
      have hat2 : ∀ v, ((b.set j v).map pI)[j]? = some (pI v) := fun v => by rw [List.getElem?_map, List.getElem?_set]; simp; omega
      have hix : idxV (.lst (s.net.trans.map eTr)) (.int .i64 (j : Int)) = some (eTr x) := idx_map hx'
      have hnw := next_w hk (show (enL s.net m').length ≤ 9223372036854775807 by omega)
      have g3 := p_i_share x.pre tr.pre hfx.pre hft.pre
      have e1 : s.net.trans.getD j ⟨[], []⟩ = x := by rw [List.getD_eq_getElem?_getD, hx']; rfl
      have hkt : decide ((j : Int) = (t : Int)) = decide (j = t) := by rw [Bool.eq_iff_iff]; simp only [decide_eq_true_eq]; omega
      simp only [lt_d hk, intS_plc hx, intS_at hx, hpl, hat, hpl1, hat1, se_int, set_pI, hpl2, hat2, hkt, Int.toNat_natCast, e1, EVS]
      unfold sinceH
      by_cases c2 : c.since.getD j 0 < 0
      · simp only [c2, hpl2, hat2, se_int, set_pI, hnw, List.set_set, true_or, or_true, if_true, EVS]
      · by_cases c1 : j = t
        · subst c1
          simp only [c2, hpl2, hat2, se_int, set_pI, List.set_set, hnw, true_or, or_true, if_true, EVS]
        · cases c3 : meetB x.pre tr.pre
          · rw [c3] at g3
            simp only [hkt, c1, c2, hpl2, hat2, hit, hix, eTr, g3, se_int, set_pI, hnw, or_self, if_false, List.drop_zero, EVS]
          · rw [c3] at g3
            simp only [hkt, c1, c2, hpl2, hat2, hit, hix, eTr, g3, se_int, set_pI, List.set_set, hnw, or_self, or_true, if_true, List.drop_zero, EVS]
    · simp only [ge_d, spl8m, spl8n, set8, eCk, lt2, EVS]
    · rw [fold_fired m' s.net t tr a c.since hcl]; rfl
end Go.Proofs.YtnpbdphfjablbaaGreat

namespace Go.Proofs.YtnpbdphfjablbaaGreat
open Go.RowKit
set_option linter.unusedVariables false
set_option linter.unusedSimpArgs false
/-! Delays that are good ones; times that never fall. -/
theorem capsN0 : capsOf 0 (.tup []) = some [] := by simp [capsOf, PV.parts]
def dOk (d : Dl) : Bool := (inB d.low 0 d.high) && decide (d.high ≤ 100)
theorem dlP_all (l : List Dl) : dlP l = l.all dOk := rfl
def dvP (s : STG) (l : List Dl) : Bool := stgP s && (decide (l.length = s.net.trans.length) && dlP l)
theorem spD2 (a b c d : PV) : splice [a, b] 0 [c, d] = [c, d] := rfl
theorem p_i_IsValidDelays_1 (d : Dl) : s_i_IsValidDelays_1 [eDl d] = some (pB (!dOk d)) := by
  show (fun x0 => s_i_IsValidDelays_1 [x0]) _ = _
  rw [sh_i_IsValidDelays_1]
  have e : (!dOk d) = (decide (d.low < 0) || (decide (d.high < d.low) || decide (100 < d.high))) := by
    unfold dOk inB
    rw [Bool.eq_iff_iff]
    simp only [Bool.not_eq_true', Bool.and_eq_false_iff, Bool.or_eq_true, decide_eq_true_eq, decide_eq_false_iff_not]
    omega
  rw [e]
  simp only [eDl, EVS]
  by_cases c1 : d.low < 0 <;> by_cases c2 : d.high < d.low <;> simp only [c1, c2, EVS]
theorem p_g_IndexFunc_Dl (l : List Dl) (hl : Fits l) : s_g_slices_IndexFunc_DelayBounds__i_IsValidDelays_1 [.lst (l.map eDl), .tup []] = some (pI (ixf (fun d => !dOk d) 0 l)) := by
  show (fun x0 x1 => s_g_slices_IndexFunc_DelayBounds__i_IsValidDelays_1 [x0, x1]) _ _ = _
  rw [sh_g_slices_IndexFunc_DelayBounds__i_IsValidDelays_1]
  unfold Fits at hl
  simp only [EVS]
  refine (congrArg (fun m : Option PV => m.bind fun r => if r.sc = true then some r else none) (rangeIx l (fun d => !dOk d) _ hl (fun again k a hx => ?_) (fun again => ?_))).trans ?_
  · have hk := lt_of_some hx
    have hi : idxV (.lst (l.map eDl)) (.int .i64 (k : Int)) = some (eDl a) := idx_map hx
    have g := p_i_IsValidDelays_1 a
    simp only [eDl] at g
    simp only [lt_d hk, next_w hk hl, hi, eDl, capsN0, List.cons_append, List.nil_append, List.append_nil, g, EVS]
  · simp only [ge_d, EVS]
    rfl
  · simp only [EVS]
theorem p_i_IsValidDelays (s : STG) (l : List Dl) (hs : StgFit s) (hl : Fits l) : s_i_IsValidDelays [eStg s, .lst (l.map eDl)] = some (pB (dvP s l)) := by
  have g1 := p_i_IsValidSTG s hs
  have g0 := p_g_IndexFunc_Dl l hl
  have g2 : s_g_slices_ContainsFunc_DelayBounds__i_IsValidDelays_1 [.lst (l.map eDl), .tup []] = some (pB (!dlP l)) := by
    show (fun x0 x1 => s_g_slices_ContainsFunc_DelayBounds__i_IsValidDelays_1 [x0, x1]) _ _ = _
    rw [sh_g_slices_ContainsFunc_DelayBounds__i_IsValidDelays_1]
    simp only [g0, ixf_ge (fun d => !dOk d) l 0, Bool.not_not, allK_all, EVS]
    rfl
  simp only [eStg] at g1
  show (fun x0 x1 => s_i_IsValidDelays [x0, x1]) _ _ = _
  rw [sh_i_IsValidDelays]
  unfold dvP
  simp only [eStg, pv_5_5, g1, List.length_map, EVS]
  cases c : stgP s
  · simp only [EVS]
  have hlab := (stgP_good c).2
  have hd : decide ((l.length : Int) = (s.labels.length : Int)) = decide (l.length = s.net.trans.length) := by rw [Bool.eq_iff_iff]; simp only [decide_eq_true_eq]; omega
  simp only [hd, EVS]
  cases decide (l.length = s.net.trans.length) <;> simp only [g2, Bool.not_not, EVS]
theorem p_r_l23Good (s : STG) (l : List Dl) (hs : StgFit s) (hl : Fits l) : s_r_l23Good [eStg s, .lst (l.map eDl)] = some (pB (dvP s l)) := by
  have g1 := p_r_l2Good s hs
  simp only [eStg] at g1
  unfold Fits at hl
  show (fun x0 x1 => s_r_l23Good [x0, x1]) _ _ = _
  rw [sh_r_l23Good]
  simp only [eStg, EVS]
  refine (congrArg (fun m : Option PV => m.bind fun r => if r.sc = true then some r else none) (rangeAll (R := PV) l (fun _ d => dOk d) (some (pB false)) (some (pB (stgP s && decide (l.length = s.net.trans.length)))) _ hl (fun again k d hx => ?_) (fun again => ?_))).trans ?_
  · have hk := lt_of_some hx
    have hi : idxV (.lst (l.map eDl)) (.int .i64 (k : Int)) = some (eDl d) := idx_map hx
    have g := p_r_l1In d.low 0 d.high
    have gi : inB d.low 0 d.high = (decide ((0 : Int) ≤ d.low) && decide (d.low ≤ d.high)) := rfl
    rw [← gi] at g
    have hd : decide (100 < d.high) = !decide (d.high ≤ 100) := by rw [Bool.eq_iff_iff]; simp
    simp only [lt_d hk, next_w hk hl, hi, eDl, spD2, g, EVS]
    unfold dOk
    cases inB d.low 0 d.high <;> simp only [EVS]
    simp only [hd, EVS]
    cases decide (d.high ≤ 100) <;> simp only [EVS]
  · simp only [ge_d, pv_5_5, g1, List.length_map, EVS]
    cases stgP s <;> simp only [EVS]
    have hd : decide ((l.length : Int) = (s.net.trans.length : Int)) = decide (l.length = s.net.trans.length) := by rw [Bool.eq_iff_iff]; simp only [decide_eq_true_eq]; omega
    simp only [hd, EVS]
  · rw [allK_all]
    unfold dvP
    rw [dlP_all]
    cases l.all dOk <;> simp only [EVS]
end Go.Proofs.YtnpbdphfjablbaaGreat

namespace Go.Proofs.YtnpbdphfjablbaaGreat
open Go.RowKit
set_option linter.unusedVariables false
set_option linter.unusedSimpArgs false
/-! RUNS that are drawn: one step of the reference. -/
theorem fold_const {R α β : Type} (f : β → Nat → α → Sum β (Option R)) (z : Option R) (h : ∀ b k x, ∃ b', f b k x = .inl b') : ∀ (q : List α) (k : Nat) (b : β), foldGo f (fun _ => z) k b q = z
  | [], k, b => rfl
  | x :: q, k, b => by
    unfold foldGo
    obtain ⟨b', e⟩ := h b k x
    rw [e]
    exact fold_const f z h q (k + 1) b'
def rdStep (c : Clk) (l : List Dl) (d : Int) (b : List Nat) (k : Nat) (s : Int) : Sum (List Nat) (Option PV) := .inl (if 0 ≤ s ∧ early c l k ≤ d then b ++ [k] else b)
theorem readyGo_snoc (c : Clk) (l : List Dl) (d : Int) (s : Int) : ∀ (q : List Int) (k : Nat), readyGo c l d k (q ++ [s]) = readyGo c l d k q ++ (if 0 ≤ s ∧ early c l (k + q.length) ≤ d then [k + q.length] else [])
  | [], k => by simp [readyGo]
  | x :: q, k => by
    rw [List.cons_append, readyGo, readyGo, readyGo_snoc c l d s q (k + 1)]
    rw [show k + 1 + q.length = k + (x :: q).length by simp; omega]
    split <;> simp
def rdInv (c : Clk) (l : List Dl) (d : Int) (k : Nat) (b : List Nat) : Prop := b = readyGo c l d 0 (c.since.take k)
theorem rdInv_next {c : Clk} {l : List Dl} {d : Int} {k : Nat} {b b' : List Nat} {s : Int} (h : rdInv c l d k b) (hx : c.since[k]? = some s) (e : rdStep c l d b k s = .inl b') : rdInv c l d (k + 1) b' := by
  have hk := lt_of_some hx
  unfold rdInv at h ⊢
  unfold rdStep at e
  cases e
  have h3 : c.since.take (k + 1) = c.since.take k ++ [s] := by rw [List.take_add_one, hx]; rfl
  have hl : (c.since.take k).length = k := by rw [List.length_take]; omega
  rw [h3, readyGo_snoc, ← h, hl, Nat.zero_add]
  split <;> simp
theorem rdInv_len {c : Clk} {l : List Dl} {d : Int} {k : Nat} {b : List Nat} (h : rdInv c l d k b) : b.length ≤ k := by
  unfold rdInv at h
  rw [h]
  have := readyGo_len c l d (c.since.take k) 0
  rw [List.length_take] at this
  omega
theorem rdInv_end {c : Clk} {l : List Dl} {d : Int} {b : List Nat} (h : rdInv c l d c.since.length b) : b = readyL c l d := by
  unfold rdInv at h
  rw [List.take_length] at h
  exact h
theorem dead_none {c : Clk} {l : List Dl} {d : Int} (hn : l.length = c.since.length) (h : deadL c l = none) : readyL c l d = [] := by
  have h2 := (dlGo_none c.since l none hn.symm h).2
  cases hr : readyL c l d with
  | nil => rfl
  | cons x r =>
    obtain ⟨s, h3, h4, _⟩ := readyL_mem (c := c) (l := l) (d := d) (x := x) (by rw [hr]; exact List.mem_cons_self ..)
    have := h2 s (List.mem_of_getElem? h3)
    omega
theorem pick_cases {c : Clk} {l : List Dl} {w : Int} (hn : l.length = c.since.length) : (readyL c l ((deadL c l).getD (-1)) = [] ∧ pickF c l w = none) ∨
    ∃ d t, deadL c l = some d ∧ readyL c l d ≠ [] ∧ (readyL c l d)[w.toNat % (readyL c l d).length]? = some t ∧ pickF c l w = some (t, early c l t + w % (d - early c l t + 1)) := by
  cases hd : deadL c l with
  | none => exact .inl ⟨dead_none hn hd, by unfold pickF; rw [hd]⟩
  | some d =>
    rw [Option.getD_some]
    by_cases hr : readyL c l d = []
    · exact .inl ⟨hr, by unfold pickF; rw [hd]; dsimp only; rw [hr]; rfl⟩
    · right
      have hlt : w.toNat % (readyL c l d).length < (readyL c l d).length := Nat.mod_lt _ (List.length_pos_iff.2 hr)
      refine ⟨d, _, rfl, hr, List.getElem?_eq_getElem hlt, ?_⟩
      unfold pickF
      rw [hd]
      dsimp only
      rw [List.getElem?_eq_getElem hlt]
theorem rem_i {w n : Int} (hw : 0 ≤ w) (hn : 0 < n) : binV .rem (.int .i64) (pI w) (pI n) = some (pI (w % n)) := by
  show (if n = 0 then none else some (PV.int .i64 (w.tmod n))) = _
  rw [if_neg (by omega), Int.tmod_eq_emod_of_nonneg hw]
def stepF (c : Clk) (l : List Dl) (w : Int) : TF := match pickF c l w with
  | none => ⟨0, 0⟩
  | some (t, a) => ⟨a, (t : Int)⟩
def stepC (n : Net) (c : Clk) (l : List Dl) (w : Int) : Clk × Bool := match pickF c l w with
  | none => (c, false)
  | some (t, a) => clkFire n c t a
theorem p_r_l1Most' (a b : Int) : s_r_l1Most [pI a, pI b] = some (pI (max a b)) := by
  have e : max a b = if b < a then a else b := by split <;> omega
  rw [e]
  show (fun x0 x1 => s_r_l1Most [x0, x1]) _ _ = _
  rw [sh_r_l1Most]
  by_cases c : b < a <;> simp only [c, if_true, if_false, EVS]
def eMay (c : Clk) (l : List Dl) (t : Nat) : PV := .agg [pI (early c l t), pI (t : Int)]
theorem p_r_l23C_step (n : Net) (c : Clk) (l : List Dl) (w : Int) (B : Int) (hn : NtFit n) (hB : B ≤ 4611686018427387904) (hc : ClkOk n B c) (hl : dlP l = true) (hln : l.length = n.trans.length) (hw : 0 ≤ w) (hw2 : w ≤ 999) :
    s_r_l23C_step [eCr n c, .lst (l.map eDl), pI w] = some (.tup [.tup [eTF (stepF c l w), pB (stepC n c l w).2], eCr n (stepC n c l w).1]) := by
  have ht := trans_le hc.good
  have hcl := hc.len
  have g1 := p_r_l23C_last n c l B hB hc hl hln
  simp only [eCr] at g1
  show (fun x0 x1 x2 => s_r_l23C_step [x0, x1, x2]) _ _ _ = _
  rw [sh_r_l23C_step]
  simp only [eCr, g1, two2, List.length_map, EVS]
  obtain ⟨dd, hdd⟩ : ∃ dd, (deadL c l).getD (-1) = dd := ⟨_, rfl⟩
  rw [hdd]
  refine (foldLoop (R := PV) c.since (fun (b : List Nat) k => [.lst (b.map (eMay c l)), pI (Int.ofNat k)]) (rdInv c l dd) (rdStep c l dd) (fun _ => some (.tup [.tup [eTF (stepF c l w), pB (stepC n c l w).2], eCr n (stepC n c l w).1])) _ (by omega) (fun b k x b' hb hx he => rdInv_next hb hx he) (fun again b k x hb hx => ?_) (fun again b hb => ?_) (b := []) rfl).trans ?_
  · have hk := lt_of_some hx
    have hbl := rdInv_len hb
    obtain ⟨d, hd⟩ : ∃ d, l[k]? = some d := ⟨l[k]'(by omega), List.getElem?_eq_getElem (by omega)⟩
    have h1 := dlP_at hl hd
    have h2 := since_mem hc x (List.mem_of_getElem? hx)
    have hi : idxV (.lst (l.map eDl)) (.int .i64 (k : Int)) = some (eDl d) := idx_map hd
    have hwx : IntKind.i64.wrap (x + d.low) = x + d.low := wrap_of (by omega) (by omega)
    have he : early c l k = max (x + d.low) c.now := by
      unfold early
      rw [List.getD_eq_getElem?_getD, List.getD_eq_getElem?_getD, hx, hd]; rfl
    have hnw := next_w hk (show c.since.length ≤ 9223372036854775807 by omega)
    have hla : b.length + [PV.agg [pI (early c l k), pI (k : Int)]].length ≤ 4294967296 ∧ [PV.agg [pI (early c l k), pI (k : Int)]].all (okEl 2) = true := ⟨by simp; omega, rfl⟩
    simp only [lt_d hk, intS_plc hx, intS_at hx, hi, eDl, hwx, p_r_l1Most', ← he, List.drop_zero, EVS]
    unfold rdStep
    by_cases c1 : 0 ≤ x
    · by_cases c2 : early c l k ≤ dd
      · simp only [c1, c2, and_self, if_true, List.length_map, if_pos hla, hnw, List.map_append, List.map_cons, List.map_nil, eMay, EVS]
      · simp only [c1, c2, and_false, if_false, hnw, EVS]
    · simp only [c1, false_and, if_false, hnw, EVS]
  · have hb' := rdInv_end hb
    subst hb'
    simp only [ge_d, List.length_map, EVS]
    rcases pick_cases (c := c) (l := l) (w := w) (by rw [hcl, hln]) with ⟨hr, hp⟩ | ⟨d, t, hd, hr, ht', hp⟩
    · rw [hdd] at hr
      unfold stepF stepC
      simp only [hr, hp, List.length_nil, eTF, EVS]
      rfl
    · rw [hd, Option.getD_some] at hdd
      subst hdd
      obtain ⟨x, h1, h2, h3⟩ := readyL_mem (List.mem_of_getElem? ht')
      have h4 := early_in (k := t) hc hl
      have h5 := (deadL_in hc hl d hd).2
      have htl : t < n.trans.length := by have := lt_of_some h1; omega
      obtain ⟨tr, htr⟩ : ∃ tr, n.trans[t]? = some tr := ⟨n.trans[t], List.getElem?_eq_getElem htl⟩
      have hen : enB c.mark tr = true := (hc.en t tr x htr h1).2.2.1 h2
      have hlen : 0 < (readyL c l d).length := List.length_pos_iff.2 hr
      have e0 : decide (((readyL c l d).length : Int) = 0) = false := by simp only [decide_eq_false_iff_not]; omega
      have e1 := rem_i (w := w) (n := ((readyL c l d).length : Int)) hw (by omega)
      have e2 : w % ((readyL c l d).length : Int) = ((w.toNat % (readyL c l d).length : Nat) : Int) := by rw [Int.natCast_emod, Int.toNat_of_nonneg hw]
      rw [e2] at e1
      have e3 : plcV (List.map (eMay c l) (readyL c l d)) (.int .i64 ((w.toNat % (readyL c l d).length : Nat) : Int)) = some (.int .i64 ((w.toNat % (readyL c l d).length : Nat) : Int)) := plc_at (by rw [List.length_map]; exact lt_of_some ht')
      have e4 : (List.map (eMay c l) (readyL c l d))[w.toNat % (readyL c l d).length]? = some (eMay c l t) := by rw [List.getElem?_map, ht']; rfl
      have e5 : IntKind.i64.wrap (d - early c l t) = d - early c l t := wrap_of (by omega) (by omega)
      have e6 : IntKind.i64.wrap (d - early c l t + 1) = d - early c l t + 1 := wrap_of (by omega) (by omega)
      have e7 := rem_i (w := w) (n := d - early c l t + 1) hw (by omega)
      have b1 := Int.emod_nonneg w (b := d - early c l t + 1) (by omega)
      have b2 := Int.emod_lt_of_pos w (b := d - early c l t + 1) (by omega)
      have e8 : IntKind.i64.wrap (early c l t + w % (d - early c l t + 1)) = early c l t + w % (d - early c l t + 1) := wrap_of (by omega) (by omega)
      have g7 := p_r_l23C_fire n c B t (early c l t + w % (d - early c l t + 1)) tr hn hc htr hen
      simp only [eCr] at g7
      unfold stepF stepC
      simp only [hp, e0, e1, e3, e4, eMay, e5, e6, e7, e8, g7, eTF, two2, Option.map_some, List.drop_zero, EVS]
      try rfl
  · exact fold_const _ _ (fun b k x => ⟨_, rfl⟩) _ _ _
end Go.Proofs.YtnpbdphfjablbaaGreat

namespace Go.Proofs.YtnpbdphfjablbaaGreat
open Go.RowKit
set_option linter.unusedVariables false
set_option linter.unusedSimpArgs false
/-! RUNS that are drawn: the reference. -/
def inD (w : Int) : Bool := inB w 0 999
def drP (ds : List Int) : Bool := ds.all inD
def simOk (s : STG) (l : List Dl) (ds : List Int) : Bool := dvP s l && (decide (ds.length ≤ 60) && drP ds)
def simR (s : STG) (l : List Dl) (ds : List Int) : Clk × List TF := simGo s.net l (clkNew s.net s.start) [] ds
def simP (s : STG) (l : List Dl) (ds : List Int) : (List TF × List UInt8) × Bool := if simOk s l ds = true then (((simR s l ds).2, (simR s l ds).1.mark), true) else (([], []), false)
theorem clkFire_false {n : Net} {c : Clk} {t : Nat} {a : Int} (h : (clkFire n c t a).2 = false) : (clkFire n c t a).1 = c := by
  unfold clkFire at h ⊢
  cases ht : n.trans[t]? with
  | none => rfl
  | some tr =>
    rw [ht] at h
    dsimp only at h ⊢
    by_cases c1 : enB c.mark tr = true
    · rw [if_pos c1] at h ⊢
      cases hf : fireM tr c.mark with
      | none => rfl
      | some m => rw [hf] at h; cases h
    · rw [if_neg c1]
def simStep (n : Net) (l : List Dl) (E : Clk × List TF → Option PV) (b : Clk × List TF) (_ : Nat) (w : Int) : Sum (Clk × List TF) (Option PV) := match pickF b.1 l w with
  | none => .inr (E b)
  | some (t, a) => if (clkFire n b.1 t a).2 = true then .inl ((clkFire n b.1 t a).1, b.2 ++ [⟨a, (t : Int)⟩]) else .inr (E b)
theorem fold_sim (n : Net) (l : List Dl) (E : Clk × List TF → Option PV) : ∀ (ds : List Int) (k : Nat) (b : Clk × List TF), foldGo (R := PV) (simStep n l E) E k b ds = E (simGo n l b.1 b.2 ds)
  | [], k, b => by simp [foldGo, simGo]
  | w :: r, k, b => by
    unfold foldGo simGo simStep
    cases hp : pickF b.1 l w with
    | none => rfl
    | some p =>
      obtain ⟨t, a⟩ := p
      dsimp only
      by_cases c : (clkFire n b.1 t a).2 = true
      · simp only [if_pos c]
        exact fold_sim n l E r (k + 1) _
      · simp only [if_neg c]
def simInv (n : Net) (k : Nat) (b : Clk × List TF) : Prop := ClkOk n (100 * (k : Int)) b.1 ∧ b.2.length ≤ k
theorem simInv_next {n : Net} {l : List Dl} {E : Clk × List TF → Option PV} {k : Nat} {b b' : Clk × List TF} {w : Int} (h : simInv n k b) (hl : dlP l = true) (hw : 0 ≤ w) (e : simStep n l E b k w = .inl b') : simInv n (k + 1) b' := by
  unfold simStep at e
  cases hp : pickF b.1 l w with
  | none => rw [hp] at e; cases e
  | some p =>
    obtain ⟨t, a⟩ := p
    rw [hp] at e
    dsimp only at e
    split at e
    case isFalse => cases e
    cases e
    obtain ⟨s, d, h1, h2, h3, h4, h5, h6⟩ := pickF_in h.1 hl hw hp
    have h7 := early_in (k := t) h.1 hl
    exact ⟨clkFire_ok h.1 (by omega) (by omega) (by omega), by have := h.2; simp; omega⟩
theorem drP_at {ds : List Int} (h : drP ds = true) {k : Nat} {w : Int} (hw : ds[k]? = some w) : 0 ≤ w ∧ w ≤ 999 := inB_iff.1 (List.all_eq_true.1 h w (List.mem_of_getElem? hw))
theorem p_r_l23Run (s : STG) (l : List Dl) (ds : List Int) (hs : StgFit s) (ho : simOk s l ds = true) :
    s_r_l23Run [eStg s, .lst (l.map eDl), .lst (ds.map pI)] = some (.tup [.lst ((simR s l ds).2.map eTF), .str (simR s l ds).1.mark]) := by
  unfold simOk dvP at ho
  simp only [Bool.and_eq_true, decide_eq_true_eq] at ho
  obtain ⟨⟨hv1, hv2, hv3⟩, hr, hd⟩ := ho
  obtain ⟨hg, hlab⟩ := stgP_good hv1
  have ht := trans_le hg
  have g2 := p_r_l23New s hs hg
  simp only [eStg] at g2
  show (fun x0 x1 x2 => s_r_l23Run [x0, x1, x2]) _ _ _ = _
  rw [sh_r_l23Run]
  simp only [eStg, pv_5_5, g2, List.length_map, EVS]
  refine (foldLoop (R := PV) ds (fun (b : Clk × List TF) k => [eCr s.net b.1, .lst (b.2.map eTF), pI (Int.ofNat k)]) (simInv s.net) (simStep s.net l (fun b => some (.tup [.lst (b.2.map eTF), .str b.1.mark]))) (fun b => some (.tup [.lst (b.2.map eTF), .str b.1.mark])) _ (by omega) (fun b k w b' hi hx he => simInv_next hi hv3 (drP_at hd hx).1 he) (fun again b k w hi hx => ?_) (fun again b hi => ?_) (b := (clkNew s.net s.start, [])) ⟨clkNew_ok hg (by omega), Nat.zero_le _⟩).trans ?_
  · obtain ⟨c, run⟩ := b
    obtain ⟨hc, hrl⟩ := hi
    dsimp only at hc hrl ⊢
    have hk := lt_of_some hx
    have hw := drP_at hd hx
    have hi : idxV (.lst (ds.map pI)) (.int .i64 (k : Int)) = some (pI w) := idx_map hx
    have hnw := next_w hk (show ds.length ≤ 9223372036854775807 by omega)
    have g3 := p_r_l23C_step s.net c l w _ hs.net (show (100 * (k : Int)) ≤ 4611686018427387904 by omega) hc hv3 hv2 hw.1 hw.2
    simp only [eCr] at g3
    simp only [eCr, lt_d hk, hi, g3, two2, EVS]
    unfold simStep stepF stepC
    cases hp : pickF c l w with
    | none => simp only [eTF, eCr, two2, EVS]
    | some p =>
      obtain ⟨t, a⟩ := p
      have hla : run.length + [eTF ⟨a, (t : Int)⟩].length ≤ 4294967296 ∧ [eTF ⟨a, (t : Int)⟩].all (okEl 2) = true := ⟨by simp; omega, rfl⟩
      simp only [eTF] at hla
      cases h4 : (clkFire s.net c t a).2
      · have h5 := clkFire_false h4
        simp only [h4, h5, eTF, eCr, two2, EVS]
      · simp only [h4, eTF, eCr, two2, List.length_map, if_pos hla, hnw, List.map_append, List.map_cons, List.map_nil, EVS]
  · simp only [ge_d, eCr, EVS]
  · rw [fold_sim]; rfl
def erP (s : STG) (l : List Dl) (n : Int) : List TF × Bool := if inB n 0 60 = true then (((simP s l (List.replicate n.toNat 0)).1.1, (simP s l (List.replicate n.toNat 0)).2)) else ([], false)
theorem drP_rep (n : Nat) : drP (List.replicate n 0) = true := by
  unfold drP
  rw [List.all_eq_true]
  intro x hx
  rw [(List.mem_replicate.1 hx).2]; rfl
theorem at_r_EarliestRun (s : STG) (l : List Dl) (n : Int) (hs : StgFit s) (hl : Fits l) : s_r_EarliestRun [eStg s, .lst (l.map eDl), pI n] = some (.tup [.lst ((erP s l n).1.map eTF), pB (erP s l n).2]) := by
  have g1 := p_r_l23Good s l hs hl
  have g2 := p_r_l1In n 0 60
  have gi : inB n 0 60 = (decide ((0 : Int) ≤ n) && decide (n ≤ 60)) := rfl
  rw [← gi] at g2
  simp only [eStg] at g1
  show (fun x0 x1 x2 => s_r_EarliestRun [x0, x1, x2]) _ _ _ = _
  rw [sh_r_EarliestRun]
  unfold erP
  cases c1 : dvP s l
  · rw [c1] at g1
    have hno : ∀ ds, simP s l ds = (([], []), false) := fun ds => by unfold simP simOk; rw [c1]; rfl
    simp only [eStg, pv_5_5, g1, hno, EVS]
    cases inB n 0 60 <;> rfl
  · rw [c1] at g1
    cases c2 : inB n 0 60
    · rw [c2] at g2
      simp only [eStg, pv_5_5, g1, g2, EVS]
      rfl
    · rw [c2] at g2
      have h := inB_iff.1 c2
      obtain ⟨m, rfl⟩ : ∃ m : Nat, n = m := ⟨n.toNat, by omega⟩
      have ho : simOk s l (List.replicate m 0) = true := by
        unfold simOk
        rw [c1, drP_rep, List.length_replicate, show decide (m ≤ 60) = true by simp only [decide_eq_true_eq]; omega]; rfl
      have g3 := p_r_l23Run s l _ hs ho
      have hrep : List.replicate m (pI 0) = (List.replicate m (0 : Int)).map pI := by rw [List.map_replicate]
      have hsim : simP s l (List.replicate m 0) = (((simR s l (List.replicate m 0)).2, (simR s l (List.replicate m 0)).1.mark), true) := by unfold simP; rw [if_pos ho]
      simp only [eStg] at g3
      simp only [eStg, pv_5_5, g1, g2, mk_v _ _ (show m ≤ 4294967296 by omega), zpI, hrep, g3, hsim, Int.toNat_natCast, if_true, EVS]
      try rfl
end Go.Proofs.YtnpbdphfjablbaaGreat

namespace Go.Proofs.YtnpbdphfjablbaaGreat
open Go.RowKit
set_option linter.unusedVariables false
set_option linter.unusedSimpArgs false
/-! RUNS that are drawn: the program. -/
theorem p_i_SimulateTimed_1 (w : Int) : s_i_SimulateTimed_1 [pI w] = some (pB (!inD w)) := by
  have g := p_i_within w 0 999
  have gi : inR w 0 999 = inB w 0 999 := rfl
  rw [gi] at g
  show (fun x0 => s_i_SimulateTimed_1 [x0]) _ = _
  rw [sh_i_SimulateTimed_1]
  unfold inD
  simp only [g, EVS]
theorem p_g_ContainsFunc_dr (ds : List Int) (hl : ds.length ≤ 9223372036854775807) : s_g_slices_ContainsFunc_int__i_SimulateTimed_1 [.lst (ds.map pI), .tup []] = some (pB (!drP ds)) := by
  have g0 : s_g_slices_IndexFunc_int__i_SimulateTimed_1 [.lst (ds.map pI), .tup []] = some (pI (ixf (fun d => !inD d) 0 ds)) := by
    show (fun x0 x1 => s_g_slices_IndexFunc_int__i_SimulateTimed_1 [x0, x1]) _ _ = _
    rw [sh_g_slices_IndexFunc_int__i_SimulateTimed_1]
    simp only [EVS]
    refine (congrArg (fun m : Option PV => m.bind fun r => if r.sc = true then some r else none) (rangeIx ds (fun d => !inD d) _ hl (fun again k a hx => ?_) (fun again => ?_))).trans ?_
    · have hk := lt_of_some hx
      have hi : idxV (.lst (ds.map pI)) (.int .i64 (k : Int)) = some (pI a) := idx_map hx
      have g := p_i_SimulateTimed_1 a
      simp only [lt_d hk, next_w hk hl, hi, capsN0, List.cons_append, List.nil_append, List.append_nil, g, EVS]
    · simp only [ge_d, EVS]
      rfl
    · simp only [EVS]
  show (fun x0 x1 => s_g_slices_ContainsFunc_int__i_SimulateTimed_1 [x0, x1]) _ _ = _
  rw [sh_g_slices_ContainsFunc_int__i_SimulateTimed_1]
  simp only [g0, ixf_ge (fun d => !inD d) ds 0, Bool.not_not, allK_all, EVS]
  rfl
theorem at_i_SimulateTimed (s : STG) (l : List Dl) (ds : List Int) (hs : StgFit s) (hl : Fits l) (hd : Fits ds) : s_i_SimulateTimed [eStg s, .lst (l.map eDl), .lst (ds.map pI)] = some (.tup [.lst ((simP s l ds).1.1.map eTF), .str (simP s l ds).1.2, pB (simP s l ds).2]) := by
  have g1 := p_i_IsValidDelays s l hs hl
  have g2 := p_g_ContainsFunc_dr ds hd
  simp only [eStg] at g1
  unfold Fits at hd
  show (fun x0 x1 x2 => s_i_SimulateTimed [x0, x1, x2]) _ _ _ = _
  rw [sh_i_SimulateTimed]
  unfold simP
  have hdc : decide (60 < (ds.length : Int)) = !decide (ds.length ≤ 60) := by rw [Bool.eq_iff_iff]; simp; omega
  cases c1 : simOk s l ds
  · simp only [eStg, pv_5_5, g1, EVS]
    unfold simOk at c1
    cases c2 : dvP s l
    · simp only [EVS]; rfl
    rw [c2, Bool.true_and] at c1
    simp only [List.length_map, hdc, EVS]
    cases c3 : decide (ds.length ≤ 60)
    · simp only [EVS]; rfl
    rw [c3, Bool.true_and] at c1
    rw [c1] at g2
    simp only [g2, EVS]
    rfl
  have ho := c1
  unfold simOk dvP at ho
  simp only [Bool.and_eq_true, decide_eq_true_eq] at ho
  obtain ⟨⟨hv1, hv2, hv3⟩, hr, hd'⟩ := ho
  obtain ⟨hg, hlab⟩ := stgP_good hv1
  have ht := trans_le hg
  have g4 := p_i_newClock s hs hg hlab
  simp only [eStg] at g4
  unfold simOk at c1
  simp only [Bool.and_eq_true] at c1
  obtain ⟨c2, c3, c4⟩ := c1
  rw [c4] at g2
  rw [c2] at g1
  simp only [eStg, pv_5_5, g1, hdc, c3, g2, g4, List.length_map, EVS]
  refine (foldLoop (R := PV) ds (fun (b : Clk × List TF) k => [eCk s b.1, .lst (b.2.map eTF), pI (Int.ofNat k)]) (simInv s.net) (simStep s.net l (fun b => some (.tup [.lst (b.2.map eTF), .str b.1.mark, pB true]))) (fun b => some (.tup [.lst (b.2.map eTF), .str b.1.mark, pB true])) _ (by omega) (fun b k w b' hi hx he => simInv_next hi hv3 (drP_at hd' hx).1 he) (fun again b k w hi hx => ?_) (fun again b hi => ?_) (b := (clkNew s.net s.start, [])) ⟨clkNew_ok hg (by omega), Nat.zero_le _⟩).trans ?_
  · obtain ⟨c, run⟩ := b
    obtain ⟨hc, hrl⟩ := hi
    dsimp only at hc hrl ⊢
    have hk := lt_of_some hx
    have hw := drP_at hd' hx
    have hcl := hc.len
    have hi : idxV (.lst (ds.map pI)) (.int .i64 (k : Int)) = some (pI w) := idx_map hx
    have hnw := next_w hk (show ds.length ≤ 9223372036854775807 by omega)
    have hB : (100 * (k : Int)) ≤ 4611686018427387904 := by omega
    have g3 := p_i_clock_deadline s c l _ hB hc hv3 hv2
    simp only [eCk] at g3
    simp only [eCk, lt_d hk, hi, g3, two2, EVS]
    cases hdd : deadL c l with
    | none =>
      have hp : pickF c l w = none := by unfold pickF; rw [hdd]
      unfold simStep
      simp only [hp, Option.isSome_none, eTF, eCk, EVS]
    | some d =>
      simp only [Option.isSome_some, Option.getD_some, List.length_map, EVS]
      refine (foldLoop (R := PV) c.since (fun (b : List Nat) j => [.lst (b.map fun (t : Nat) => pI (t : Int)), pI (Int.ofNat j)]) (rdInv c l d) (rdStep c l d) (fun _ => match simStep s.net l (fun b => some (.tup [.lst (b.2.map eTF), .str b.1.mark, pB true])) (c, run) k w with
        | .inl b' => again [eCk s b'.1, .lst (b'.2.map eTF), pI (Int.ofNat (k + 1))]
        | .inr z => z) _ (by omega) (fun b j x b' hb hx he => rdInv_next hb hx he) (fun again b j x hb hx => ?_) (fun again2 b hb => ?_) (b := []) rfl).trans ?_
      · have hj := lt_of_some hx
        have hbl := rdInv_len hb
        have g5 := p_i_clock_earliest s c l j _ hB hc hv3 hv2 (by omega)
        simp only [eCk] at g5
        have hnj := next_w hj (show c.since.length ≤ 9223372036854775807 by omega)
        have hla : b.length + [pI (j : Int)].length ≤ 4294967296 ∧ [pI (j : Int)].all (okEl 1) = true := ⟨by simp; omega, rfl⟩
        simp only [lt_d hj, intS_plc hx, intS_at hx, List.drop_zero, EVS]
        unfold rdStep
        by_cases c1 : 0 ≤ x
        · by_cases c2 : early c l j ≤ d
          · simp only [c1, c2, g5, and_self, if_true, List.length_map, if_pos hla, hnj, List.map_append, List.map_cons, List.map_nil, EVS]
          · simp only [c1, c2, g5, and_false, if_false, hnj, EVS]
        · simp only [c1, false_and, if_false, hnj, EVS]
      · have hb' := rdInv_end hb
        subst hb'
        simp only [ge_d, List.length_map, List.drop_zero, EVS]
        rcases pick_cases (c := c) (l := l) (w := w) (by rw [hcl, hv2]) with ⟨hr0, hp⟩ | ⟨d', t, hd2, hr0, ht', hp⟩
        · rw [hdd, Option.getD_some] at hr0
          unfold simStep
          simp only [hr0, hp, List.map_nil, List.length_nil, EVS]
          try rfl
        · rw [hdd] at hd2
          cases hd2
          obtain ⟨x, h1, h2, h3⟩ := readyL_mem (List.mem_of_getElem? ht')
          have h4 := early_in (k := t) hc hv3
          have h5 := (deadL_in hc hv3 d hdd).2
          have htl : t < s.net.trans.length := by have := lt_of_some h1; omega
          obtain ⟨tr, htr⟩ : ∃ tr, s.net.trans[t]? = some tr := ⟨s.net.trans[t], List.getElem?_eq_getElem htl⟩
          have hlen : 0 < (readyL c l d).length := List.length_pos_iff.2 hr0
          have hll : (readyL c l d).length ≤ c.since.length := readyGo_len c l d c.since 0
          have e0 : decide (((readyL c l d).length : Int) = 0) = false := by simp only [decide_eq_false_iff_not]; omega
          have e1 := rem_i (w := w) (n := ((readyL c l d).length : Int)) hw.1 (by omega)
          have e2 : w % ((readyL c l d).length : Int) = ((w.toNat % (readyL c l d).length : Nat) : Int) := by rw [Int.natCast_emod, Int.toNat_of_nonneg hw.1]
          rw [e2] at e1
          have e3 : plcV (List.map (fun (t : Nat) => pI (t : Int)) (readyL c l d)) (.int .i64 ((w.toNat % (readyL c l d).length : Nat) : Int)) = some (.int .i64 ((w.toNat % (readyL c l d).length : Nat) : Int)) := plc_at (by rw [List.length_map]; exact lt_of_some ht')
          have e4 : (List.map (fun (t : Nat) => pI (t : Int)) (readyL c l d))[w.toNat % (readyL c l d).length]? = some (pI (t : Int)) := by rw [List.getElem?_map, ht']; rfl
          have e5 : IntKind.i64.wrap (d - early c l t) = d - early c l t := wrap_of (by omega) (by omega)
          have e6 : IntKind.i64.wrap (d - early c l t + 1) = d - early c l t + 1 := wrap_of (by omega) (by omega)
          have e7 := rem_i (w := w) (n := d - early c l t + 1) hw.1 (by omega)
          have b1 := Int.emod_nonneg w (b := d - early c l t + 1) (by omega)
          have b2 := Int.emod_lt_of_pos w (b := d - early c l t + 1) (by omega)
          have e8 : IntKind.i64.wrap (early c l t + w % (d - early c l t + 1)) = early c l t + w % (d - early c l t + 1) := wrap_of (by omega) (by omega)
          have g5 := p_i_clock_earliest s c l t _ hB hc hv3 hv2 htl
          have g7 := p_i_clock_fire s c _ t (early c l t + w % (d - early c l t + 1)) tr hs hc htr
          have hla : run.length + [eTF ⟨early c l t + w % (d - early c l t + 1), (t : Int)⟩].length ≤ 4294967296 ∧ [eTF ⟨early c l t + w % (d - early c l t + 1), (t : Int)⟩].all (okEl 2) = true := ⟨by simp; omega, rfl⟩
          simp only [eTF] at hla
          simp only [eCk] at g5 g7
          unfold simStep
          cases h6 : (clkFire s.net c t (early c l t + w % (d - early c l t + 1))).2
          · have h7 := clkFire_false h6
            rw [h6] at g7
            simp only [hp, h6, h7, e0, e1, e3, e4, e5, e6, e7, e8, g5, g7, eTF, eCk, two2, List.drop_zero, EVS]
            try rfl
          · rw [h6] at g7
            simp only [hp, h6, e0, e1, e3, e4, e5, e6, e7, e8, g5, g7, eTF, eCk, two2, List.length_map, if_pos hla, hnw, List.map_append, List.map_cons, List.map_nil, List.drop_zero, if_true, EVS]
            try rfl
      · refine (fold_const (rdStep c l d) _ (fun b k x => ⟨_, rfl⟩) _ _ _).trans ?_
        cases simStep s.net l (fun b => some (.tup [.lst (b.2.map eTF), .str b.1.mark, pB true])) (c, run) k w <;> rfl
  · simp only [ge_d, eCk, EVS]
  · rw [fold_sim]; rfl
end Go.Proofs.YtnpbdphfjablbaaGreat

namespace Go.Proofs.YtnpbdphfjablbaaGreat
open Go.RowKit
set_option linter.unusedVariables false
set_option linter.unusedSimpArgs false
/-! RUNS that are drawn: the earliest one; what a run holds. -/
theorem at_i_EarliestRun (s : STG) (l : List Dl) (n : Int) (hs : StgFit s) (hl : Fits l) : s_i_EarliestRun [eStg s, .lst (l.map eDl), pI n] = some (.tup [.lst ((erP s l n).1.map eTF), pB (erP s l n).2]) := by
  have g2 := p_i_within n 0 60
  have gi : inR n 0 60 = inB n 0 60 := rfl
  rw [gi] at g2
  show (fun x0 x1 x2 => s_i_EarliestRun [x0, x1, x2]) _ _ _ = _
  rw [sh_i_EarliestRun]
  unfold erP
  cases c2 : inB n 0 60
  · rw [c2] at g2
    simp only [eStg, g2, EVS]
    rfl
  · rw [c2] at g2
    have h := inB_iff.1 c2
    obtain ⟨m, rfl⟩ : ∃ m : Nat, n = m := ⟨n.toNat, by omega⟩
    have g3 := at_i_SimulateTimed s l (List.replicate m 0) hs hl (by unfold Fits; rw [List.length_replicate]; omega)
    have hrep : List.replicate m (pI 0) = (List.replicate m (0 : Int)).map pI := by rw [List.map_replicate]
    simp only [eStg] at g3
    simp only [eStg, pv_5_5, g2, mk_v _ _ (show m ≤ 4294967296 by omega), zpI, hrep, g3, Int.toNat_natCast, if_true, EVS]
    try rfl
def tfIn (f : TF) : Prop := 0 ≤ f.at_ ∧ f.at_ ≤ 10000 ∧ 0 ≤ f.t ∧ f.t ≤ 24
theorem simGo_in {n : Net} {l : List Dl} (hl : dlP l = true) : ∀ (ds : List Int) (k : Nat) (c : Clk) (run : List TF), simInv n k (c, run) → (∀ f ∈ run, tfIn f) → drP ds = true → k + ds.length ≤ 60 →
    (∀ f ∈ (simGo n l c run ds).2, tfIn f) ∧ (simGo n l c run ds).2.length ≤ 60
  | [], k, c, run, hi, hr, _, hk => ⟨by simpa [simGo] using hr, by have := hi.2; simp [simGo] at *; omega⟩
  | w :: r, k, c, run, hi, hr, hd, hk => by
    unfold drP at hd
    rw [List.all_cons, Bool.and_eq_true] at hd
    have hw := inB_iff.1 hd.1
    have hlen := hi.2
    simp only [List.length_cons] at hk
    unfold simGo
    cases hp : pickF c l w with
    | none => exact ⟨hr, by dsimp only at hlen ⊢; omega⟩
    | some p =>
      obtain ⟨t, a⟩ := p
      dsimp only
      by_cases c1 : (clkFire n c t a).2 = true
      · rw [if_pos c1]
        obtain ⟨s, d, h1, h2, h3, h4, h5, h6⟩ := pickF_in hi.1 hl hw.1 hp
        have h7 := early_in (k := t) hi.1 hl
        have h8 := trans_le hi.1.good
        have h9 := lt_of_some h1
        rw [hi.1.len] at h9
        refine simGo_in hl r (k + 1) _ _ ⟨clkFire_ok hi.1 (by dsimp only at *; omega) (by dsimp only at *; omega) (by dsimp only at *; omega), by simp; dsimp only at hlen; omega⟩ (fun f hf => ?_) hd.2 (by omega)
        rcases List.mem_append.1 hf with hf | hf
        · exact hr f hf
        · rw [List.mem_singleton.1 hf]
          exact ⟨by dsimp only at *; omega, by dsimp only at *; omega, by dsimp only; omega, by dsimp only at *; omega⟩
      · rw [if_neg c1]
        exact ⟨hr, by dsimp only at hlen ⊢; omega⟩
theorem simP_all (s : STG) (l : List Dl) (d : List Int) : (∀ f ∈ (simP s l d).1.1, tfIn f) ∧ (simP s l d).1.1.length ≤ 60 := by
  unfold simP
  split
  case isFalse => exact ⟨fun f hf => (by cases hf), Nat.zero_le _⟩
  rename_i ho
  unfold simOk dvP at ho
  simp only [Bool.and_eq_true, decide_eq_true_eq] at ho
  obtain ⟨⟨hv1, hv2, hv3⟩, hr, hd⟩ := ho
  exact simGo_in hv3 d 0 _ [] ⟨clkNew_ok (stgP_good hv1).1 (by omega), Nat.zero_le _⟩ (fun f hf => by cases hf) hd (by omega)
theorem simP_in (s : STG) (l : List Dl) (d : List Int) (hf : StgFit s) : ∀ x ∈ (simP s l d).1.1, 0 ≤ x.at_ ∧ x.at_ ≤ 10000 ∧ 0 ≤ x.t ∧ x.t ≤ 24 := (simP_all s l d).1
theorem simP_len (s : STG) (l : List Dl) (d : List Int) : (simP s l d).1.1.length ≤ 60 := (simP_all s l d).2
theorem erP_in (s : STG) (l : List Dl) (n : Int) (hf : StgFit s) : ∀ x ∈ (erP s l n).1, 0 ≤ x.at_ ∧ x.at_ ≤ 10000 ∧ 0 ≤ x.t ∧ x.t ≤ 24 := by
  unfold erP
  split
  · exact simP_in s l _ hf
  · intro x hx; cases hx
theorem erP_len (s : STG) (l : List Dl) (n : Int) : (erP s l n).1.length ≤ 60 := by
  unfold erP
  split
  · exact simP_len s l _
  · exact Nat.zero_le _
end Go.Proofs.YtnpbdphfjablbaaGreat
