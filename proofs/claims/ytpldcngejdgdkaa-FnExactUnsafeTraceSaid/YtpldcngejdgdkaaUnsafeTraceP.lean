/-
  PLAIN LAWS of what the functions compute that FnExactUnsafeTrace reaches.
-/
import Derived.Test.YtpldcngejdgdkaaUnsafeTraceF
import Derived.Test.YtpldcngejdgdkaaExPure
import Derived.Test.YtpldcngejdgdkaaReachFacts

namespace Go.Proofs.Ytpldcngejdgdkaa
open Go.RowKit
set_option linter.unusedVariables false
set_option linter.unusedSimpArgs false
theorem p_r_l1In (n lo hi : Int) : s_r_l1In [pI n, pI lo, pI hi] = some (pB (decide (lo ≤ n) && decide (n ≤ hi))) := by
  show (fun x0 x1 x2 => s_r_l1In [x0, x1, x2]) _ _ _ = _
  rw [sh_r_l1In]
  by_cases h : lo ≤ n <;> simp only [h, EVS]
/-- A name's byte. -/
def nameB (first : Bool) (b : UInt8) : Bool := (decide ((97 : Int) ≤ b.toNat) && decide ((b.toNat : Int) ≤ 122)) || (!first && (!decide ((b.toNat : Int) < 48) && !decide ((57 : Int) < b.toNat)))
def nameGo : Bool → List UInt8 → Bool
  | _, [] => true
  | f, b :: r => nameB f b && nameGo false r
def isNameP (s : List UInt8) : Bool := nameGo true s && (decide ((1 : Int) ≤ s.length) && decide ((s.length : Int) ≤ 6))
theorem p_r_l2Name (s : List UInt8) (hs : s.length ≤ 9223372036854775807) : s_r_l2Name [.str s] = some (pB (isNameP s)) := by
  show (fun x0 => s_r_l2Name [x0]) _ = _
  rw [sh_r_l2Name]
  refine (congrArg (scOnly true) (loopR_go (R := PV) (fun k : Nat => [pI (Int.ofNat k)]) (fun k => s.length + 1 - k) (fun k => some (pB (nameGo (k == 0) (s.drop k) && (decide ((1 : Int) ≤ s.length) && decide ((s.length : Int) ≤ 6))))) _ (fun again k ih => ?_) _ 0 (by omega))).trans ?_
  · by_cases hk : k < s.length
    · obtain ⟨b, hb⟩ : ∃ b, s[k]? = some b := ⟨s[k], List.getElem?_eq_getElem hk⟩
      have hd : s.drop k = b :: s.drop (k + 1) := by
        obtain ⟨h1, rfl⟩ := List.getElem?_eq_some_iff.1 hb
        exact List.drop_eq_getElem_cons h1
      have hlt : decide ((k : Int) < s.length) = true := by simpa using hk
      have hw : IntKind.i64.wrap ((k : Int) + 1) = ((k + 1 : Nat) : Int) := by rw [wrap_of (by omega) (by omega)]; omega
      have hnext := ih (k + 1) (by omega)
      simp only [Int.ofNat_eq_natCast] at hnext
      have hk0 : decide ((k : Int) = 0) = (k == 0) := by rw [Bool.eq_iff_iff]; simp
      rw [hd]
      have hk1 : (k + 1 == 0) = false := rfl
      rw [hk1] at hnext
      have ev1 := hlt
      have ev2 := byteV_at (k := .i64) hb
      simp only [nameGo, nameB, hlt, byteV_at hb, hk0, hw, hnext, EVS]
      by_cases c1 : (97 : Int) ≤ b.toNat
      all_goals simp only [c1, byteV_at hb, EVS]
      by_cases c2 : (b.toNat : Int) ≤ 122
      all_goals try simp only [c2, byteV_at hb, EVS]
      all_goals try simp only [hk0]
      all_goals try (cases c5 : (k == 0))
      all_goals try simp only [c5, byteV_at hb, EVS]
      all_goals try (by_cases c3 : (b.toNat : Int) < 48)
      all_goals try simp only [c3, byteV_at hb, EVS]
      all_goals try (by_cases c4 : (57 : Int) < b.toNat)
      all_goals try simp only [c4, byteV_at hb, EVS]
    · have hd : s.drop k = [] := List.drop_eq_nil_of_le (by omega)
      have hlt : decide ((k : Int) < s.length) = false := by simpa using hk
      rw [hd]
      simp only [nameGo, hlt, p_r_l1In, EVS]
  · simp only [isNameP, List.drop_zero, beq_self_eq_true, EVS]
end Go.Proofs.Ytpldcngejdgdkaa

namespace Go.Proofs.Ytpldcngejdgdkaa
open Go.RowKit
set_option linter.unusedVariables false
set_option linter.unusedSimpArgs false
def cubeB (b : UInt8) : Bool := decide ((b.toNat : Int) = 48) || decide ((b.toNat : Int) = 49) || decide ((b.toNat : Int) = 45)
def cubeP (s : List UInt8) : Bool := allK (fun _ b => cubeB b) 0 s && (decide ((1 : Int) ≤ s.length) && decide ((s.length : Int) ≤ 8))
theorem lt_of_some {α : Type} {l : List α} {k : Nat} {x : α} (h : l[k]? = some x) : k < l.length := (List.getElem?_eq_some_iff.1 h).1
theorem next_w {k n : Nat} (h : k < n) (hn : n ≤ 9223372036854775807) : IntKind.i64.wrap ((k : Int) + 1) = ((k + 1 : Nat) : Int) := by rw [wrap_of (by omega) (by omega)]; omega
theorem lt_d {k n : Nat} (h : k < n) : decide ((k : Int) < (n : Int)) = true := by simpa using h
theorem ge_d {n : Nat} : decide ((n : Int) < (n : Int)) = false := by simp
end Go.Proofs.Ytpldcngejdgdkaa

namespace Go.Proofs.Ytpldcngejdgdkaa
open Go.RowKit
set_option linter.unusedVariables false
set_option linter.unusedSimpArgs false
abbrev eSig (s : List UInt8 × Int) : PV := .agg [.str s.1, pI s.2]
def inR (n lo hi : Int) : Bool := decide (lo ≤ n) && decide (n ≤ hi)
def sigOk (l : List (List UInt8 × Int)) (k : Nat) (s : List UInt8 × Int) : Bool := (isNameP s.1 && inR s.2 1 3) && allK (fun _ y => !decide (s.1 = y.1)) 0 (l.take k)
def sigsP (l : List (List UInt8 × Int)) : Bool := allK (sigOk l) 0 l && inR l.length 1 8
theorem okEl_eSig (x : List UInt8 × Int) : okEl 2 (eSig x) = true := rfl
theorem p_r_l2Signals (l : List (List UInt8 × Int)) (hl : l.length ≤ 9223372036854775807) (hs : ∀ s ∈ l, s.1.length ≤ 9223372036854775807) : s_r_l2Signals [.lst (l.map eSig)] = some (pB (sigsP l)) := by
  show (fun x0 => s_r_l2Signals [x0]) _ = _
  rw [sh_r_l2Signals]
  simp only [EVS]
  refine (congrArg (scOnly true) (rangeAll (R := PV) l (sigOk l) (some (pB false)) (some (pB (inR l.length 1 8))) _ hl (fun again k s hb => ?_) (fun again => ?_))).trans ?_
  · have hk := lt_of_some hb
    have hi : idxV (.lst (l.map eSig)) (.int .i64 (k : Int)) = some (eSig s) := idx_map hb
    have hc : cutL 2 (.lst (l.map eSig)) none (some (.int .i64 (k : Int))) = some (.lst ((l.take k).map eSig)) := cut_map okEl_eSig (by omega)
    have hn := p_r_l2Name s.1 (hs s (List.mem_of_getElem? hb))
    simp only [lt_d hk, next_w hk hl, hi, eSig, hn, p_r_l1In, sigOk, inR, EVS]
    obtain c1 | c1 := (Bool.eq_false_or_eq_true (isNameP s.1)).symm <;> simp only [c1, p_r_l1In, EVS]
    obtain c2 | c2 := (Bool.eq_false_or_eq_true (decide (1 ≤ s.2) && decide (s.2 ≤ 3))).symm <;> simp only [c2, EVS]
    simp only [hc, EVS]
    refine (rangeAll (R := PV) (l.take k) (fun _ y => !decide (s.1 = y.1)) (some (pB false)) (again [pI ((k + 1 : Nat) : Int)]) _ (by simp; omega) (fun again' j y hy => ?_) (fun again' => ?_)).trans ?_
    · have hj := lt_of_some hy
      have hi' : idxV (.lst ((l.take k).map eSig)) (.int .i64 (j : Int)) = some (eSig y) := idx_map hy
      simp only [lt_d hj, next_w hj (by simp; omega), hi', eSig, EVS]
      cases c3 : decide (s.1 = y.1) <;> simp only [c3, EVS]
    · simp only [ge_d, next_w hk hl, EVS]
    · rfl
  · simp only [ge_d, p_r_l1In, inR, EVS]
  · unfold sigsP
    cases allK (sigOk l) 0 l <;> simp only [EVS]
end Go.Proofs.Ytpldcngejdgdkaa

namespace Go.Proofs.Ytpldcngejdgdkaa
open Go.RowKit
set_option linter.unusedVariables false
set_option linter.unusedSimpArgs false
def coverGo (n : Int) (l : List (List UInt8)) : Bool := allK (fun _ c => cubeP c && decide ((c.length : Int) = n)) 0 l
def goodP (n : Int) (l : List (List UInt8)) : Bool := coverGo n l && (inR n 1 8 && decide ((l.length : Int) ≤ 60))
structure PWire where
  name : List UInt8
  kind : Int
  ins : List (Int × Bool)
  cover : List (List UInt8)
structure PNet where
  signals : List (List UInt8 × Int)
  wires : List PWire
abbrev ePin (p : Int × Bool) : PV := .agg [pI p.1, pB p.2]
abbrev eWire (w : PWire) : PV := .agg [.str w.name, pI w.kind, .lst (w.ins.map ePin), .lst (w.cover.map PV.str)]
abbrev eNet (n : PNet) : PV := .agg [.lst (n.signals.map eSig), .lst (n.wires.map eWire)]
abbrev Fits {α : Type} (l : List α) : Prop := l.length ≤ 9223372036854775807
structure PWire.Fit (w : PWire) : Prop where
  name : Fits w.name
  ins : Fits w.ins
  cover : Fits w.cover
  cubes : ∀ c ∈ w.cover, Fits c
structure PNet.Fit (n : PNet) : Prop where
  signals : Fits n.signals
  names : ∀ s ∈ n.signals, Fits s.1
  wires : Fits n.wires
  wire : ∀ w ∈ n.wires, w.Fit
def pinOk (n : PNet) (k : Nat) (p : Int × Bool) : Bool := inR p.1 0 ((n.wires.length : Int) - 1) && !(decide ((n.signals.length : Int) ≤ k) && decide ((k : Int) ≤ p.1))
def pinForm (k : Nat) (kind : Int) (ins : List (Int × Bool)) : Bool :=
  if decide (kind = 1) = true then decide ((ins.length : Int) = 0)
  else if decide (kind = 4) = true then decide ((ins.length : Int) = 2)
  else if decide (kind = 5) = true then decide ((ins.length : Int) = 0) || (match ins with | [p] => decide (p.1 = k) && !p.2 | _ => false)
  else inR ins.length 1 8
def pinsP (n : PNet) (k : Nat) (w : PWire) : Bool := allK (fun _ p => pinOk n k p) 0 w.ins && pinForm k w.kind w.ins
end Go.Proofs.Ytpldcngejdgdkaa

namespace Go.Proofs.Ytpldcngejdgdkaa
open Go.RowKit
set_option linter.unusedVariables false
set_option linter.unusedSimpArgs false
def wireSeen (n : PNet) (k : Nat) (w : PWire) : Bool := match n.signals[k]? with | some s => decide (w.name = s.1) && (decide (w.kind = 1) == decide (s.2 = 1)) | none => false
def wireP (n : PNet) (k : Nat) (w : PWire) : Bool :=
  let seen := decide ((k : Int) < (n.signals.length : Int))
  (inR w.kind 1 5 && (seen || decide (w.kind = 2) || decide (w.kind = 3))) && (!seen || wireSeen n k w) && (if decide (w.kind = 5) = true then goodP n.signals.length w.cover else !decide ((0 : Int) < w.cover.length)) && (isNameP w.name && pinsP n k w)
/-- Each wire is right, and no wire ahead has its name. -/
def netWireOk (n : PNet) (k : Nat) (w : PWire) : Bool := wireP n k w && allK (fun _ v => !decide (v.name = w.name)) 0 (n.wires.take k)
def netP (n : PNet) : Bool := sigsP n.signals && (!decide ((n.wires.length : Int) < n.signals.length) && !decide ((24 : Int) < n.wires.length)) && allK (netWireOk n) 0 n.wires
theorem okEl_eWire (x : PWire) : okEl 4 (eWire x) = true := rfl
theorem cells4 (a b c d : PV) : cellsW 4 (.agg [a, b, c, d]) = some [a, b, c, d] := (Eq.refl _).trans (Eq.refl _)
end Go.Proofs.Ytpldcngejdgdkaa

namespace Go.Proofs.Ytpldcngejdgdkaa
open Go.RowKit
set_option linter.unusedVariables false
set_option linter.unusedSimpArgs false
theorem p_i_within (n lo hi : Int) : s_i_within [pI n, pI lo, pI hi] = some (pB (inR n lo hi)) := by
  show (fun x0 x1 x2 => s_i_within [x0, x1, x2]) _ _ _ = _
  rw [sh_i_within]
  unfold inR
  by_cases h : lo ≤ n <;> simp only [h, EVS]
def nameB' (k : Nat) (b : UInt8) : Bool := (decide ((97 : Int) ≤ b.toNat) && decide ((b.toNat : Int) ≤ 122)) || (!decide ((k : Int) = 0) && (decide ((48 : Int) ≤ b.toNat) && decide ((b.toNat : Int) ≤ 57)))
def nameP' (s : List UInt8) : Bool := allK nameB' 0 s && inR s.length 1 6
theorem p_i_isName (s : List UInt8) (hs : s.length ≤ 9223372036854775807) : s_i_isName [.str s] = some (pB (nameP' s)) := by
  show (fun x0 => s_i_isName [x0]) _ = _
  rw [sh_i_isName]
  refine (congrArg (scOnly true) (rangeAll (R := PV) s nameB' (some (pB false)) (some (pB (inR s.length 1 6))) _ hs (fun again k b hb => ?_) (fun again => ?_))).trans ?_
  · have hk := lt_of_some hb
    simp only [nameB', lt_d hk, next_w hk hs, byteV_at hb, EVS]
    obtain c1 | c1 := (Bool.eq_false_or_eq_true (decide ((97 : Int) ≤ b.toNat))).symm <;> simp only [c1, byteV_at hb, EVS]
    all_goals (obtain c2 | c2 := (Bool.eq_false_or_eq_true (decide ((b.toNat : Int) ≤ 122))).symm <;> try simp only [c2, byteV_at hb, EVS])
    all_goals (obtain c3 | c3 := (Bool.eq_false_or_eq_true (decide ((48 : Int) ≤ b.toNat))).symm <;> try simp only [c3, byteV_at hb, EVS])
    all_goals (obtain c4 | c4 := (Bool.eq_false_or_eq_true (decide ((b.toNat : Int) ≤ 57))).symm <;> try simp only [c4, byteV_at hb, EVS])
    all_goals (obtain c5 | c5 := (Bool.eq_false_or_eq_true (decide ((k : Int) = 0))).symm <;> try simp only [c5, EVS])
  · simp only [ge_d, p_i_within, EVS]
  · unfold nameP'
    cases allK nameB' 0 s <;> simp only [EVS]
theorem nameGo_all : ∀ (l : List UInt8) (k : Nat), nameGo (k == 0) l = allK nameB' k l
  | [], _ => rfl
  | b :: r, k => by
    have h := nameGo_all r (k + 1)
    have h1 : (k + 1 == 0) = false := rfl
    rw [h1] at h
    unfold nameGo allK
    rw [h]
    congr 1
    unfold nameB nameB'
    have e1 : decide ((48 : Int) ≤ b.toNat) = !decide ((b.toNat : Int) < 48) := by rw [Bool.eq_iff_iff]; simp
    have e2 : decide ((b.toNat : Int) ≤ 57) = !decide ((57 : Int) < b.toNat) := by rw [Bool.eq_iff_iff]; simp
    have e3 : decide ((k : Int) = 0) = (k == 0) := by rw [Bool.eq_iff_iff]; simp
    rw [e1, e2, e3]
theorem name_eq (s : List UInt8) : isNameP s = nameP' s := by
  unfold isNameP nameP' inR
  rw [← nameGo_all s 0]
  rfl
theorem p_i_isName' (s : List UInt8) (hs : s.length ≤ 9223372036854775807) : s_i_isName [.str s] = some (pB (isNameP s)) := (p_i_isName s hs).trans (by rw [name_eq])
def cubeP' (s : List UInt8) (n : Int) : Bool := allK (fun _ b => cubeB b) 0 s && (decide ((s.length : Int) = n) && inR n 1 8)
end Go.Proofs.Ytpldcngejdgdkaa

namespace Go.Proofs.Ytpldcngejdgdkaa
open Go.RowKit
set_option linter.unusedVariables false
set_option linter.unusedSimpArgs false
/-- The first index of an element that answers. -/
def ixf {α : Type} (q : α → Bool) : Nat → List α → Int
  | _, [] => -1
  | k, x :: r => if q x = true then (k : Int) else ixf q (k + 1) r
theorem rgo_ixf {α : Type} (q : α → Bool) : ∀ (l : List α) (k : Nat), rgo (fun k x => if q x = true then some (some (pI (k : Int))) else none) (some (pI (-1))) k l = some (pI (ixf q k l))
  | [], k => rfl
  | x :: r, k => by
    unfold rgo ixf
    cases q x
    · simp [rgo_ixf q r (k + 1)]
    · simp
theorem ixf_ge {α : Type} (q : α → Bool) : ∀ (l : List α) (k : Nat), decide ((0 : Int) ≤ ixf q k l) = !allK (fun _ x => !q x) k l
  | [], k => rfl
  | x :: r, k => by
    unfold ixf allK
    cases q x
    · simp [ixf_ge q r (k + 1)]
    · simp
theorem rangeIx {α : Type} (l : List α) (q : α → Bool) (f : (List PV → Option PV) → List PV → Option PV) (hl : l.length ≤ 9223372036854775807)
    (h1 : ∀ again k x, l[k]? = some x → f again [pI (Int.ofNat k)] = if q x = true then some (pI (k : Int)) else again [pI (Int.ofNat (k + 1))])
    (h2 : ∀ again, f again [pI (Int.ofNat l.length)] = some (pI (-1))) : loopR f 18446744073709551616 [pI (Int.ofNat 0)] = some (pI (ixf q 0 l)) := by
  rw [range1 l (fun k x => if q x = true then some (some (pI (k : Int))) else none) (some (pI (-1))) f hl (fun again k x hx => ?_) h2, rgo_ixf]
  rw [h1 again k x hx]
  cases q x <;> simp
theorem caps1 (l : List PV) : capsOf 1 (.tup [.agg l]) = some [.agg l] := by simp [capsOf, PV.parts, PV.isU]
theorem p_i_areSignals_1 (a x : List UInt8 × Int) : s_i_areSignals_1 [eSig a, eSig x] = some (pB (decide (a.1 = x.1))) := by
  show (fun x0 x1 => s_i_areSignals_1 [x0, x1]) _ _ = _
  rw [sh_i_areSignals_1]
  simp only [eSig, List.drop_zero, EVS]
theorem p_g_slices_IndexFunc_Signal__i_areSignals_1 (l : List (List UInt8 × Int)) (x : List UInt8 × Int) (hl : Fits l) : s_g_slices_IndexFunc_Signal__i_areSignals_1 [.lst (l.map eSig), .tup [eSig x]] = some (pI (ixf (fun a => decide (a.1 = x.1)) 0 l)) := by
  show (fun x0 x1 => s_g_slices_IndexFunc_Signal__i_areSignals_1 [x0, x1]) _ _ = _
  rw [sh_g_slices_IndexFunc_Signal__i_areSignals_1]
  unfold Fits at hl
  simp only [EVS]
  refine (congrArg (scOnly true) (rangeIx l (fun a => decide (a.1 = x.1)) _ hl (fun again k a hb => ?_) (fun again => ?_))).trans ?_
  · have hk := lt_of_some hb
    have hi : idxV (.lst (l.map eSig)) (.int .i64 (k : Int)) = some (eSig a) := idx_map hb
    have g := p_i_areSignals_1 a x
    simp only [eSig] at g
    simp only [lt_d hk, next_w hk hl, hi, eSig, caps1, List.cons_append, List.nil_append, g, EVS]
  · simp only [ge_d, EVS]
    rfl
  · simp only [EVS]
theorem p_g_slices_ContainsFunc_Signal__i_areSignals_1 (l : List (List UInt8 × Int)) (x : List UInt8 × Int) (hl : Fits l) : s_g_slices_ContainsFunc_Signal__i_areSignals_1 [.lst (l.map eSig), .tup [eSig x]] = some (pB (!allK (fun _ a => !decide (a.1 = x.1)) 0 l)) := by
  show (fun x0 x1 => s_g_slices_ContainsFunc_Signal__i_areSignals_1 [x0, x1]) _ _ = _
  rw [sh_g_slices_ContainsFunc_Signal__i_areSignals_1]
  simp only [p_g_slices_IndexFunc_Signal__i_areSignals_1 l x hl, ixf_ge (fun a : List UInt8 × Int => decide (a.1 = x.1)) l 0, EVS]
end Go.Proofs.Ytpldcngejdgdkaa

namespace Go.Proofs.Ytpldcngejdgdkaa
open Go.RowKit
set_option linter.unusedVariables false
set_option linter.unusedSimpArgs false
theorem cut_n (n : Nat) : True := trivial
def pinsIn (l : List (Int × Bool)) (n : Nat) : Bool := allK (fun _ p => inR p.1 0 ((n : Int) - 1)) 0 l
end Go.Proofs.Ytpldcngejdgdkaa

namespace Go.Proofs.Ytpldcngejdgdkaa
open Go.RowKit
set_option linter.unusedVariables false
set_option linter.unusedSimpArgs false
theorem eqPin (a c : Int) (b d : Bool) : eqV (some [(0, TD.int .i64), (1, TD.bool)]) .struct (.agg [pI a, pB b]) (.agg [pI c, pB d]) = some (decide (a = c) && (b == d)) := by
  simp [eqV, eqAt, scEq, beq_eq_decide]
theorem zp_bool : ZC.bool.pv = pB false := (Eq.refl _).trans (Eq.refl _)
theorem sp12 (a b c : PV) : splice [a, b] 0 [c] = [c, b] := (Eq.refl _).trans (Eq.refl _)
def coverI (n : Int) (l : List (List UInt8)) : Bool := (inR n 1 8 && decide ((l.length : Int) ≤ 60)) && allK (fun _ c => cubeP' c n) 0 l
def wireForm (n : PNet) (k : Nat) (w : PWire) : Bool :=
  if decide (w.kind = 1) = true then decide ((w.ins.length : Int) = 0)
  else if (decide (w.kind = 2) || decide (w.kind = 3)) = true then inR w.ins.length 1 8
  else if decide (w.kind = 4) = true then decide ((w.ins.length : Int) = 2)
  else if decide (w.kind = 5) = true then coverI n.signals.length w.cover && (decide ((w.ins.length : Int) = 0) || (match w.ins with | [p] => decide (p.1 = (k : Int)) && (p.2 == false) | _ => false))
  else false
def wireI (n : PNet) (k : Nat) (w : PWire) : Bool := !((!decide (w.kind = 5) && decide ((0 : Int) < w.cover.length)) || !pinsIn w.ins n.wires.length) && wireForm n k w
end Go.Proofs.Ytpldcngejdgdkaa

namespace Go.Proofs.Ytpldcngejdgdkaa
open Go.RowKit
set_option linter.unusedVariables false
set_option linter.unusedSimpArgs false
def sigOkI (l : List (List UInt8 × Int)) (k : Nat) (s : List UInt8 × Int) : Bool := (isNameP s.1 && inR s.2 1 3) && allK (fun _ a => !decide (a.1 = s.1)) 0 (l.take k)
def sigsI (l : List (List UInt8 × Int)) : Bool := allK (sigOkI l) 0 l && inR l.length 1 8
theorem p_i_areSignals (l : List (List UInt8 × Int)) (hl : Fits l) (hs : ∀ s ∈ l, Fits s.1) : s_i_areSignals [.lst (l.map eSig)] = some (pB (sigsI l)) := by
  unfold Fits at hl
  show (fun x0 => s_i_areSignals [x0]) _ = _
  rw [sh_i_areSignals]
  simp only [EVS]
  refine (congrArg (scOnly true) (rangeAll (R := PV) l (sigOkI l) (some (pB false)) (some (pB (inR l.length 1 8))) _ hl (fun again k s hb => ?_) (fun again => ?_))).trans ?_
  · have hk := lt_of_some hb
    have hi : idxV (.lst (l.map eSig)) (.int .i64 (k : Int)) = some (eSig s) := idx_map hb
    have hc : cutL 2 (.lst (l.map eSig)) none (some (.int .i64 (k : Int))) = some (.lst ((l.take k).map eSig)) := cut_map okEl_eSig (by omega)
    have hn := p_i_isName' s.1 (hs s (List.mem_of_getElem? hb))
    have g := p_g_slices_ContainsFunc_Signal__i_areSignals_1 (l.take k) s (by show (l.take k).length ≤ _; simp; omega)
    simp only [eSig] at g
    simp only [lt_d hk, next_w hk hl, hi, eSig, hn, sigOkI, EVS]
    obtain c1 | c1 := (Bool.eq_false_or_eq_true (isNameP s.1)).symm <;> simp only [c1, p_i_within, EVS]
    obtain c2 | c2 := (Bool.eq_false_or_eq_true (inR s.2 1 3)).symm <;> simp only [c2, EVS]
    simp only [hc, List.drop_zero, lt_tup, g, EVS]
    obtain c3 | c3 := (Bool.eq_false_or_eq_true (allK (fun _ (a : List UInt8 × Int) => !decide (a.1 = s.1)) 0 (l.take k))).symm <;> simp only [c3, EVS]
  · simp only [ge_d, p_i_within, EVS]
  · unfold sigsI
    cases allK (sigOkI l) 0 l <;> simp only [EVS]
/-- Each wire is right, in the words of the program. -/
def netWireI (n : PNet) (k : Nat) (w : PWire) : Bool :=
  (wireI n k w && isNameP w.name && allK (fun _ v => !decide (v.name = w.name)) 0 (n.wires.take k)) &&
  (if decide ((k : Int) < (n.signals.length : Int)) = true then wireSeen n k w else (decide (w.kind = 2) || decide (w.kind = 3)) && pinsIn w.ins k)
def netI (n : PNet) : Bool := (sigsI n.signals && inR n.wires.length n.signals.length 24) && allK (netWireI n) 0 n.wires
end Go.Proofs.Ytpldcngejdgdkaa

namespace Go.Proofs.Ytpldcngejdgdkaa
open Go.RowKit
set_option linter.unusedVariables false
set_option linter.unusedSimpArgs false
theorem allK_all {α : Type} (q : α → Bool) : ∀ (l : List α) (k : Nat), allK (fun _ x => q x) k l = l.all q
  | [], _ => rfl
  | x :: r, k => by unfold allK; rw [allK_all q r (k + 1), List.all_cons]
theorem allK_congr {α : Type} (f g : Nat → α → Bool) (h : ∀ k x, f k x = g k x) : ∀ (l : List α) (k : Nat), allK f k l = allK g k l
  | [], _ => rfl
  | x :: r, k => by unfold allK; rw [h k x, allK_congr f g h r (k + 1)]
theorem sigs_eq (l : List (List UInt8 × Int)) : sigsP l = sigsI l := by
  unfold sigsP sigsI
  rw [allK_congr (sigOk l) (sigOkI l) (fun k x => ?_) l 0]
  unfold sigOk sigOkI
  rw [allK_congr (fun _ (y : List UInt8 × Int) => !decide (x.1 = y.1)) (fun _ (y : List UInt8 × Int) => !decide (y.1 = x.1)) (fun _ y => by simp [eq_comm]) _ 0]
theorem cover_eq (n : Int) (l : List (List UInt8)) : goodP n l = coverI n l := by
  unfold goodP coverI coverGo
  rw [Bool.and_comm, Bool.eq_iff_iff]
  simp only [Bool.and_eq_true]
  refine and_congr_right fun h => ?_
  rw [allK_congr (fun _ c => cubeP c && decide ((c.length : Int) = n)) (fun _ c => cubeP' c n) (fun _ c => ?_) l 0]
  unfold cubeP cubeP' inR
  rw [Bool.eq_iff_iff]
  simp only [Bool.and_eq_true, decide_eq_true_eq]
  constructor
  · rintro ⟨⟨h1, h2, h3⟩, h4⟩
    exact ⟨h1, h4, by omega, by omega⟩
  · rintro ⟨h1, h2, h3, h4⟩
    exact ⟨⟨h1, by omega, by omega⟩, h2⟩
theorem pins_seen (n : PNet) (k : Nat) (l : List (Int × Bool)) (h : k < n.signals.length) : allK (fun _ p => pinOk n k p) 0 l = pinsIn l n.wires.length := by
  unfold pinsIn
  refine allK_congr _ _ (fun _ p => ?_) l 0
  unfold pinOk
  have : decide ((n.signals.length : Int) ≤ k) = false := by simp; omega
  rw [this]
  simp
theorem pins_late (n : PNet) (k : Nat) (l : List (Int × Bool)) (h : ¬ k < n.signals.length) : allK (fun _ p => pinOk n k p) 0 l = (pinsIn l n.wires.length && pinsIn l k) := by
  unfold pinsIn
  rw [allK_all, allK_all, allK_all, Bool.eq_iff_iff]
  have : decide ((n.signals.length : Int) ≤ k) = true := by simp; omega
  simp only [Bool.and_eq_true, List.all_eq_true, pinOk, inR, this, Bool.true_and, Bool.not_eq_true', decide_eq_true_eq, decide_eq_false_iff_not]
  constructor
  · intro h
    exact ⟨fun p hp => (h p hp).1, fun p hp => ⟨(h p hp).1.1, by have := (h p hp).2; omega⟩⟩
  · rintro ⟨h1, h2⟩ p hp
    exact ⟨h1 p hp, by have := (h2 p hp).2; omega⟩
theorem form_eq (n : PNet) (k : Nat) (w : PWire) : (inR w.kind 1 5 && ((if decide (w.kind = 5) = true then coverI n.signals.length w.cover else !decide ((0 : Int) < w.cover.length)) && pinForm k w.kind w.ins)) = (!(!decide (w.kind = 5) && decide ((0 : Int) < w.cover.length)) && wireForm n k w) := by
  unfold pinForm wireForm
  by_cases h1 : w.kind = 1
  · simp [h1, inR]
  by_cases h2 : w.kind = 2
  · simp [h2, inR]
  by_cases h3 : w.kind = 3
  · simp [h3, inR]
  by_cases h4 : w.kind = 4
  · simp [h4, inR]
  by_cases h5 : w.kind = 5
  · obtain ⟨nm, kd, ins, cov⟩ := w
    simp only at h5
    rcases ins with _ | ⟨p, _ | ⟨q, r⟩⟩ <;> simp [h5, inR]
  · have : inR w.kind 1 5 = false := by
      unfold inR
      simp only [Bool.and_eq_false_iff, decide_eq_false_iff_not]
      omega
    simp [this, h1, h2, h3, h4, h5]
theorem wire_eq (n : PNet) (k : Nat) (w : PWire) : netWireOk n k w = netWireI n k w := by
  unfold netWireOk netWireI wireP wireI pinsP
  have hf := form_eq n k w
  rw [cover_eq]
  by_cases hk : k < n.signals.length
  · have hd : decide ((k : Int) < (n.signals.length : Int)) = true := by simpa using hk
    rw [pins_seen n k w.ins hk]
    simp only [hd, if_true, Bool.true_or, Bool.not_true, Bool.false_or, Bool.not_false, Bool.false_eq_true, if_false, Bool.true_and]
    revert hf
    generalize inR w.kind 1 5 = a1
    generalize (if decide (w.kind = 5) = true then coverI (↑n.signals.length) w.cover else !decide ((0 : Int) < ↑w.cover.length)) = a2
    generalize pinForm k w.kind w.ins = a3
    generalize (!decide (w.kind = 5) && decide ((0 : Int) < w.cover.length)) = a4
    generalize wireForm n k w = a5
    generalize pinsIn w.ins n.wires.length = a6
    generalize wireSeen n k w = a7
    generalize isNameP w.name = a8
    generalize allK (fun _ (v : PWire) => !decide (v.name = w.name)) 0 (n.wires.take k) = a9
    cases a1 <;> cases a2 <;> cases a3 <;> cases a4 <;> cases a5 <;> cases a6 <;> cases a7 <;> cases a8 <;> cases a9 <;> decide
  · have hd : decide ((k : Int) < (n.signals.length : Int)) = false := by simpa using hk
    rw [pins_late n k w.ins hk]
    simp only [hd, if_true, Bool.true_or, Bool.not_true, Bool.false_or, Bool.not_false, Bool.false_eq_true, if_false, Bool.true_and]
    revert hf
    generalize inR w.kind 1 5 = a1
    generalize (if decide (w.kind = 5) = true then coverI (↑n.signals.length) w.cover else !decide ((0 : Int) < ↑w.cover.length)) = a2
    generalize pinForm k w.kind w.ins = a3
    generalize (!decide (w.kind = 5) && decide ((0 : Int) < w.cover.length)) = a4
    generalize wireForm n k w = a5
    generalize pinsIn w.ins n.wires.length = a6
    generalize isNameP w.name = a8
    generalize pinsIn w.ins k = a7
    generalize decide (w.kind = 2) = b2
    generalize decide (w.kind = 3) = b3
    generalize allK (fun _ (v : PWire) => !decide (v.name = w.name)) 0 (n.wires.take k) = a9
    cases a1 <;> cases a2 <;> cases a3 <;> cases a4 <;> cases a5 <;> cases a6 <;> cases a7 <;> cases a8 <;> cases a9 <;> cases b2 <;> cases b3 <;> decide
theorem net_eq (n : PNet) : netP n = netI n := by
  unfold netP netI
  rw [sigs_eq, allK_congr (netWireOk n) (netWireI n) (fun k x => wire_eq n k x) n.wires 0]
  congr 2
  unfold inR
  rw [Bool.eq_iff_iff]
  simp
end Go.Proofs.Ytpldcngejdgdkaa

namespace Go.Proofs.Ytpldcngejdgdkaa
open Go.RowKit
set_option linter.unusedVariables false
set_option linter.unusedSimpArgs false
def bitB (b : UInt8) : Bool := decide ((b.toNat : Int) = 48) || decide ((b.toNat : Int) = 49)
def bitsP (s : List UInt8) (n : Int) : Bool := allK (fun _ b => bitB b) 0 s && decide ((s.length : Int) = n)
theorem p_i_isBits (s : List UInt8) (n : Int) (hs : Fits s) : s_i_isBits [.str s, pI n] = some (pB (bitsP s n)) := by
  unfold Fits at hs
  show (fun x0 x1 => s_i_isBits [x0, x1]) _ _ = _
  rw [sh_i_isBits]
  refine (congrArg (scOnly true) (rangeAll (R := PV) s (fun _ b => bitB b) (some (pB false)) (some (pB (decide ((s.length : Int) = n)))) _ hs (fun again k b hb => ?_) (fun again => ?_))).trans ?_
  · have hk := lt_of_some hb
    simp only [bitB, lt_d hk, next_w hk hs, byteV_at hb, EVS]
    obtain c1 | c1 := (Bool.eq_false_or_eq_true (decide ((b.toNat : Int) = 48))).symm <;> simp only [c1, byteV_at hb, EVS]
    obtain c2 | c2 := (Bool.eq_false_or_eq_true (decide ((b.toNat : Int) = 49))).symm <;> simp only [c2, byteV_at hb, EVS]
  · simp only [ge_d, EVS]
  · unfold bitsP
    cases allK (fun _ b => bitB b) 0 s <;> simp only [EVS]
def valuesP (n : PNet) (s : List UInt8) : Bool := netP n && bitsP s n.wires.length
/-- What a pin reads. -/
def pinV (p : Int × Bool) (s : List UInt8) : Bool := match s[p.1.toNat]? with | some b => decide ((b.toNat : Int) = 49) != p.2 | none => false
theorem pin_at {p : Int × Bool} {s : List UInt8} (h0 : 0 ≤ p.1) (h1 : p.1 < s.length) : ∃ b : UInt8, s[p.1.toNat]? = some b ∧ byteV (.str s) (pI p.1) = some (pU b) := by
  have h2 : p.1.toNat < s.length := by omega
  refine ⟨s[p.1.toNat], List.getElem?_eq_getElem h2, ?_⟩
  have := byteV_at (k := .i64) (List.getElem?_eq_getElem h2)
  rw [Int.toNat_of_nonneg h0] at this
  exact this
/-- A cube holds a code. -/
def hasB (code : List UInt8) (k : Nat) (b : UInt8) : Bool := decide ((b.toNat : Int) = 45) || (match code[k]? with | some c => decide ((b.toNat : Int) = c.toNat) | none => false)
def hasP (cube code : List UInt8) : Bool := allK (hasB code) 0 cube
end Go.Proofs.Ytpldcngejdgdkaa

namespace Go.Proofs.Ytpldcngejdgdkaa
open Go.RowKit
set_option linter.unusedVariables false
set_option linter.unusedSimpArgs false
theorem allK_at {α : Type} (q : Nat → α → Bool) : ∀ (l : List α) (j : Nat), allK q j l = true → ∀ (i : Nat) (x : α), l[i]? = some x → q (j + i) x = true
  | [], j, _, i, x, hx => by simp at hx
  | y :: r, j, h, i, x, hx => by
    unfold allK at h
    rw [Bool.and_eq_true] at h
    cases i with
    | zero => simp at hx; subst hx; simpa using h.1
    | succ i =>
      have := allK_at q r (j + 1) h.2 i x (by simpa using hx)
      rw [show j + (i + 1) = j + 1 + i by omega]
      exact this
theorem allK_mem {α : Type} (q : α → Bool) {l : List α} (h : allK (fun _ x => q x) 0 l = true) {x : α} (hx : x ∈ l) : q x = true := by
  rw [allK_all] at h
  exact List.all_eq_true.1 h x hx
def bitU (u : Bool) : UInt8 := if u = true then 49 else 48
theorem bitB_bitU (u : Bool) : bitB (bitU u) = true := by cases u <;> decide
theorem set_cut {α : Type} (c : List α) (i : Nat) (b : α) (h : i < c.length) : c.take i ++ [b] ++ c.drop (i + 1) = c.set i b := by
  rw [List.set_eq_take_append_cons_drop, if_pos h, List.append_assoc]
  rfl
theorem bitsP_iff {s : List UInt8} {n : Nat} : bitsP s n = true ↔ (∀ b ∈ s, bitB b = true) ∧ s.length = n := by
  unfold bitsP
  rw [allK_all, Bool.and_eq_true, List.all_eq_true, decide_eq_true_eq]
  constructor
  · rintro ⟨h1, h2⟩; exact ⟨h1, by omega⟩
  · rintro ⟨h1, h2⟩; exact ⟨h1, by omega⟩
theorem bits_set {v : List UInt8} {N k : Nat} (h : bitsP v N = true) (u : Bool) : bitsP (v.set k (bitU u)) N = true := by
  rw [bitsP_iff] at h ⊢
  refine ⟨fun b hb => ?_, by simpa using h.2⟩
  rcases List.mem_or_eq_of_mem_set hb with hb | rfl
  · exact h.1 b hb
  · exact bitB_bitU u
theorem bits_pad {c : List UInt8} {m N : Nat} (h : bitsP c m = true) (hm : m ≤ N) : bitsP (c ++ List.replicate (N - m) 48) N = true := by
  rw [bitsP_iff] at h ⊢
  refine ⟨fun b hb => ?_, by simp [h.2]; omega⟩
  rcases List.mem_append.1 hb with hb | hb
  · exact h.1 b hb
  · obtain ⟨_, rfl⟩ := List.mem_replicate.1 hb; decide
theorem bitB_iff (b : UInt8) : bitB b = true ↔ b = 48 ∨ b = 49 := by
  unfold bitB
  rw [Bool.or_eq_true, decide_eq_true_eq, decide_eq_true_eq]
  have h48 : (48 : UInt8).toNat = 48 := rfl
  have h49 : (49 : UInt8).toNat = 49 := rfl
  constructor
  · rintro (h | h)
    · exact .inl (UInt8.toNat_inj.1 (by omega))
    · exact .inr (UInt8.toNat_inj.1 (by omega))
  · rintro (rfl | rfl)
    · exact .inl rfl
    · exact .inr rfl
end Go.Proofs.Ytpldcngejdgdkaa

namespace Go.Proofs.Ytpldcngejdgdkaa
open Go.RowKit
set_option linter.unusedVariables false
set_option linter.unusedSimpArgs false
theorem convB_s (s : List UInt8) (h : s.length ≤ 9223372036854775807) : convB (.str s) = some (.lst (s.map pU)) := by
  unfold convB
  simp only
  rw [if_pos h]
theorem se_int (k k' : IntKind) (m n : Int) : storeEl 0 1 [.int k m] (.int k m) (.int k' n) = some (.int k' n) := rfl
theorem set_map {α : Type} (f : α → PV) (l : List α) (i : Nat) (x : α) : (l.map f).set i (f x) = (l.set i x).map f := by rw [List.map_set]
end Go.Proofs.Ytpldcngejdgdkaa

namespace Go.Proofs.Ytpldcngejdgdkaa
open Go.RowKit
set_option linter.unusedVariables false
set_option linter.unusedSimpArgs false
/-! NETS: validity, marks, what is enabled, firing. -/
def eTr (t : Tr) : PV := .agg [.lst (t.pre.map pI), .lst (t.post.map pI)]
def eNt (n : Net) : PV := .agg [pI n.places, .lst (n.trans.map eTr)]
structure TrFit (t : Tr) : Prop where
  pre : Fits t.pre
  post : Fits t.post
structure NtFit (n : Net) : Prop where
  trans : Fits n.trans
  each : ∀ t ∈ n.trans, TrFit t
theorem okEl_eTr (t : Tr) : okEl 2 (eTr t) = true := rfl
/-- The number ahead of place k of a row, -1 at its head. -/
def prev (l : List Int) (k : Nat) : Int := if k = 0 then -1 else l.getD (k - 1) 0
theorem inc_all (hi : Int) (l : List Int) : allK (fun k x => inB x 0 hi && decide (prev l k < x)) 0 l = incB hi l := by
  suffices h : ∀ (a r : List Int), l = a ++ r → allK (fun k x => inB x 0 hi && decide (prev l k < x)) a.length r = goInc hi (prev l a.length) r by
    have := h [] l rfl
    simpa [prev, incB] using this
  intro a r
  induction r generalizing a with
  | nil => intro _; rfl
  | cons x r ih =>
    intro e
    have e2 := ih (a ++ [x]) (by simp [e])
    have hp : prev l (a.length + 1) = x := by unfold prev; rw [if_neg (by omega), e]; simp
    simp only [List.length_append, List.length_cons, List.length_nil, Nat.zero_add] at e2
    unfold allK goInc
    rw [e2, hp]
theorem sub_1 {k : Nat} (h : 0 < k) (hk : k ≤ 9223372036854775807) : IntKind.i64.wrap ((k : Int) - 1) = ((k - 1 : Nat) : Int) := by rw [wrap_of (by omega) (by omega)]; omega
theorem prev_at {l : List Int} {k : Nat} (h : 0 < k) (hk : k < l.length) : l[k - 1]? = some (prev l k) := by
  unfold prev
  rw [if_neg (by omega), List.getD_eq_getElem?_getD, List.getElem?_eq_getElem (by omega)]; rfl
theorem p_r_l1Rising (l : List Int) (hi : Int) (hl : Fits l) : s_r_l1Rising [.lst (l.map pI), pI 0, pI hi] = some (pB (incB (hi) l)) := by
  unfold Fits at hl
  show (fun x0 x1 x2 => s_r_l1Rising [x0, x1, x2]) _ _ _ = _
  rw [sh_r_l1Rising, ← inc_all]
  simp only [EVS]
  refine (congrArg (scOnly true) (rangeAll (R := PV) l (fun k x => inB x 0 (hi) && decide (prev l k < x)) (some (pB false)) (some (pB true)) _ hl (fun again k x hx => ?_) (fun again => ?_))).trans ?_
  · have hk := lt_of_some hx
    have hi' : idxV (.lst (l.map pI)) (.int .i64 (k : Int)) = some (pI x) := idx_map hx
    have g := p_r_l1In x 0 (hi)
    have gi : inB x 0 (hi) = (decide ((0 : Int) ≤ x) && decide (x ≤ hi)) := rfl
    rw [← gi] at g
    simp only [lt_d hk, next_w hk hl, hi', g, EVS]
    cases hc : inB x 0 (hi)
    · simp only [EVS]
    · simp only [EVS]
      by_cases c : 0 < k
      · have hj : idxV (.lst (l.map pI)) (.int .i64 ((k - 1 : Nat) : Int)) = some (pI (prev l k)) := idx_map (prev_at c hk)
        have hd : decide ((0 : Int) < (k : Int)) = true := by simpa using c
        simp only [hd, sub_1 c (by omega), hj, EVS]
        by_cases c2 : prev l k < x
        · have : ¬ x ≤ prev l k := by omega
          simp only [c2, this, EVS]
        · have : x ≤ prev l k := by omega
          simp only [c2, this, EVS]
      · obtain rfl : k = 0 := by omega
        have hd : decide ((0 : Int) < (0 : Int)) = false := by decide
        have c2 : prev l 0 < x := by have := (inB_iff.1 hc).1; show (-1 : Int) < x; omega
        simp only [hd, c2, EVS]
  · simp only [ge_d, EVS]
  · cases allK (fun k x => inB x 0 (hi) && decide (prev l k < x)) 0 l <;> rfl
theorem p_i_isIncreasing (l : List Int) (n : Int) (hl : Fits l) (hn1 : -9223372036854775808 ≤ n - 1) (hn2 : n - 1 ≤ 9223372036854775807) : s_i_isIncreasing [.lst (l.map pI), pI n] = some (pB (incB (n - 1) l)) := by
  unfold Fits at hl
  show (fun x0 x1 => s_i_isIncreasing [x0, x1]) _ _ = _
  rw [sh_i_isIncreasing, ← inc_all]
  simp only [EVS]
  refine (congrArg (scOnly true) (rangeAll (R := PV) l (fun k x => inB x 0 (n - 1) && decide (prev l k < x)) (some (pB false)) (some (pB true)) _ hl (fun again k x hx => ?_) (fun again => ?_))).trans ?_
  · have hk := lt_of_some hx
    have hi' : idxV (.lst (l.map pI)) (.int .i64 (k : Int)) = some (pI x) := idx_map hx
    have g := p_i_within x 0 (n - 1)
    have gi : inB x 0 (n - 1) = inR x 0 (n - 1) := rfl
    rw [← gi] at g
    simp only [lt_d hk, next_w hk hl, hi', wrap_of hn1 hn2, g, EVS]
    cases hc : inB x 0 (n - 1)
    · simp only [EVS]
    · simp only [EVS]
      by_cases c : 0 < k
      · have hj : idxV (.lst (l.map pI)) (.int .i64 ((k - 1 : Nat) : Int)) = some (pI (prev l k)) := idx_map (prev_at c hk)
        have hd : decide ((0 : Int) < (k : Int)) = true := by simpa using c
        simp only [hd, sub_1 c (by omega), hj, EVS]
        by_cases c2 : prev l k < x
        · have : ¬ x ≤ prev l k := by omega
          simp only [c2, this, EVS]
        · have : x ≤ prev l k := by omega
          simp only [c2, this, EVS]
      · obtain rfl : k = 0 := by omega
        have hd : decide ((0 : Int) < (0 : Int)) = false := by decide
        have c2 : prev l 0 < x := by have := (inB_iff.1 hc).1; show (-1 : Int) < x; omega
        simp only [hd, c2, EVS]
  · simp only [ge_d, EVS]
  · cases allK (fun k x => inB x 0 (n - 1) && decide (prev l k < x)) 0 l <;> rfl
theorem p_r_l1Set2 (l : List Int) (hi : Int) (hl : Fits l) : s_r_l1Set2 [.lst (l.map pI), pI hi] = some (pB (incB hi l)) := by
  show (fun x0 x1 => s_r_l1Set2 [x0, x1]) _ _ = _
  rw [sh_r_l1Set2]
  have g := p_r_l1Rising l hi hl
  simp only [g, EVS]
theorem emp_d (l : List Int) : decide ((l.length : Int) = 0) = l.isEmpty := by cases l with
  | nil => rfl
  | cons a l => simp; omega
theorem p_r_l1Good (n : Net) (hn : NtFit n) : s_r_l1Good [eNt n] = some (pB (goodNet n)) := by
  have hl := hn.trans
  unfold Fits at hl
  show (fun x0 => s_r_l1Good [x0]) _ = _
  rw [sh_r_l1Good]
  simp only [eNt, EVS]
  obtain ⟨W, hW⟩ : ∃ W, IntKind.i64.wrap (n.places - 1) = W := ⟨_, rfl⟩
  refine (congrArg (fun m : Option PV => m.bind fun r => if r.sc = true then some r else none) (rangeAll (R := PV) n.trans (fun k t => !t.pre.isEmpty && incB W t.pre && incB W t.post) (some (pB false)) (some (pB (inB n.places 1 30 && decide (n.trans.length ≤ 24)))) _ hl (fun again k t hx => ?_) (fun again => ?_))).trans ?_
  · have hk := lt_of_some hx
    have ht := hn.each t (List.mem_of_getElem? hx)
    have hi' : idxV (.lst (n.trans.map eTr)) (.int .i64 (k : Int)) = some (eTr t) := idx_map hx
    have g1 := p_r_l1Set2 t.pre W ht.pre
    have g2 := p_r_l1Set2 t.post W ht.post
    simp only [lt_d hk, next_w hk hl, hi', eTr, emp_d, hW, g1, g2, EVS]
    cases c1 : t.pre.isEmpty <;> cases c2 : incB W t.pre <;> cases c3 : incB W t.post <;> simp only [c1, c2, c3, hW, g1, g2, EVS]
  · have g := p_r_l1In n.places 1 30
    have gi : inB n.places 1 30 = (decide ((1 : Int) ≤ n.places) && decide (n.places ≤ 30)) := rfl
    rw [← gi] at g
    have hd : decide ((n.trans.length : Int) ≤ 24) = decide (n.trans.length ≤ 24) := by rw [Bool.eq_iff_iff]; simp; omega
    simp only [ge_d, g, EVS]
    cases inB n.places 1 30 <;> simp only [hd, EVS]
  · rw [allK_all]
    unfold goodNet
    cases c : inB n.places 1 30
    · cases n.trans.all (fun t => !t.pre.isEmpty && incB W t.pre && incB W t.post) <;> simp only [EVS] <;> rfl
    · have hw : W = n.places - 1 := by rw [← hW]; have := inB_iff.1 c; exact wrap_of (by omega) (by omega)
      subst hw
      have hh : (n.trans.all fun t => !t.pre.isEmpty && incB (n.places - 1) t.pre && incB (n.places - 1) t.post) = n.trans.all (trB n.places) := rfl
      rw [hh]
      cases n.trans.all (trB n.places) <;> simp only [EVS] <;> rfl
theorem p_i_IsValidNet_1 (t : Tr) (n : Net) (ht : TrFit t) (hp : -9223372036854775808 ≤ n.places - 1 ∧ n.places - 1 ≤ 9223372036854775807) : s_i_IsValidNet_1 [eTr t, .agg [pI n.places, .lst (n.trans.map eTr)]] = some (pB (!trB n.places t)) := by
  have g1 := p_i_isIncreasing t.pre n.places ht.pre hp.1 hp.2
  have g2 := p_i_isIncreasing t.post n.places ht.post hp.1 hp.2
  show (fun x0 x1 => s_i_IsValidNet_1 [x0, x1]) _ _ = _
  rw [sh_i_IsValidNet_1]
  simp only [eTr, emp_d, List.drop_zero, EVS]
  unfold trB
  cases c1 : t.pre.isEmpty <;> cases c2 : incB (n.places - 1) t.pre <;> cases c3 : incB (n.places - 1) t.post <;> simp only [c1, c2, c3, g1, g2, EVS]
theorem p_g_slices_IndexFunc_Transition__i_IsValidNet_1 (n : Net) (hn : NtFit n) (hp : -9223372036854775808 ≤ n.places - 1 ∧ n.places - 1 ≤ 9223372036854775807) : s_g_slices_IndexFunc_Transition__i_IsValidNet_1 [.lst (n.trans.map eTr), .tup [.agg [pI n.places, .lst (n.trans.map eTr)]]] = some (pI (ixf (fun t => !trB n.places t) 0 n.trans)) := by
  show (fun x0 x1 => s_g_slices_IndexFunc_Transition__i_IsValidNet_1 [x0, x1]) _ _ = _
  rw [sh_g_slices_IndexFunc_Transition__i_IsValidNet_1]
  have hl := hn.trans
  unfold Fits at hl
  simp only [EVS]
  refine (congrArg (fun m : Option PV => m.bind fun r => if r.sc = true then some r else none) (rangeIx n.trans (fun t => !trB n.places t) _ hl (fun again k a hb => ?_) (fun again => ?_))).trans ?_
  · have hk := lt_of_some hb
    have hi : idxV (.lst (n.trans.map eTr)) (.int .i64 (k : Int)) = some (eTr a) := idx_map hb
    have g := p_i_IsValidNet_1 a n (hn.each a (List.mem_of_getElem? hb)) hp
    simp only [eTr] at g
    simp only [lt_d hk, next_w hk hl, hi, eTr, caps1, List.cons_append, List.nil_append, EVS]
    simp only [eTr] at hi
    simp only [g, EVS]
  · simp only [ge_d, EVS]
    rfl
  · simp only [EVS]
theorem p_g_slices_ContainsFunc_Transition__i_IsValidNet_1 (n : Net) (hn : NtFit n) (hp : -9223372036854775808 ≤ n.places - 1 ∧ n.places - 1 ≤ 9223372036854775807) : s_g_slices_ContainsFunc_Transition__i_IsValidNet_1 [.lst (n.trans.map eTr), .tup [.agg [pI n.places, .lst (n.trans.map eTr)]]] = some (pB (!n.trans.all (trB n.places))) := by
  show (fun x0 x1 => s_g_slices_ContainsFunc_Transition__i_IsValidNet_1 [x0, x1]) _ _ = _
  rw [sh_g_slices_ContainsFunc_Transition__i_IsValidNet_1]
  simp only [p_g_slices_IndexFunc_Transition__i_IsValidNet_1 n hn hp, ixf_ge (fun t => !trB n.places t) n.trans 0, Bool.not_not, allK_all, EVS]
theorem p_i_IsValidNet (n : Net) (hn : NtFit n) : s_i_IsValidNet [eNt n] = some (pB (goodNet n)) := by
  have g0 := p_i_within n.places 1 30
  have gi : inB n.places 1 30 = inR n.places 1 30 := rfl
  rw [← gi] at g0
  have hd : decide ((24 : Int) < (n.trans.length : Int)) = !decide (n.trans.length ≤ 24) := by rw [Bool.eq_iff_iff]; simp; omega
  show (fun x0 => s_i_IsValidNet [x0]) _ = _
  rw [sh_i_IsValidNet]
  unfold goodNet
  simp only [eNt, g0, EVS]
  cases c1 : inB n.places 1 30
  · simp only [EVS]
  have hp := inB_iff.1 c1
  have g := p_g_slices_ContainsFunc_Transition__i_IsValidNet_1 n hn ⟨by omega, by omega⟩
  cases c2 : decide (n.trans.length ≤ 24) <;> simp only [c2, hd, List.drop_zero, g, Bool.not_not, EVS]
theorem bits_allK (s : List UInt8) : allK (fun _ b => bitB b) 0 s = goBits s := by
  rw [allK_all]
  induction s with
  | nil => rfl
  | cons b r ih =>
    simp only [List.all_cons, goBits, ih]
    have : bitB b = (b == 48 || b == 49) := by
      rw [Bool.eq_iff_iff, bitB_iff]; simp
    rw [this]
end Go.Proofs.Ytpldcngejdgdkaa

namespace Go.Proofs.Ytpldcngejdgdkaa
open Go.RowKit
set_option linter.unusedVariables false
set_option linter.unusedSimpArgs false
theorem by_49 (b : UInt8) : decide ((b.toNat : Int) = 49) = (b == 49) := by
  rw [Bool.eq_iff_iff]; simp only [decide_eq_true_eq, beq_iff_eq]
  exact ⟨fun h => UInt8.toNat_inj.1 (by show b.toNat = 49; omega), fun h => by subst h; rfl⟩
theorem by_48 (b : UInt8) : decide ((b.toNat : Int) = 48) = (b == 48) := by
  rw [Bool.eq_iff_iff]; simp only [decide_eq_true_eq, beq_iff_eq]
  exact ⟨fun h => UInt8.toNat_inj.1 (by show b.toNat = 48; omega), fun h => by subst h; rfl⟩
theorem bitsP_B (s : List UInt8) (n : Int) : bitsP s n = bitsB s n := by unfold bitsP bitsB; rw [bits_allK]
theorem p_r_l1Mark (n : Net) (m : List UInt8) (hm : Fits m) : s_r_l1Mark [eNt n, .str m] = some (pB (bitsB m n.places)) := by
  unfold Fits at hm
  show (fun x0 x1 => s_r_l1Mark [x0, x1]) _ _ = _
  rw [sh_r_l1Mark]
  simp only [eNt, EVS]
  refine (congrArg (fun m : Option PV => m.bind fun r => if r.sc = true then some r else none) (rangeAll (R := PV) m (fun _ b => bitB b) (some (pB false)) (some (pB (decide ((m.length : Int) = n.places)))) _ hm (fun again k b hx => ?_) (fun again => ?_))).trans ?_
  · have hk := lt_of_some hx
    have hb := byteV_at (k := .i64) hx
    unfold bitB
    simp only [lt_d hk, next_w hk hm, hb, EVS]
    cases c : decide ((b.toNat : Int) = 48) <;> cases c2 : decide ((b.toNat : Int) = 49) <;> simp only [c, c2, hb, EVS]
  · simp only [ge_d, EVS]
  · rw [bits_allK]
    unfold bitsB
    cases goBits m <;> simp only [EVS] <;> rfl
theorem p_r_l7Asked (n : Net) (m : List UInt8) (hn : NtFit n) (hm : Fits m) : s_r_l7Asked [eNt n, .str m] = some (pB (goodMark n m)) := by
  have g1 := p_r_l1Good n hn
  have g2 := p_r_l1Mark n m hm
  show (fun x0 x1 => s_r_l7Asked [x0, x1]) _ _ = _
  rw [sh_r_l7Asked]
  unfold goodMark
  simp only [eNt] at g1 g2 ⊢
  cases c : goodNet n <;> simp only [c, g1, g2, EVS]
theorem p_i_IsValidMarking (n : Net) (m : List UInt8) (hn : NtFit n) (hm : Fits m) : s_i_IsValidMarking [eNt n, .str m] = some (pB (goodMark n m)) := by
  have g1 := p_i_IsValidNet n hn
  have g2 := p_i_isBits m n.places hm
  rw [bitsP_B] at g2
  show (fun x0 x1 => s_i_IsValidMarking [x0, x1]) _ _ = _
  rw [sh_i_IsValidMarking]
  unfold goodMark
  simp only [eNt] at g1 g2 ⊢
  cases c : goodNet n <;> simp only [c, g1, g2, EVS]
theorem getD_at {m : List UInt8} {j : Nat} (h : j < m.length) : m[j]? = some (m.getD j 0) := by
  rw [List.getD_eq_getElem?_getD, List.getElem?_eq_getElem h]; rfl
theorem p_r_l1Ready (n : Net) (m : List UInt8) (k : Nat) (t : Tr) (hg : goodMark n m = true) (ht : n.trans[k]? = some t) (hf : TrFit t) : s_r_l1Ready [eNt n, .str m, pI k] = some (pB (enB m t)) := by
  have hl := hf.pre
  unfold Fits at hl
  have hpl := (good_tr hg ht).1
  have hi : idxV (.lst (n.trans.map eTr)) (.int .i64 (k : Int)) = some (eTr t) := idx_map ht
  show (fun x0 x1 x2 => s_r_l1Ready [x0, x1, x2]) _ _ _ = _
  rw [sh_r_l1Ready, ← ready_en (good_bits hg) hpl]
  simp only [eNt, hi, eTr, List.drop_zero, EVS]
  refine (congrArg (fun m : Option PV => m.bind fun r => if r.sc = true then some r else none) (rangeAll (R := PV) t.pre (fun _ p => m.getD p.toNat 0 == 49) (some (pB false)) (some (pB true)) _ hl (fun again k p hx => ?_) (fun again => ?_))).trans ?_
  · have hk := lt_of_some hx
    have hi' : idxV (.lst (t.pre.map pI)) (.int .i64 (k : Int)) = some (pI p) := idx_map hx
    obtain ⟨h1, h2⟩ := hpl p (List.mem_of_getElem? hx)
    obtain ⟨j, rfl⟩ : ∃ j : Nat, p = j := ⟨p.toNat, by omega⟩
    have hb := byteV_at (k := .i64) (getD_at (m := m) (j := j) (by omega))
    simp only [lt_d hk, next_w hk hl, hi', hb, by_49, Int.toNat_natCast, EVS]
    cases m.getD j 0 == 49 <;> simp only [EVS]
  · simp only [ge_d, EVS]
  · rw [allK_all]
    unfold readyB
    cases t.pre.all (fun p => m.getD p.toNat 0 == 49) <;> simp only [EVS]
theorem p_i_isEnabled_1 (m : List UInt8) (j : Nat) (h : j < m.length) : s_i_isEnabled_1 [pI j, .agg [.str m]] = some (pB (m.getD j 0 == 48)) := by
  have hb := byteV_at (k := .i64) (getD_at (m := m) (j := j) h)
  show (fun x0 x1 => s_i_isEnabled_1 [x0, x1]) _ _ = _
  rw [sh_i_isEnabled_1]
  simp only [hb, by_48, EVS]
theorem p_g_slices_IndexFunc_int__i_isEnabled_1 (l : List Int) (m : List UInt8) (hp : PlacesIn l m.length) (hl : Fits l) : s_g_slices_IndexFunc_int__i_isEnabled_1 [.lst (l.map pI), .tup [.agg [.str m]]] = some (pI (ixf (fun p => m.getD p.toNat 0 == 48) 0 l)) := by
  show (fun x0 x1 => s_g_slices_IndexFunc_int__i_isEnabled_1 [x0, x1]) _ _ = _
  rw [sh_g_slices_IndexFunc_int__i_isEnabled_1]
  unfold Fits at hl
  simp only [EVS]
  refine (congrArg (fun m : Option PV => m.bind fun r => if r.sc = true then some r else none) (rangeIx l (fun p => m.getD p.toNat 0 == 48) _ hl (fun again k a hb => ?_) (fun again => ?_))).trans ?_
  · have hk := lt_of_some hb
    have hi : idxV (.lst (l.map pI)) (.int .i64 (k : Int)) = some (pI a) := idx_map hb
    obtain ⟨h1, h2⟩ := hp a (List.mem_of_getElem? hb)
    obtain ⟨j, rfl⟩ : ∃ j : Nat, a = j := ⟨a.toNat, by omega⟩
    have g := p_i_isEnabled_1 m j (by omega)
    simp only [lt_d hk, next_w hk hl, hi, caps1, List.cons_append, List.nil_append, g, Int.toNat_natCast, EVS]
  · simp only [ge_d, EVS]
    rfl
  · simp only [EVS]
theorem p_g_slices_ContainsFunc_int__i_isEnabled_1 (l : List Int) (m : List UInt8) (hp : PlacesIn l m.length) (hl : Fits l) : s_g_slices_ContainsFunc_int__i_isEnabled_1 [.lst (l.map pI), .tup [.agg [.str m]]] = some (pB (l.any (fun p => m.getD p.toNat 0 == 48))) := by
  show (fun x0 x1 => s_g_slices_ContainsFunc_int__i_isEnabled_1 [x0, x1]) _ _ = _
  rw [sh_g_slices_ContainsFunc_int__i_isEnabled_1]
  have e : (!l.all fun p => !(m.getD p.toNat 0 == 48)) = l.any (fun p => m.getD p.toNat 0 == 48) := by rw [List.not_all_eq_any_not]; simp
  simp only [p_g_slices_IndexFunc_int__i_isEnabled_1 l m hp hl, ixf_ge (fun p : Int => m.getD p.toNat 0 == 48) l 0, allK_all, e, EVS]
theorem p_i_isEnabled (t : Tr) (m : List UInt8) (hp : PlacesIn t.pre m.length) (hf : TrFit t) : s_i_isEnabled [eTr t, .str m] = some (pB (enB m t)) := by
  have g := p_g_slices_ContainsFunc_int__i_isEnabled_1 t.pre m hp hf.pre
  show (fun x0 x1 => s_i_isEnabled [x0, x1]) _ _ = _
  rw [sh_i_isEnabled]
  unfold enB
  simp only [eTr, List.drop_zero, g, EVS]
theorem fold_en (m : List UInt8) : ∀ (l : List Tr) (k : Nat) (acc : List Int), foldGo (R := PV) (fun (acc : List Int) k t => .inl (if enB m t = true then acc ++ [(k : Int)] else acc)) (fun acc => some (.lst (acc.map pI))) k acc l = some (.lst ((acc ++ goEn m k l).map pI))
  | [], k, acc => by simp [foldGo, goEn]
  | t :: r, k, acc => by
    unfold foldGo goEn
    refine (fold_en m r (k + 1) _).trans ?_
    cases enB m t <;> simp
theorem p_r_l1Enabled (n : Net) (m : List UInt8) (hg : goodMark n m = true) (hn : NtFit n) : s_r_l1Enabled [eNt n, .str m] = some (.lst ((enL n m).map pI)) := by
  have hl : n.trans.length ≤ 24 := by unfold goodMark goodNet at hg; simp only [Bool.and_eq_true, decide_eq_true_eq] at hg; omega
  show (fun x0 x1 => s_r_l1Enabled [x0, x1]) _ _ = _
  rw [sh_r_l1Enabled]
  simp only [eNt, EVS]
  refine (foldLoop (R := PV) n.trans (fun (acc : List Int) k => [.lst (acc.map pI), pI (Int.ofNat k)]) (fun k acc => acc.length ≤ k) (fun acc k t => .inl (if enB m t = true then acc ++ [(k : Int)] else acc)) (fun acc => some (.lst (acc.map pI))) _ (by omega) (fun acc k t acc' hi hx he => ?_) (fun again acc k t hi hx => ?_) (fun again acc hi => ?_) (b := []) (Nat.zero_le _)).trans ?_
  · cases he; split <;> first | (simp; omega) | omega
  · have hk := lt_of_some hx
    have g := p_r_l1Ready n m k t hg hx (hn.each t (List.mem_of_getElem? hx))
    simp only [eNt] at g
    have hla : acc.length + [pI (k : Int)].length ≤ 4294967296 ∧ [pI (k : Int)].all (okEl 1) = true := ⟨by simp; omega, rfl⟩
    simp only [lt_d hk, g, EVS]
    cases enB m t
    · simp only [next_w hk (show n.trans.length ≤ 9223372036854775807 by omega), EVS]
    · simp only [if_pos hla, next_w hk (show n.trans.length ≤ 9223372036854775807 by omega), List.map_append, List.map_cons, List.map_nil, EVS]
  · simp only [ge_d, EVS]
  · rw [fold_en]; rfl
theorem p_i_enabled (n : Net) (m : List UInt8) (hg : goodMark n m = true) (hn : NtFit n) : s_i_enabled [eNt n, .str m] = some (.lst ((enL n m).map pI)) := by
  have hl : n.trans.length ≤ 24 := by unfold goodMark goodNet at hg; simp only [Bool.and_eq_true, decide_eq_true_eq] at hg; omega
  show (fun x0 x1 => s_i_enabled [x0, x1]) _ _ = _
  rw [sh_i_enabled]
  simp only [eNt, EVS]
  refine (foldLoop (R := PV) n.trans (fun (acc : List Int) k => [.lst (acc.map pI), pI (Int.ofNat k)]) (fun k acc => acc.length ≤ k) (fun acc k t => .inl (if enB m t = true then acc ++ [(k : Int)] else acc)) (fun acc => some (.lst (acc.map pI))) _ (by omega) (fun acc k t acc' hi hx he => ?_) (fun again acc k t hi hx => ?_) (fun again acc hi => ?_) (b := []) (Nat.zero_le _)).trans ?_
  · cases he; split <;> first | (simp; omega) | omega
  · have hk := lt_of_some hx
    have hx' : idxV (.lst (n.trans.map eTr)) (.int .i64 (k : Int)) = some (eTr t) := idx_map hx
    have g := p_i_isEnabled t m (good_tr hg hx).1 (hn.each t (List.mem_of_getElem? hx))
    simp only [eTr] at g
    have hla : acc.length + [pI (k : Int)].length ≤ 4294967296 ∧ [pI (k : Int)].all (okEl 1) = true := ⟨by simp; omega, rfl⟩
    simp only [lt_d hk, hx', eTr, g, EVS]
    cases enB m t
    · simp only [next_w hk (show n.trans.length ≤ 9223372036854775807 by omega), EVS]
    · simp only [if_pos hla, next_w hk (show n.trans.length ≤ 9223372036854775807 by omega), List.map_append, List.map_cons, List.map_nil, EVS]
  · simp only [ge_d, EVS]
  · rw [fold_en]; rfl
end Go.Proofs.Ytpldcngejdgdkaa

namespace Go.Proofs.Ytpldcngejdgdkaa
open Go.RowKit
set_option linter.unusedVariables false
set_option linter.unusedSimpArgs false
theorem places_le {n : Net} {m : List UInt8} (hg : goodMark n m = true) : m.length ≤ 30 := by
  have := good_places hg; omega
theorem fold_clear {e : List UInt8 → Option PV} : ∀ (l : List Int) (k : Nat) (m : List UInt8), foldGo (R := PV) (fun (m : List UInt8) _ p => .inl (m.set p.toNat 48)) e k m l = e (clearM l m)
  | [], k, m => rfl
  | p :: r, k, m => by
    unfold foldGo clearM
    exact fold_clear r (k + 1) _
theorem fold_mark : ∀ (l : List Int) (k : Nat) (m : List UInt8), foldGo (R := PV) (fun (m : List UInt8) _ p => if (m.getD p.toNat 0 == 49) = true then .inr (some (.tup [.str [], pB false])) else .inl (m.set p.toNat 49)) (fun m => some (.tup [.str m, pB true])) k m l = some (.tup [.str (optS (markM l m)).1, pB (optS (markM l m)).2])
  | [], k, m => rfl
  | p :: r, k, m => by
    unfold foldGo markM
    by_cases c : (m.getD p.toNat 0 == 49) = true
    · rw [if_pos c, if_pos c]; rfl
    · rw [if_neg c, if_neg c]
      exact fold_mark r (k + 1) _
theorem set_48 (m : List UInt8) (j : Nat) : (m.map pU).set j (.int .u8 48) = (m.set j 48).map pU := set_map pU m j 48
theorem set_49 (m : List UInt8) (j : Nat) : (m.map pU).set j (.int .u8 49) = (m.set j 49).map pU := set_map pU m j 49
theorem mapU_at {m : List UInt8} {j : Nat} (h : j < m.length) : (m.map pU)[j]? = some (pU (m.getD j 0)) := by rw [List.getElem?_map, getD_at h]; rfl
theorem p_r_l1Fire (n : Net) (m : List UInt8) (k : Nat) (t : Tr) (hg : goodMark n m = true) (ht : n.trans[k]? = some t) (hf : TrFit t) : s_r_l1Fire [eNt n, .str m, pI k] = some (.tup [.str (optS (fireM t m)).1, pB (optS (fireM t m)).2]) := by
  have hl1 := hf.pre
  have hl2 := hf.post
  unfold Fits at hl1 hl2
  have hp := good_tr hg ht
  have hm := places_le hg
  have hi : idxV (.lst (n.trans.map eTr)) (.int .i64 (k : Int)) = some (eTr t) := idx_map ht
  show (fun x0 x1 x2 => s_r_l1Fire [x0, x1, x2]) _ _ _ = _
  rw [sh_r_l1Fire]
  simp only [eNt, convB_s m (by omega), hi, eTr, List.drop_zero, EVS]
  refine (congrArg (fun m : Option PV => m.bind fun r => if r.sc = true then some r else none) (foldLoop (R := PV) t.pre (fun (b : List UInt8) k => [.lst (b.map pU), pI (Int.ofNat k)]) (fun _ b => b.length = m.length) (fun (b : List UInt8) _ p => .inl (b.set p.toNat 48)) (fun b => some (.tup [.str (optS (markM t.post b)).1, pB (optS (markM t.post b)).2])) _ hl1 (fun b k p b' hb hx he => ?_) (fun again b k p hb hx => ?_) (fun again b hb => ?_) (b := m) rfl)).trans ?_
  · cases he; simpa using hb
  · have hk := lt_of_some hx
    have hi' : idxV (.lst (t.pre.map pI)) (.int .i64 (k : Int)) = some (pI p) := idx_map hx
    obtain ⟨h1, h2⟩ := hp.1 p (List.mem_of_getElem? hx)
    obtain ⟨j, rfl⟩ : ∃ j : Nat, p = j := ⟨p.toNat, by omega⟩
    have hj : j < b.length := by omega
    have hpl : plcV (b.map pU) (.int .i64 (j : Int)) = some (.int .i64 (j : Int)) := plc_at (by rw [List.length_map]; exact hj)
    simp only [lt_d hk, next_w hk hl1, hi', hpl, mapU_at hj, se_int, set_48, EVS]
  · have hi2 : idxV (.lst (n.trans.map eTr)) (.int .i64 (k : Int)) = some (eTr t) := hi
    simp only [ge_d, hi2, eTr, List.drop_succ_cons, List.drop_zero, EVS]
    refine (foldLoop (R := PV) t.post (fun (b : List UInt8) k => [.lst (b.map pU), pI (Int.ofNat k)]) (fun _ b => b.length = m.length) (fun (b : List UInt8) _ p => if (b.getD p.toNat 0 == 49) = true then .inr (some (.tup [.str [], pB false])) else .inl (b.set p.toNat 49)) (fun b => some (.tup [.str b, pB true])) _ hl2 (fun b k p b' hb hx he => ?_) (fun again b k p hb hx => ?_) (fun again b hb => ?_) (b := b) hb).trans (fold_mark _ _ _)
    · split at he
      · cases he
      · cases he; simpa using hb
    · have hk := lt_of_some hx
      have hi' : idxV (.lst (t.post.map pI)) (.int .i64 (k : Int)) = some (pI p) := idx_map hx
      obtain ⟨h1, h2⟩ := hp.2 p (List.mem_of_getElem? hx)
      obtain ⟨j, rfl⟩ : ∃ j : Nat, p = j := ⟨p.toNat, by omega⟩
      have hj : j < b.length := by omega
      have hpl : plcV (b.map pU) (.int .i64 (j : Int)) = some (.int .i64 (j : Int)) := plc_at (by rw [List.length_map]; exact hj)
      simp only [lt_d hk, next_w hk hl2, hi', hpl, mapU_at hj, se_int, set_49, by_49, EVS]
      cases c : (b.getD j 0 == 49) <;> simp only [hpl, mapU_at hj, se_int, set_49, EVS]
      all_goals rfl
    · simp only [ge_d, bytesOf_map, EVS]
  · rw [fold_clear]
    simp only [EVS, List.all_cons, List.all_nil]
    rfl
theorem fold_fire (n : Net) (m : List UInt8) (k : Nat) (t : Tr) (ht : n.trans[k]? = some t) : fireB n m k = if enB m t = true then fireM t m else none := by
  have hk := lt_of_some ht
  unfold fireB
  rw [if_pos (inB_iff.2 ⟨by omega, by omega⟩), Int.toNat_natCast, ht]
theorem p_i_fire (n : Net) (m : List UInt8) (k : Nat) (t : Tr) (hg : goodMark n m = true) (ht : n.trans[k]? = some t) (hf : TrFit t) : s_i_fire [eNt n, .str m, pI k] = some (.tup [.str (optS (fireB n m k)).1, pB (optS (fireB n m k)).2]) := by
  rw [fold_fire n m k t ht]
  have hlt := lt_of_some ht
  have hl : n.trans.length ≤ 24 := by unfold goodMark goodNet at hg; simp only [Bool.and_eq_true, decide_eq_true_eq] at hg; omega
  have hl1 := hf.pre
  have hl2 := hf.post
  unfold Fits at hl1 hl2
  have hp := good_tr hg ht
  have hm := places_le hg
  have hi : idxV (.lst (n.trans.map eTr)) (.int .i64 (k : Int)) = some (eTr t) := idx_map ht
  have g0 := p_i_within (k : Int) 0 ((n.trans.length : Int) - 1)
  have gi : inR (k : Int) 0 ((n.trans.length : Int) - 1) = true := inB_iff.2 ⟨by omega, by omega⟩
  rw [gi] at g0
  have gw : IntKind.i64.wrap ((n.trans.length : Int) - 1) = (n.trans.length : Int) - 1 := wrap_of (by omega) (by omega)
  have g1 := p_i_isEnabled t m hp.1 hf
  simp only [eTr] at g1
  show (fun x0 x1 x2 => s_i_fire [x0, x1, x2]) _ _ _ = _
  rw [sh_i_fire]
  simp only [eNt, gw, g0, hi, eTr, g1, List.drop_zero, EVS]
  cases hE : enB m t
  · simp only [EVS]; rfl
  simp only [convB_s m (by omega), hi, eTr, List.drop_zero, EVS]
  refine (congrArg (fun m : Option PV => m.bind fun r => if r.sc = true then some r else none) (foldLoop (R := PV) t.pre (fun (b : List UInt8) k => [.lst (b.map pU), pI (Int.ofNat k)]) (fun _ b => b.length = m.length) (fun (b : List UInt8) _ p => .inl (b.set p.toNat 48)) (fun b => some (.tup [.str (optS (markM t.post b)).1, pB (optS (markM t.post b)).2])) _ hl1 (fun b k p b' hb hx he => ?_) (fun again b k p hb hx => ?_) (fun again b hb => ?_) (b := m) rfl)).trans ?_
  · cases he; simpa using hb
  · have hk := lt_of_some hx
    have hi' : idxV (.lst (t.pre.map pI)) (.int .i64 (k : Int)) = some (pI p) := idx_map hx
    obtain ⟨h1, h2⟩ := hp.1 p (List.mem_of_getElem? hx)
    obtain ⟨j, rfl⟩ : ∃ j : Nat, p = j := ⟨p.toNat, by omega⟩
    have hj : j < b.length := by omega
    have hpl : plcV (b.map pU) (.int .i64 (j : Int)) = some (.int .i64 (j : Int)) := plc_at (by rw [List.length_map]; exact hj)
    simp only [lt_d hk, next_w hk hl1, hi', hpl, mapU_at hj, se_int, set_48, EVS]
  · have hi2 : idxV (.lst (n.trans.map eTr)) (.int .i64 (k : Int)) = some (eTr t) := hi
    simp only [ge_d, hi2, eTr, List.drop_succ_cons, List.drop_zero, EVS]
    refine (foldLoop (R := PV) t.post (fun (b : List UInt8) k => [.lst (b.map pU), pI (Int.ofNat k)]) (fun _ b => b.length = m.length) (fun (b : List UInt8) _ p => if (b.getD p.toNat 0 == 49) = true then .inr (some (.tup [.str [], pB false])) else .inl (b.set p.toNat 49)) (fun b => some (.tup [.str b, pB true])) _ hl2 (fun b k p b' hb hx he => ?_) (fun again b k p hb hx => ?_) (fun again b hb => ?_) (b := b) hb).trans (fold_mark _ _ _)
    · split at he
      · cases he
      · cases he; simpa using hb
    · have hk := lt_of_some hx
      have hi' : idxV (.lst (t.post.map pI)) (.int .i64 (k : Int)) = some (pI p) := idx_map hx
      obtain ⟨h1, h2⟩ := hp.2 p (List.mem_of_getElem? hx)
      obtain ⟨j, rfl⟩ : ∃ j : Nat, p = j := ⟨p.toNat, by omega⟩
      have hj : j < b.length := by omega
      have hpl : plcV (b.map pU) (.int .i64 (j : Int)) = some (.int .i64 (j : Int)) := plc_at (by rw [List.length_map]; exact hj)
      simp only [lt_d hk, next_w hk hl2, hi', hpl, mapU_at hj, se_int, set_49, by_49, EVS]
      cases c : (b.getD j 0 == 49) <;> simp only [hpl, mapU_at hj, se_int, set_49, EVS]
      all_goals rfl
    · simp only [ge_d, bytesOf_map, EVS]
  · rw [fold_clear]
    simp only [EVS, List.all_cons, List.all_nil]
    rfl
end Go.Proofs.Ytpldcngejdgdkaa

namespace Go.Proofs.Ytpldcngejdgdkaa
open Go.RowKit
set_option linter.unusedVariables false
set_option linter.unusedSimpArgs false
/-! MAPS whose keys are the texts of a row, each once. -/
theorem eqV_str (a b : List UInt8) : eqV none .str (.str a) (.str b) = some (decide (a = b)) := by
  show scEq .str (.str a) (.str b) = _
  simp only [scEq]
  refine congrArg some ?_
  rw [Bool.eq_iff_iff]; simp
theorem keyS (a : List UInt8) : ((eqV none TD.str (.str a) (.str a)).elim false fun x => true) = true := by rw [eqV_str]; rfl
def mapF (g : Nat → PV) : Nat → List (List UInt8) → List (PV × PV)
  | _, [] => []
  | k, x :: r => (.str x, g k) :: mapF g (k + 1) r
theorem mapF_snoc (g : Nat → PV) (a : List UInt8) : ∀ (l : List (List UInt8)) (k : Nat), mapF g k (l ++ [a]) = mapF g k l ++ [(.str a, g (k + l.length))]
  | [], k => by simp [mapF]
  | x :: r, k => by
    simp only [List.cons_append, mapF, mapF_snoc g a r (k + 1), List.length_cons]
    rw [show k + 1 + r.length = k + (r.length + 1) by omega]
theorem findF (g : Nat → PV) (s : List UInt8) : ∀ (l : List (List UInt8)) (k i : Nat), findV none .str (mapF g k l) (.str s) i = some (if s ∈ l then some (i + l.idxOf s, g (k + l.idxOf s)) else none)
  | [], k, i => rfl
  | x :: r, k, i => by
    unfold mapF findV
    rw [eqV_str]
    by_cases c : x = s
    · subst c
      simp
    · have h : (x :: r).idxOf s = r.idxOf s + 1 := by rw [List.idxOf_cons, beq_eq_false_iff_ne.2 c]; rfl
      have hm : s ∈ x :: r ↔ s ∈ r := by rw [List.mem_cons]; exact ⟨fun h => h.resolve_left (fun e => c e.symm), .inr⟩
      simp only [obs, show ¬ s = x from fun e => c e.symm, decide_false, Bool.false_eq_true, if_false, findF g s r (k + 1) (i + 1), hm, h]
      by_cases c2 : s ∈ r
      · rw [if_pos c2, if_pos c2, show i + 1 + r.idxOf s = i + (r.idxOf s + 1) by omega, show k + 1 + r.idxOf s = k + (r.idxOf s + 1) by omega]
      · rw [if_neg c2, if_neg c2]
/-! The markings that are met. -/
def inI (n : Net) (m : List UInt8) : List Int → List (List UInt8) → List (List UInt8) × Bool
  | [], out => (out, true)
  | t :: r, out => match fireB n m t with
    | none => (out, false)
    | some m' => inI n m r (if m' ∈ out then out else out ++ [m'])
theorem inI_eq (n : Net) (m : List UInt8) : ∀ (l : List Int) (out : List (List UInt8)), reachIn n m l out = if (inI n m l out).2 = true then some (inI n m l out).1 else none
  | [], out => rfl
  | t :: r, out => by
    unfold reachIn inI
    cases fireB n m t with
    | none => rfl
    | some m' => exact inI_eq n m r _
structure Mt (n : Net) (m : List UInt8) (k : Nat) (out0 out : List (List UInt8)) (i : Nat) : Prop where
  pre : ∃ s, out = out0 ++ s
  good : ∀ x ∈ out, goodMark n x = true
  len : out.length ≤ out0.length + i
theorem Mt.at {n : Net} {m : List UInt8} {k : Nat} {out0 out : List (List UInt8)} {i : Nat} (h : Mt n m k out0 out i) (h0 : out0[k]? = some m) : out[k]? = some m := by
  obtain ⟨s, rfl⟩ := h.pre
  rw [List.getElem?_append_left (lt_of_some h0), h0]
theorem Mt.step {n : Net} {m m' : List UInt8} {k : Nat} {out0 out : List (List UInt8)} {i : Nat} (h : Mt n m k out0 out i) (hg : goodMark n m' = true) : Mt n m k out0 (if m' ∈ out then out else out ++ [m']) (i + 1) := by
  obtain ⟨s, hs⟩ := h.pre
  split
  · exact ⟨⟨s, hs⟩, h.good, by have := h.len; omega⟩
  · refine ⟨⟨s ++ [m'], by rw [hs]; simp⟩, fun x hx => ?_, by have := h.len; simp; omega⟩
    rcases List.mem_append.1 hx with hx | hx
    · exact h.good x hx
    · rw [List.mem_singleton] at hx; subst hx; exact hg
theorem inI_mt {n : Net} {m : List UInt8} {k : Nat} {out0 : List (List UInt8)} (hm : goodMark n m = true) : ∀ (l : List Int) (out : List (List UInt8)) (i : Nat), (∀ t ∈ l, t ∈ enL n m) → Mt n m k out0 out i → (inI n m l out).2 = true → Mt n m k out0 (inI n m l out).1 (i + l.length)
  | [], out, i, _, h, _ => h
  | t :: r, out, i, hl, h, h2 => by
    unfold inI at h2 ⊢
    obtain ⟨j, x, rfl, hx, he, hf⟩ := enL_mem (hl t (List.mem_cons_self ..))
    cases hF : fireB n m (j : Int) with
    | none => rw [hF] at h2; cases h2
    | some m' =>
      rw [hF] at h2
      rw [hF] at hf
      have := inI_mt hm r _ (i + 1) (fun t ht => hl t (List.mem_cons_of_mem _ ht)) (h.step (fireM_good hm hf.symm)) h2
      rw [show i + ((j : Int) :: r).length = i + 1 + r.length by simp; omega]
      exact this
theorem hasS_all (l : List (List UInt8)) (s : List UInt8) : (!allK (fun _ x => !decide (x = s)) 0 l) = decide (s ∈ l) := by
  rw [allK_all, Bool.eq_iff_iff]
  simp only [List.not_all_eq_any_not, Bool.not_not, List.any_eq_true, decide_eq_true_eq]
  exact ⟨fun ⟨x, h, e⟩ => e ▸ h, fun h => ⟨s, h, rfl⟩⟩
theorem p_r_l1HasS (l : List (List UInt8)) (s : List UInt8) (hl : Fits l) : s_r_l1HasS [.lst (l.map PV.str), .str s] = some (pB (decide (s ∈ l))) := by
  unfold Fits at hl
  show (fun x0 x1 => s_r_l1HasS [x0, x1]) _ _ = _
  rw [sh_r_l1HasS, ← hasS_all]
  simp only [EVS]
  refine (congrArg (fun m : Option PV => m.bind fun r => if r.sc = true then some r else none) (rangeAll (R := PV) l (fun _ x => !decide (x = s)) (some (pB true)) (some (pB false)) _ hl (fun again k x hx => ?_) (fun again => ?_))).trans ?_
  · have hk := lt_of_some hx
    have hi : idxV (.lst (l.map PV.str)) (.int .i64 (k : Int)) = some (.str x) := idx_map hx
    simp only [lt_d hk, next_w hk hl, hi, EVS]
    by_cases c : x = s <;> simp only [c, EVS]
  · simp only [ge_d, EVS]
  · cases allK (fun _ x => !decide (x = s)) 0 l <;> simp only [EVS]
/-- What a search gives: the row, whether all was safe, whether there were not too many. -/
def metV (r : List (List UInt8) × Nat) : PV := .tup [.lst (r.1.map PV.str), pB (r.2 == 0), pB (r.2 != 2)]
/-- One firing, onto the row of the markings; z: what a refused one gives. -/
def stepM (n : Net) (m : List UInt8) (z : List (List UInt8) → Option PV) (out : List (List UInt8)) (_ : Nat) (t : Int) : Sum (List (List UInt8)) (Option PV) := match fireB n m t with
  | none => .inr (z out)
  | some m' => .inl (if m' ∈ out then out else out ++ [m'])
theorem stepM_none {n : Net} {m : List UInt8} {z : List (List UInt8) → Option PV} {out : List (List UInt8)} {i : Nat} {t : Int} (h : fireB n m t = none) : stepM n m z out i t = .inr (z out) := by unfold stepM; rw [h]
theorem stepM_some {n : Net} {m m' : List UInt8} {z : List (List UInt8) → Option PV} {out : List (List UInt8)} {i : Nat} {t : Int} (h : fireB n m t = some m') : stepM n m z out i t = .inl (if m' ∈ out then out else out ++ [m']) := by unfold stepM; rw [h]
theorem fold_met (n : Net) (m : List UInt8) (e : List (List UInt8) → Option PV) (z : List (List UInt8) → Option PV) : ∀ (l : List Int) (i : Nat) (out : List (List UInt8)), foldGo (R := PV) (stepM n m z) e i out l = if (inI n m l out).2 = true then e (inI n m l out).1 else z (inI n m l out).1
  | [], i, out => rfl
  | t :: r, i, out => by
    unfold foldGo inI
    cases h : fireB n m t with
    | none => rw [stepM_none h]; rfl
    | some m' => rw [stepM_some h]; exact fold_met n m e z r (i + 1) _
theorem strS_at {l : List (List UInt8)} {k : Nat} {m : List UInt8} (h : l[k]? = some m) : (l.map PV.str)[k]? = some (.str m) := by rw [List.getElem?_map, h]; rfl
theorem strS_plc {l : List (List UInt8)} {k : Nat} {m : List UInt8} (h : l[k]? = some m) : plcV (l.map PV.str) (.int .i64 (k : Int)) = some (.int .i64 (k : Int)) := plc_at (by rw [List.length_map]; exact lt_of_some h)
theorem intS_plc {l : List Int} {k : Nat} {m : Int} (h : l[k]? = some m) : plcV (l.map pI) (.int .i64 (k : Int)) = some (.int .i64 (k : Int)) := plc_at (by rw [List.length_map]; exact lt_of_some h)
theorem intS_at {l : List Int} {k : Nat} {m : Int} (h : l[k]? = some m) : (l.map pI)[k]? = some (pI m) := by rw [List.getElem?_map, h]; rfl
theorem p_r_l9Met (n : Net) (m : List UInt8) (hg : goodMark n m = true) (hn : NtFit n) : s_r_l9Met [eNt n, .str m] = some (metV (reach n m)) := by
  show (fun x0 x1 => s_r_l9Met [x0, x1]) _ _ = _
  rw [sh_r_l9Met]
  simp only [eNt, EVS]
  refine (loopR_go (R := PV) (fun q : {q : List (List UInt8) × Nat // (∀ x ∈ q.1, goodMark n x = true) ∧ q.1.length ≤ 600 ∧ q.2 ≤ q.1.length} => [.lst (q.1.1.map PV.str), pI (Int.ofNat q.1.2)]) (fun q => 601 - q.1.2) (fun q => some (metV (reachOut n (601 - q.1.2) q.1.2 q.1.1))) _ (fun again q ih => ?_) _ ⟨([m], 0), by simpa using hg, by simp, by simp⟩ (by simp only; omega)).trans ?_
  · obtain ⟨⟨out, k⟩, hgd, hlen, hk⟩ := q
    dsimp only at ih hgd hlen hk ⊢
    by_cases c : k < out.length
    · obtain ⟨mk, hmk⟩ : ∃ mk, out[k]? = some mk := ⟨out[k], List.getElem?_eq_getElem c⟩
      have hmg := hgd mk (List.mem_of_getElem? hmk)
      have g1 := p_r_l1Enabled n mk hmg hn
      simp only [eNt] at g1
      have hel := enL_length hmg
      simp only [lt_d c, strS_plc hmk, strS_at hmk, g1, EVS]
      rw [show 601 - k = (600 - k) + 1 by omega, reachOut_step hmk]
      refine (foldLoop (R := PV) (enL n mk) (fun (o : List (List UInt8)) i => [.lst (o.map PV.str), pI (Int.ofNat i)]) (fun i o => Mt n mk k out o i) (stepM n mk (fun _ => some (metV ([], 1)))) (fun o => if 600 < o.length then some (metV ([], 2)) else again [.lst (o.map PV.str), pI (Int.ofNat (k + 1))]) _ (by omega) (fun o i t o' hi hx he => ?_) (fun again2 o i t hi hx => ?_) (fun again2 o hi => ?_) (b := out) ⟨⟨[], by simp⟩, hgd, by omega⟩).trans ?_
      · obtain ⟨j, x, rfl, hx', he', hf⟩ := enL_mem (List.mem_of_getElem? hx)
        cases hF : fireB n mk (j : Int) with
        | none => rw [stepM_none hF] at he; cases he
        | some m' =>
          rw [stepM_some hF] at he; cases he
          exact hi.step (fireM_good hmg (hf.symm.trans hF))
      · obtain ⟨j, x, rfl, hx', he', hf⟩ := enL_mem (List.mem_of_getElem? hx)
        have hki := lt_of_some hx
        have hoA := hi.at hmk
        have g2 := p_r_l1Fire n mk j x hmg hx' (hn.each x (List.mem_of_getElem? hx'))
        rw [← hf] at g2
        simp only [eNt] at g2
        have hol : Fits o := by unfold Fits; have := hi.len; omega
        cases hF : fireB n mk (j : Int) with
        | none =>
          rw [hF] at g2
          simp only [optS] at g2
          rw [stepM_none hF]
          simp only [lt_d hki, intS_plc hx, intS_at hx, strS_plc hoA, strS_at hoA, g2, EVS]
          rfl
        | some m' =>
          rw [hF] at g2
          rw [stepM_some hF]
          simp only [optS] at g2
          have g3 := p_r_l1HasS o m' hol
          have hla : o.length + [PV.str m'].length ≤ 4294967296 ∧ [PV.str m'].all (okEl 1) = true := ⟨by have := hi.len; simp; omega, rfl⟩
          simp only [lt_d hki, intS_plc hx, intS_at hx, strS_plc hoA, strS_at hoA, g2, EVS]
          simp only [g3, EVS]
          by_cases c2 : m' ∈ o
          · simp only [c2, next_w hki (show (enL n mk).length ≤ 9223372036854775807 by omega), EVS]
          · simp only [c2, next_w hki (show (enL n mk).length ≤ 9223372036854775807 by omega), List.map_append, List.map_cons, List.map_nil, EVS]
            simp only [if_pos hla, EVS]
      · have hd : decide ((600 : Int) < (o.length : Int)) = decide (600 < o.length) := by rw [Bool.eq_iff_iff]; simp; omega
        simp only [ge_d, hd, next_w c (show out.length ≤ 9223372036854775807 by omega), EVS]
        by_cases c2 : 600 < o.length
        · simp only [c2, EVS]; rfl
        · simp only [c2, EVS]
      · rw [fold_met n mk _ (fun _ => some (metV ([], 1))), inI_eq]
        cases c2 : (inI n mk (enL n mk) out).2
        · rw [if_neg (by simp), if_neg (by simp), after3_none]
        · have hmt := inI_mt (k := k) (out0 := out) hmg (enL n mk) out 0 (fun t ht => ht) ⟨⟨[], by simp⟩, hgd, by omega⟩ c2
          rw [if_pos rfl, if_pos rfl]
          by_cases c3 : 600 < (inI n mk (enL n mk) out).1.length
          · rw [if_pos c3, after3_big c3]
          · rw [if_neg c3, after3_ok c3]
            have hl2 := lt_of_some (hmt.at hmk)
            have := ih ⟨((inI n mk (enL n mk) out).1, k + 1), hmt.good, by dsimp only; omega, by dsimp only; omega⟩ (by simp only; omega)
            rw [show 601 - (k + 1) = 600 - k by omega] at this
            exact this
    · obtain rfl : k = out.length := by omega
      rw [reachOut_end (by omega)]
      simp only [ge_d, EVS]
      rfl
  · rfl
end Go.Proofs.Ytpldcngejdgdkaa

namespace Go.Proofs.Ytpldcngejdgdkaa
open Go.RowKit
set_option linter.unusedVariables false
set_option linter.unusedSimpArgs false
/-! SIGNAL TRANSITION GRAPHS: validity. -/
theorem pv_5_2 (a b c d e : PV) : partV true 0 2 [a, b, c, d, e] = some (.agg [a, b]) := (Eq.refl _).trans (Eq.refl _)
def eLb (x : Lab) : PV := .agg [pI x.sig, pB x.up]
def sgP (x : Sig) : List UInt8 × Int := (x.name, x.kind)
def eStg (s : STG) : PV := .agg [pI s.net.places, .lst (s.net.trans.map eTr), .lst ((s.signals.map sgP).map eSig), .lst (s.labels.map eLb), .str s.start]
structure StgFit (s : STG) : Prop where
  net : NtFit s.net
  sigs : Fits (s.signals.map sgP)
  each : ∀ x ∈ s.signals.map sgP, Fits x.1
  labs : Fits s.labels
  start : Fits s.start
def labP (n : Int) (x : Lab) : Bool := inB x.sig 0 (n - 1) || (decide (x.sig = -1) && !x.up)
def stgP (s : STG) : Bool := (goodMark s.net s.start && (sigsP (s.signals.map sgP) && decide (s.labels.length = s.net.trans.length))) && s.labels.all (labP s.signals.length)
theorem p_r_l2Label (x : Lab) (n : Nat) (hn : n ≤ 9223372036854775807) : s_r_l2Label [eLb x, pI n] = some (pB (labP n x)) := by
  have g := p_r_l1In x.sig 0 ((n : Int) - 1)
  have gi : inB x.sig 0 ((n : Int) - 1) = (decide ((0 : Int) ≤ x.sig) && decide (x.sig ≤ (n : Int) - 1)) := rfl
  rw [← gi] at g
  have hw : IntKind.i64.wrap ((n : Int) - 1) = (n : Int) - 1 := wrap_of (by omega) (by omega)
  show (fun x0 x1 => s_r_l2Label [x0, x1]) _ _ = _
  rw [sh_r_l2Label]
  unfold labP
  simp only [eLb, hw, g, EVS]
  cases inB x.sig 0 ((n : Int) - 1) <;> simp only [EVS]
  rw [show Int.negSucc 0 = (-1 : Int) from rfl]
  cases decide (x.sig = -1) <;> simp only [EVS]
theorem p_r_l2Good (s : STG) (hs : StgFit s) : s_r_l2Good [eStg s] = some (pB (stgP s)) := by
  have hl := hs.labs
  unfold Fits at hl
  have hsl : s.signals.length ≤ 9223372036854775807 := by have := hs.sigs; unfold Fits at this; simpa using this
  have g1 := p_r_l1Good s.net hs.net
  have g2 := p_r_l2Signals (s.signals.map sgP) hs.sigs hs.each
  have g3 := p_r_l1Mark s.net s.start hs.start
  simp only [eNt] at g1 g3
  show (fun x0 => s_r_l2Good [x0]) _ = _
  rw [sh_r_l2Good]
  simp only [eStg, EVS]
  refine (congrArg (fun m : Option PV => m.bind fun r => if r.sc = true then some r else none) (rangeAll (R := PV) s.labels (fun _ x => labP s.signals.length x) (some (pB false)) (some (pB (goodMark s.net s.start && (sigsP (s.signals.map sgP) && decide (s.labels.length = s.net.trans.length))))) _ hl (fun again k x hx => ?_) (fun again => ?_))).trans ?_
  · have hk := lt_of_some hx
    have hi : idxV (.lst (s.labels.map eLb)) (.int .i64 (k : Int)) = some (eLb x) := idx_map hx
    have g := p_r_l2Label x s.signals.length hsl
    simp only [eLb] at g
    simp only [lt_d hk, next_w hk hl, hi, eLb, g, EVS]
    cases labP s.signals.length x <;> simp only [EVS]
  · have hd : decide ((s.labels.length : Int) = (s.net.trans.length : Int)) = decide (s.labels.length = s.net.trans.length) := by rw [Bool.eq_iff_iff]; simp only [decide_eq_true_eq]; omega
    unfold goodMark
    simp only [ge_d, hd, EVS]
    cases c1 : goodNet s.net <;> cases c2 : sigsP (s.signals.map sgP) <;> cases c3 : decide (s.labels.length = s.net.trans.length) <;> simp only [c1, c2, c3, hd, pv_5_2, g1, g2, g3, EVS]
  · rw [allK_all]
    unfold stgP
    cases s.labels.all (labP s.signals.length) <;> simp only [EVS] <;> rfl
theorem p_i_isEdge (x : Lab) (n : Nat) (hn : n ≤ 9223372036854775807) : s_i_isEdge [eLb x, pI n] = some (pB (labP n x)) := by
  have g := p_i_within x.sig 0 ((n : Int) - 1)
  have gi : inB x.sig 0 ((n : Int) - 1) = inR x.sig 0 ((n : Int) - 1) := rfl
  rw [← gi] at g
  have hw : IntKind.i64.wrap ((n : Int) - 1) = (n : Int) - 1 := wrap_of (by omega) (by omega)
  have he : eqV (some [(0, TD.int IntKind.i64), (1, TD.bool)]) TD.struct (.agg [pI x.sig, pB x.up]) (.agg [pI (-1), pB false]) = some (decide (x.sig = -1) && !x.up) := by
    rw [eqPin]; cases x.up <;> rfl
  show (fun x0 x1 => s_i_isEdge [x0, x1]) _ _ = _
  rw [sh_i_isEdge]
  unfold labP
  simp only [eLb, hw, g, EVS]
  cases inB x.sig 0 ((n : Int) - 1) <;> simp only [EVS]
  rw [show Int.negSucc 0 = (-1 : Int) from rfl]
  simp only [he, EVS]
theorem p_i_IsValidSTG_1 (x : Lab) (s : STG) (hs : StgFit s) : s_i_IsValidSTG_1 [eLb x, eStg s] = some (pB (!labP s.signals.length x)) := by
  have hsl : s.signals.length ≤ 9223372036854775807 := by have := hs.sigs; unfold Fits at this; simpa using this
  have g := p_i_isEdge x s.signals.length hsl
  simp only [eLb] at g
  show (fun x0 x1 => s_i_IsValidSTG_1 [x0, x1]) _ _ = _
  rw [sh_i_IsValidSTG_1]
  simp only [eLb, eStg, List.drop_succ_cons, List.drop_zero, List.length_map, g, EVS]
theorem p_g_slices_IndexFunc_Label__i_IsValidSTG_1 (s : STG) (hs : StgFit s) : s_g_slices_IndexFunc_Label__i_IsValidSTG_1 [.lst (s.labels.map eLb), .tup [eStg s]] = some (pI (ixf (fun x => !labP s.signals.length x) 0 s.labels)) := by
  show (fun x0 x1 => s_g_slices_IndexFunc_Label__i_IsValidSTG_1 [x0, x1]) _ _ = _
  rw [sh_g_slices_IndexFunc_Label__i_IsValidSTG_1]
  have hl := hs.labs
  unfold Fits at hl
  simp only [EVS]
  refine (congrArg (fun m : Option PV => m.bind fun r => if r.sc = true then some r else none) (rangeIx s.labels (fun x => !labP s.signals.length x) _ hl (fun again k a hb => ?_) (fun again => ?_))).trans ?_
  · have hk := lt_of_some hb
    have hi : idxV (.lst (s.labels.map eLb)) (.int .i64 (k : Int)) = some (eLb a) := idx_map hb
    have g := p_i_IsValidSTG_1 a s hs
    simp only [eLb, eStg] at g
    simp only [lt_d hk, next_w hk hl, hi, eLb, eStg, caps1, List.cons_append, List.nil_append, g, EVS]
  · simp only [ge_d, EVS]
    rfl
  · simp only [EVS]
theorem p_g_slices_ContainsFunc_Label__i_IsValidSTG_1 (s : STG) (hs : StgFit s) : s_g_slices_ContainsFunc_Label__i_IsValidSTG_1 [.lst (s.labels.map eLb), .tup [eStg s]] = some (pB (!s.labels.all (labP s.signals.length))) := by
  show (fun x0 x1 => s_g_slices_ContainsFunc_Label__i_IsValidSTG_1 [x0, x1]) _ _ = _
  rw [sh_g_slices_ContainsFunc_Label__i_IsValidSTG_1]
  simp only [p_g_slices_IndexFunc_Label__i_IsValidSTG_1 s hs, ixf_ge (fun x => !labP s.signals.length x) s.labels 0, Bool.not_not, allK_all, EVS]
theorem p_i_IsValidSTG (s : STG) (hs : StgFit s) : s_i_IsValidSTG [eStg s] = some (pB (stgP s)) := by
  have g1 := p_i_IsValidMarking s.net s.start hs.net hs.start
  have g2 := p_i_areSignals (s.signals.map sgP) hs.sigs hs.each
  rw [← sigs_eq] at g2
  have g3 := p_g_slices_ContainsFunc_Label__i_IsValidSTG_1 s hs
  have hd : decide ((s.labels.length : Int) = (s.net.trans.length : Int)) = decide (s.labels.length = s.net.trans.length) := by rw [Bool.eq_iff_iff]; simp only [decide_eq_true_eq]; omega
  simp only [eNt, eStg] at g1 g3
  show (fun x0 => s_i_IsValidSTG [x0]) _ = _
  rw [sh_i_IsValidSTG]
  unfold stgP
  simp only [eStg, List.drop_zero, EVS]
  cases c1 : goodMark s.net s.start <;> cases c2 : sigsP (s.signals.map sgP) <;> cases c3 : decide (s.labels.length = s.net.trans.length) <;> simp only [c1, c2, c3, hd, pv_5_2, g1, g2, g3, List.drop_zero, Bool.not_not, EVS]
end Go.Proofs.Ytpldcngejdgdkaa

namespace Go.Proofs.Ytpldcngejdgdkaa
open Go.RowKit
set_option linter.unusedVariables false
set_option linter.unusedSimpArgs false
/-! EXPLORING. -/
def eMv (v : Mv) : PV := .agg [pI v.from_, pI v.by_, pI v.to]
theorem findM_idx {m : List UInt8} {l : List (List UInt8)} (h : m ∈ l) : findM m l = (l.idxOf m : Nat) := by
  unfold findM idxB
  suffices h2 : ∀ (l : List (List UInt8)) (k : Nat), m ∈ l → goIdx (fun x => x == m) k l = ((k + l.idxOf m : Nat) : Int) by simpa using h2 l 0 h
  intro l
  induction l with
  | nil => intro k h; cases h
  | cons x r ih =>
    intro k h
    unfold goIdx
    by_cases c : x = m
    · subst c; simp
    · rw [if_neg (by simpa using c), ih (k + 1) (by rcases List.mem_cons.1 h with h | h; exact absurd h.symm c; exact h), List.idxOf_cons, beq_eq_false_iff_ne.2 c]
      simp only [cond_false]; omega
def exStep (n : Net) (m : List UInt8) (k : Nat) (z1 : Int → ESt → Option PV) (z2 : ESt → Option PV) (s : ESt) (_ : Nat) (t : Int) : Sum ESt (Option PV) := match fireB n m t with
  | none => .inr (z1 t s)
  | some m' => if m' ∈ s.marks then .inl (exOld k t (findM m' s.marks) s) else if s.marks.length = 300 then .inr (z2 s) else .inl (exNew k t m' s)
section
variable {n : Net} {m m' : List UInt8} {k i : Nat} {z1 : Int → ESt → Option PV} {z2 : ESt → Option PV} {s : ESt} {t : Int}
theorem exStep_none (h : fireB n m t = none) : exStep n m k z1 z2 s i t = .inr (z1 t s) := by unfold exStep; rw [h]
theorem exStep_old (h : fireB n m t = some m') (h2 : m' ∈ s.marks) : exStep n m k z1 z2 s i t = .inl (exOld k t (findM m' s.marks) s) := by unfold exStep; rw [h]; exact if_pos h2
theorem exStep_full (h : fireB n m t = some m') (h2 : m' ∉ s.marks) (h3 : s.marks.length = 300) : exStep n m k z1 z2 s i t = .inr (z2 s) := by unfold exStep; rw [h]; exact (if_neg h2).trans (if_pos h3)
theorem exStep_new (h : fireB n m t = some m') (h2 : m' ∉ s.marks) (h3 : ¬ s.marks.length = 300) : exStep n m k z1 z2 s i t = .inl (exNew k t m' s) := by unfold exStep; rw [h]; exact (if_neg h2).trans (if_neg h3)
end
def exCase (e : ESt → Option PV) (z1 : Int → ESt → Option PV) (z2 : ESt → Option PV) : EOut → Option PV
  | .ok s => e s
  | .bad t s => z1 t s
  | .full s => z2 s
theorem fold_ex (n : Net) (m : List UInt8) (k : Nat) (e : ESt → Option PV) (z1 : Int → ESt → Option PV) (z2 : ESt → Option PV) : ∀ (l : List Int) (i : Nat) (s : ESt), foldGo (R := PV) (exStep n m k z1 z2) e i s l = exCase e z1 z2 (exIn n m k l s)
  | [], i, s => rfl
  | t :: r, i, s => by
    unfold foldGo exIn
    cases h : fireB n m t with
    | none => rw [exStep_none h]; rfl
    | some m' =>
      by_cases h2 : m' ∈ s.marks
      · rw [exStep_old h h2]
        show foldGo _ _ _ _ _ = exCase e z1 z2 (if m' ∈ s.marks then _ else _)
        rw [if_pos h2]
        exact fold_ex n m k e z1 z2 r (i + 1) _
      · by_cases h3 : s.marks.length = 300
        · rw [exStep_full h h2 h3]
          show _ = exCase e z1 z2 (if m' ∈ s.marks then _ else _)
          rw [if_neg h2, if_pos h3]; rfl
        · rw [exStep_new h h2 h3]
          show foldGo _ _ _ _ _ = exCase e z1 z2 (if m' ∈ s.marks then _ else _)
          rw [if_neg h2, if_neg h3]
          exact fold_ex n m k e z1 z2 r (i + 1) _
/-- What holds within the firings of one marking. -/
structure Ms (n : Net) (s0 s : ESt) (i : Nat) : Prop where
  pre : ∃ a, s.marks = s0.marks ++ a
  good : ∀ x ∈ s.marks, goodMark n x = true
  len : s.marks.length ≤ 300
  mv : s.moves.length ≤ s0.moves.length + i
  by_ : s.by_.length ≤ s.marks.length
theorem Ms.at {n : Net} {s0 s : ESt} {i k : Nat} {m : List UInt8} (h : Ms n s0 s i) (h0 : s0.marks[k]? = some m) : s.marks[k]? = some m := by
  obtain ⟨a, ha⟩ := h.pre
  rw [ha, List.getElem?_append_left (lt_of_some h0), h0]
theorem Ms.old {n : Net} {s0 s : ESt} {i k : Nat} {t j : Int} (h : Ms n s0 s i) : Ms n s0 (exOld k t j s) (i + 1) := ⟨h.pre, h.good, h.len, by have := h.mv; unfold exOld; simp; omega, h.by_⟩
theorem Ms.new {n : Net} {s0 s : ESt} {i k : Nat} {t : Int} {m' : List UInt8} (h : Ms n s0 s i) (hg : goodMark n m' = true) (h3 : ¬ s.marks.length = 300) : Ms n s0 (exNew k t m' s) (i + 1) := by
  obtain ⟨a, ha⟩ := h.pre
  have := h.len
  have := h.mv
  have := h.by_
  refine ⟨⟨a ++ [m'], by unfold exNew; simp [ha]⟩, fun x hx => ?_, by unfold exNew; simp; omega, by unfold exNew; simp; omega, by unfold exNew; simp; omega⟩
  rcases List.mem_append.1 hx with hx | hx
  · exact h.good x hx
  · rw [List.mem_singleton] at hx; subst hx; exact hg
theorem exIn_ms {n : Net} {m : List UInt8} {k : Nat} {s0 : ESt} (hm : goodMark n m = true) : ∀ (l : List Int) (s : ESt) (i : Nat) (s' : ESt), (∀ t ∈ l, t ∈ enL n m) → Ms n s0 s i → exIn n m k l s = .ok s' → Ms n s0 s' (i + l.length)
  | [], s, i, s', _, h, he => by cases he; exact h
  | t :: r, s, i, s', hl, h, he => by
    unfold exIn at he
    obtain ⟨j, x, e, hx, he', hf⟩ := enL_mem (hl t (List.mem_cons_self ..))
    have hr : ∀ t ∈ r, t ∈ enL n m := fun t ht => hl t (List.mem_cons_of_mem _ ht)
    rw [show i + (t :: r).length = i + 1 + r.length by simp; omega]
    cases hF : fireB n m t with
    | none => rw [hF] at he; cases he
    | some m' =>
      rw [hF] at he hf
      have he2 : (if m' ∈ s.marks then exIn n m k r (exOld k t (findM m' s.marks) s) else if s.marks.length = 300 then .full s else exIn n m k r (exNew k t m' s)) = .ok s' := he
      by_cases h2 : m' ∈ s.marks
      · rw [if_pos h2] at he2
        exact exIn_ms hm r _ (i + 1) s' hr h.old he2
      · rw [if_neg h2] at he2
        by_cases h3 : s.marks.length = 300
        · rw [if_pos h3] at he2; cases he2
        · rw [if_neg h3] at he2
          exact exIn_ms hm r _ (i + 1) s' hr (h.new (fireM_good hm hf.symm) h3) he2
end Go.Proofs.Ytpldcngejdgdkaa

namespace Go.Proofs.Ytpldcngejdgdkaa
open Go.RowKit
set_option linter.unusedVariables false
set_option linter.unusedSimpArgs false
theorem mapLm (l : List (PV × PV)) : mapL (.map l) = some l := rfl
theorem zpInt : zeroPV (TI.mk 1 8 (TD.int .i64) [ZC.int .i64] [] false) = .int .i64 0 := rfl
theorem pv_6_2 (a b c d e : PV) : partV true 0 2 [a, b, c, d, e] = some (.agg [a, b]) := (Eq.refl _).trans (Eq.refl _)
theorem grp2 (a b c d : PV) : grpSt [a, b] 0 (.agg [c, d]) = some (.agg [c, d]) := rfl
theorem spl3 (a b c x y z : PV) : splice (splice (splice [a, b, c] 0 [x]) 1 [y]) 2 [z] = [x, y, z] := rfl
def rgV (s : ESt) : PV := .agg [.lst (s.marks.map PV.str), .lst (s.moves.map eMv)]
def ixM (s : ESt) : PV := .map (mapF (fun i => pI i) 0 s.marks)
theorem ixM_new (s : ESt) (m : List UInt8) (k : Nat) (t : Int) : PV.map (mapF (fun i => pI i) 0 s.marks ++ [(.str m, pI s.marks.length)]) = ixM (exNew k t m s) := by
  unfold ixM exNew
  rw [mapF_snoc, Nat.zero_add]
theorem ixM_old (s : ESt) (k : Nat) (t i : Int) : ixM (exOld k t i s) = ixM s := rfl
def exV (r : ERes) : PV := .tup [rgV r.st, pI (if r.code = 1 then (r.k : Int) else -1), pI (if r.code = 1 then r.t else -1), pB (r.code == 0)]
theorem p_i_explored (s : STG) (hs : StgFit s) (hg : goodMark s.net s.start = true) : s_i_explored [eStg s] = some (exV (explore s)) := by
  have hn := hs.net
  show (fun x0 => s_i_explored [x0]) _ = _
  rw [sh_i_explored]
  simp only [eStg, keyS, grp2, EVS]
  refine (loopR_go (R := PV) (fun q : {q : ESt × Nat // (∀ x ∈ q.1.marks, goodMark s.net x = true) ∧ q.1.marks.length ≤ 300 ∧ q.2 ≤ q.1.marks.length ∧ q.1.moves.length ≤ 24 * q.2 ∧ q.1.by_.length ≤ q.1.marks.length} => [rgV q.1.1, ixM q.1.1, pI (Int.ofNat q.1.2)]) (fun q => 301 - q.1.2) (fun q => some (exV (exOut s.net (301 - q.1.2) q.1.2 q.1.1))) _ (fun again q ih => ?_) _ ⟨(exStart s.start, 0), by simpa [exStart] using hg, by simp [exStart], by simp, by simp [exStart], by simp [exStart]⟩ (by simp only; omega)).trans ?_
  · obtain ⟨⟨e, k⟩, hgd, hlen, hk, hmv, hby⟩ := q
    dsimp only at ih hgd hlen hk hmv hby ⊢
    by_cases c : k < e.marks.length
    · obtain ⟨mk, hmk⟩ : ∃ mk, e.marks[k]? = some mk := ⟨e.marks[k], List.getElem?_eq_getElem c⟩
      have hmg := hgd mk (List.mem_of_getElem? hmk)
      have g1 := p_i_enabled s.net mk hmg hn
      simp only [eNt] at g1
      have hel := enL_length hmg
      simp only [rgV, lt_d c, strS_plc hmk, strS_at hmk, pv_6_2, g1, EVS]
      rw [show 301 - k = (300 - k) + 1 by omega, exOut_step hmk]
      refine (foldLoop (R := PV) (enL s.net mk) (fun (o : ESt) i => [ixM o, rgV o, pI (Int.ofNat i)]) (fun i o => Ms s.net e o i) (exStep s.net mk k (fun t o => some (.tup [rgV o, pI k, pI t, pB false])) (fun o => some (.tup [rgV o, pI (-1), pI (-1), pB false]))) (fun o => again [rgV o, ixM o, pI (Int.ofNat (k + 1))]) _ (by omega) (fun o i t o' hi hx he => ?_) (fun again2 o i t hi hx => ?_) (fun again2 o hi => ?_) (b := e) ⟨⟨[], by simp⟩, hgd, hlen, by omega, hby⟩).trans ?_
      · obtain ⟨j, x, rfl, hx', he', hf⟩ := enL_mem (List.mem_of_getElem? hx)
        cases hF : fireB s.net mk (j : Int) with
        | none => rw [exStep_none hF] at he; cases he
        | some m' =>
          by_cases h2 : m' ∈ o.marks
          · rw [exStep_old hF h2] at he; cases he; exact hi.old
          · by_cases h3 : o.marks.length = 300
            · rw [exStep_full hF h2 h3] at he; cases he
            · rw [exStep_new hF h2 h3] at he; cases he; exact hi.new (fireM_good hmg (hf.symm.trans hF)) h3
      · obtain ⟨j, x, rfl, hx', he', hf⟩ := enL_mem (List.mem_of_getElem? hx)
        have hki := lt_of_some hx
        have hoA := hi.at hmk
        have g2 := p_i_fire s.net mk j x hmg hx' (hn.each x (List.mem_of_getElem? hx'))
        simp only [eNt] at g2
        have hil : (enL s.net mk).length ≤ 9223372036854775807 := by omega
        cases hF : fireB s.net mk (j : Int) with
        | none =>
          rw [hF] at g2
          simp only [optS] at g2
          rw [exStep_none hF]
          simp only [rgV, lt_d hki, intS_plc hx, intS_at hx, strS_plc hoA, strS_at hoA, pv_6_2, g2, EVS]
        | some m' =>
          rw [hF] at g2
          simp only [optS] at g2
          have g3 := findF (fun i => pI i) m' o.marks 0 0
          have hmv2 := hi.mv
          have hl2 := hi.len
          have hla : ∀ v : Mv, o.moves.length + [eMv v].length ≤ 4294967296 ∧ [eMv v].all (okEl 3) = true := fun v => ⟨by simp; omega, rfl⟩
          have hlb : o.marks.length + [PV.str m'].length ≤ 4294967296 ∧ [PV.str m'].all (okEl 1) = true := ⟨by simp; omega, rfl⟩
          simp only [eMv] at hla
          simp only [rgV, ixM, lt_d hki, intS_plc hx, intS_at hx, strS_plc hoA, strS_at hoA, pv_6_2, g2, mapLm, keyS, g3, EVS]
          by_cases h2 : m' ∈ o.marks
          · rw [exStep_old hF h2]
            simp only [h2, Option.elim_some, spl3, if_pos (hla ⟨_, _, _⟩), next_w hki hil, EVS]
            simp only [exOld, findM_idx h2, Nat.zero_add, List.map_append, List.map_cons, List.map_nil, eMv]
          · by_cases h3 : o.marks.length = 300
            · rw [exStep_full hF h2 h3]
              simp only [h2, h3, zpInt, Option.elim_none, EVS]
              rfl
            · have h4 : decide ((o.marks.length : Int) = 300) = false := by simp only [decide_eq_false_iff_not]; omega
              have hN := ixM_new o m' k j
              unfold ixM at hN
              rw [exStep_new hF h2 h3]
              simp only [h2, h4, zpInt, Option.elim_none, if_pos hlb, if_pos (hla ⟨_, _, _⟩), spl3, next_w hki hil, EVS]
              rw [hN]
              simp only [exNew, List.map_append, List.map_cons, List.map_nil, eMv]
      · simp only [ge_d, next_w c (show e.marks.length ≤ 9223372036854775807 by omega), EVS]
      · rw [fold_ex]
        cases hE : exIn s.net mk k (enL s.net mk) e with
        | bad t s' => rfl
        | full s' => rfl
        | ok s' =>
          have hms := exIn_ms (s0 := e) hmg (enL s.net mk) e 0 s' (fun t ht => ht) ⟨⟨[], by simp⟩, hgd, hlen, by omega, hby⟩ hE
          have hl2 := lt_of_some (hms.at hmk)
          have hm2 := hms.mv
          have := ih ⟨(s', k + 1), hms.good, hms.len, by dsimp only; omega, by dsimp only; omega, hms.by_⟩ (by simp only; omega)
          rw [show 301 - (k + 1) = 300 - k by omega] at this
          exact this
    · obtain rfl : k = e.marks.length := by omega
      rw [exOut_end (by omega)]
      simp only [rgV, ge_d, EVS]
      rfl
  · rfl
end Go.Proofs.Ytpldcngejdgdkaa

namespace Go.Proofs.Ytpldcngejdgdkaa
open Go.RowKit
set_option linter.unusedVariables false
set_option linter.unusedSimpArgs false
theorem ixf_goIdx {α : Type} (q : α → Bool) : ∀ (l : List α) (k : Nat), ixf q k l = goIdx q k l
  | [], k => rfl
  | x :: r, k => by unfold ixf goIdx; rw [ixf_goIdx q r (k + 1)]
theorem p_r_l4Find (l : List (List UInt8)) (m : List UInt8) (hl : Fits l) : s_r_l4Find [.lst (l.map PV.str), .str m] = some (pI (findM m l)) := by
  unfold Fits at hl
  show (fun x0 x1 => s_r_l4Find [x0, x1]) _ _ = _
  rw [sh_r_l4Find]
  unfold findM idxB
  rw [← ixf_goIdx]
  simp only [EVS]
  refine (congrArg (fun m : Option PV => m.bind fun r => if r.sc = true then some r else none) (rangeIx l (fun x => x == m) _ hl (fun again k x hx => ?_) (fun again => ?_))).trans ?_
  · have hk := lt_of_some hx
    have hi : idxV (.lst (l.map PV.str)) (.int .i64 (k : Int)) = some (.str x) := idx_map hx
    have hd : (x == m) = decide (x = m) := by rw [Bool.eq_iff_iff]; simp
    simp only [lt_d hk, next_w hk hl, hi, hd, EVS]
  · simp only [ge_d, EVS]
    rfl
  · simp only [EVS]
theorem spl1 (a b c d e f x y : PV) : splice (splice [a, b, c, d, e, f] 3 [x]) 4 [y] = [a, b, c, x, y, f] := rfl
theorem spl5 (a b c d e f x : PV) : splice [a, b, c, d, e, f] 5 [x] = [a, b, c, d, e, x] := rfl
theorem spl6 (a b c d e f a' b' c' d' e' f' : PV) : splice [a, b, c, d, e, f] 0 [a', b', c', d', e', f'] = [a', b', c', d', e', f'] := rfl
theorem pv_6_6 (a b c d e f : PV) : partV true 0 6 [a, b, c, d, e, f] = some (.agg [a, b, c, d, e, f]) := rfl
def stW (s : ESt) (a b : Int) (c : Bool) : PV := .agg [.lst (s.marks.map PV.str), .lst (s.moves.map eMv), .lst (s.by_.map eMv), pI a, pI b, pB c]
def exW (r : ERes) : PV := stW r.st (if r.code = 1 then (r.k : Int) else 0) (if r.code = 1 then r.t else -1) (r.code == 2)
theorem p_r_l4Reach (s : STG) (hs : StgFit s) (hg : goodMark s.net s.start = true) : s_r_l4Reach [eStg s] = some (exW (explore s)) := by
  have hn := hs.net
  show (fun x0 => s_r_l4Reach [x0]) _ = _
  rw [sh_r_l4Reach]
  simp only [eStg, EVS]
  refine (loopR_go (R := PV) (fun q : {q : ESt × Nat // (∀ x ∈ q.1.marks, goodMark s.net x = true) ∧ q.1.marks.length ≤ 300 ∧ q.2 ≤ q.1.marks.length ∧ q.1.moves.length ≤ 24 * q.2 ∧ q.1.by_.length ≤ q.1.marks.length} => [stW q.1.1 0 (-1) false, pI (Int.ofNat q.1.2)]) (fun q => 301 - q.1.2) (fun q => some (exW (exOut s.net (301 - q.1.2) q.1.2 q.1.1))) _ (fun again q ih => ?_) _ ⟨(exStart s.start, 0), by simpa [exStart] using hg, by simp [exStart], by simp, by simp [exStart], by simp [exStart]⟩ (by simp only; omega)).trans ?_
  · obtain ⟨⟨e, k⟩, hgd, hlen, hk, hmv, hby⟩ := q
    dsimp only at ih hgd hlen hk hmv hby ⊢
    by_cases c : k < e.marks.length
    · obtain ⟨mk, hmk⟩ : ∃ mk, e.marks[k]? = some mk := ⟨e.marks[k], List.getElem?_eq_getElem c⟩
      have hmg := hgd mk (List.mem_of_getElem? hmk)
      have g1 := p_r_l1Enabled s.net mk hmg hn
      simp only [eNt] at g1
      have hel := enL_length hmg
      simp only [stW, lt_d c, strS_plc hmk, strS_at hmk, pv_6_2, g1, EVS]
      rw [show 301 - k = (300 - k) + 1 by omega, exOut_step hmk]
      refine (foldLoop (R := PV) (enL s.net mk) (fun (o : ESt) i => [stW o 0 (-1) false, pI (Int.ofNat i)]) (fun i o => Ms s.net e o i) (exStep s.net mk k (fun t o => some (stW o k t false)) (fun o => some (stW o 0 (-1) true))) (fun o => again [stW o 0 (-1) false, pI (Int.ofNat (k + 1))]) _ (by omega) (fun o i t o' hi hx he => ?_) (fun again2 o i t hi hx => ?_) (fun again2 o hi => ?_) (b := e) ⟨⟨[], by simp⟩, hgd, hlen, by omega, hby⟩).trans ?_
      · obtain ⟨j, x, rfl, hx', he', hf⟩ := enL_mem (List.mem_of_getElem? hx)
        cases hF : fireB s.net mk (j : Int) with
        | none => rw [exStep_none hF] at he; cases he
        | some m' =>
          by_cases h2 : m' ∈ o.marks
          · rw [exStep_old hF h2] at he; cases he; exact hi.old
          · by_cases h3 : o.marks.length = 300
            · rw [exStep_full hF h2 h3] at he; cases he
            · rw [exStep_new hF h2 h3] at he; cases he; exact hi.new (fireM_good hmg (hf.symm.trans hF)) h3
      · obtain ⟨j, x, rfl, hx', he', hf⟩ := enL_mem (List.mem_of_getElem? hx)
        have hki := lt_of_some hx
        have hoA := hi.at hmk
        have g2 := p_r_l1Fire s.net mk j x hmg hx' (hn.each x (List.mem_of_getElem? hx'))
        rw [← hf] at g2
        simp only [eNt] at g2
        have hil : (enL s.net mk).length ≤ 9223372036854775807 := by omega
        cases hF : fireB s.net mk (j : Int) with
        | none =>
          rw [hF] at g2
          simp only [optS] at g2
          rw [exStep_none hF]
          simp only [stW, lt_d hki, intS_plc hx, intS_at hx, strS_plc hoA, strS_at hoA, pv_6_2, g2, spl1, spl6, pv_6_6, EVS]
        | some m' =>
          rw [hF] at g2
          simp only [optS] at g2
          have hmv2 := hi.mv
          have hl2 := hi.len
          have hb2 := hi.by_
          have g3 := p_r_l4Find o.marks m' (by unfold Fits; omega)
          have hla : ∀ v : Mv, o.moves.length + [eMv v].length ≤ 4294967296 ∧ [eMv v].all (okEl 3) = true := fun v => ⟨by simp; omega, rfl⟩
          have hlc : ∀ v : Mv, o.by_.length + [eMv v].length ≤ 4294967296 ∧ [eMv v].all (okEl 3) = true := fun v => ⟨by simp; omega, rfl⟩
          have hlb : o.marks.length + [PV.str m'].length ≤ 4294967296 ∧ [PV.str m'].all (okEl 1) = true := ⟨by simp; omega, rfl⟩
          simp only [eMv] at hla hlc
          simp only [stW, lt_d hki, intS_plc hx, intS_at hx, strS_plc hoA, strS_at hoA, pv_6_2, g2, g3, EVS]
          by_cases h2 : m' ∈ o.marks
          · have h4 : decide (findM m' o.marks < 0) = false := by have := findM_range h2; simp only [decide_eq_false_iff_not]; omega
            rw [exStep_old hF h2]
            simp only [h4, spl3, if_pos (hla ⟨_, _, _⟩), next_w hki hil, EVS]
            simp only [exOld, List.map_append, List.map_cons, List.map_nil, eMv]
          · have h4 : decide (findM m' o.marks < 0) = true := by rw [findM_out h2]; rfl
            by_cases h3 : o.marks.length = 300
            · rw [exStep_full hF h2 h3]
              simp only [h4, h3, spl5, spl6, pv_6_6, EVS]
            · have h5 : decide ((o.marks.length : Int) = 300) = false := by simp only [decide_eq_false_iff_not]; omega
              rw [exStep_new hF h2 h3]
              simp only [h4, h5, if_pos hlb, if_pos (hla ⟨_, _, _⟩), if_pos (hlc ⟨_, _, _⟩), spl3, next_w hki hil, EVS]
              simp only [exNew, List.map_append, List.map_cons, List.map_nil, eMv]
      · simp only [ge_d, next_w c (show e.marks.length ≤ 9223372036854775807 by omega), EVS]
      · rw [fold_ex]
        cases hE : exIn s.net mk k (enL s.net mk) e with
        | bad t s' => rfl
        | full s' => rfl
        | ok s' =>
          have hms := exIn_ms (s0 := e) hmg (enL s.net mk) e 0 s' (fun t ht => ht) ⟨⟨[], by simp⟩, hgd, hlen, by omega, hby⟩ hE
          have hl2 := lt_of_some (hms.at hmk)
          have hm2 := hms.mv
          have := ih ⟨(s', k + 1), hms.good, hms.len, by dsimp only; omega, by dsimp only; omega, hms.by_⟩ (by simp only; omega)
          rw [show 301 - (k + 1) = 300 - k by omega] at this
          exact this
    · obtain rfl : k = e.marks.length := by omega
      rw [exOut_end (by omega)]
      simp only [stW, ge_d, pv_6_6, spl6, EVS]
      rfl
  · rfl
end Go.Proofs.Ytpldcngejdgdkaa

namespace Go.Proofs.Ytpldcngejdgdkaa
open Go.RowKit
set_option linter.unusedVariables false
set_option linter.unusedSimpArgs false
/-! THE WAY BACK. -/
structure Ei (s : ESt) : Prop where
  lim : s.marks.length ≤ 300
  len : s.by_.length = s.marks.length
  top : ∀ v ∈ s.moves, 0 ≤ v.to ∧ v.to < s.marks.length
  up : ∀ k : Nat, 1 ≤ k → k < s.marks.length → ∃ v, s.by_[k]? = some v ∧ s.moves.find? (fun x => decide (x.to = (k : Int))) = some v ∧ 0 ≤ v.from_ ∧ v.from_ < k ∧ 0 ≤ v.by_ ∧ v.by_ ≤ 24
theorem Ei.old {s : ESt} {k : Nat} {t i : Int} (h : Ei s) (hi : 0 ≤ i ∧ i < s.marks.length) : Ei (exOld k t i s) := by
  refine ⟨h.lim, h.len, fun v hv => ?_, fun k' h1 h2 => ?_⟩
  · rcases List.mem_append.1 hv with hv | hv
    · exact h.top v hv
    · rw [List.mem_singleton] at hv; subst hv; exact hi
  · obtain ⟨v, a, b, c⟩ := h.up k' h1 h2
    refine ⟨v, a, ?_, c⟩
    show (s.moves ++ [_]).find? _ = _
    rw [List.find?_append, b]; rfl
theorem Ei.new {s : ESt} {k : Nat} {t : Int} {m : List UInt8} (h : Ei s) (hk : k < s.marks.length) (ht : 0 ≤ t ∧ t ≤ 24) (h3 : ¬ s.marks.length = 300) : Ei (exNew k t m s) := by
  have hl := h.len
  have hlim := h.lim
  refine ⟨by unfold exNew; simp; omega, by unfold exNew; simp [hl], fun v hv => ?_, fun k' h1 h2 => ?_⟩
  · have e : (exNew k t m s).marks.length = s.marks.length + 1 := by unfold exNew; simp
    rw [e]
    rcases List.mem_append.1 hv with hv | hv
    · have := h.top v hv; constructor <;> omega
    · rw [List.mem_singleton] at hv; subst hv; constructor <;> dsimp only <;> omega
  · have e : (exNew k t m s).marks.length = s.marks.length + 1 := by unfold exNew; simp
    rw [e] at h2
    show ∃ v : Mv, (s.by_ ++ [(⟨(k : Int), t, (s.marks.length : Int)⟩ : Mv)])[k']? = some v ∧ (s.moves ++ [(⟨(k : Int), t, (s.marks.length : Int)⟩ : Mv)]).find? (fun x => decide (x.to = (k' : Int))) = some v ∧ 0 ≤ v.from_ ∧ v.from_ < k' ∧ 0 ≤ v.by_ ∧ v.by_ ≤ 24
    by_cases c : k' < s.marks.length
    · obtain ⟨v, a, b, d⟩ := h.up k' h1 c
      refine ⟨v, ?_, ?_, d⟩
      · rw [List.getElem?_append_left (by omega), a]
      · rw [List.find?_append, b]; rfl
    · obtain rfl : k' = s.marks.length := by omega
      refine ⟨⟨k, t, s.marks.length⟩, ?_, ?_, by dsimp only; omega, by dsimp only; omega, ht.1, ht.2⟩
      · rw [List.getElem?_append_right (by omega), hl]; simp
      · have hn : s.moves.find? (fun x => decide (x.to = (s.marks.length : Int))) = none := by
          rw [List.find?_eq_none]
          intro v hv
          have := h.top v hv
          simp only [decide_eq_true_eq]; omega
        rw [List.find?_append, hn]
        simp
theorem exIn_ei {n : Net} {m : List UInt8} {k : Nat} (hm : goodMark n m = true) : ∀ (l : List Int) (s : ESt), (∀ t ∈ l, t ∈ enL n m) → k < s.marks.length → Ei s → match exIn n m k l s with
    | .ok s' => Ei s'
    | .bad t s' => Ei s' ∧ k < s'.marks.length ∧ 0 ≤ t ∧ t ≤ 24
    | .full s' => Ei s'
  | [], s, _, _, h => h
  | t :: r, s, hl, hk, h => by
    have hr : ∀ t ∈ r, t ∈ enL n m := fun t ht => hl t (List.mem_cons_of_mem _ ht)
    obtain ⟨j, x, e, hx, he', hf⟩ := enL_mem (hl t (List.mem_cons_self ..))
    have ht : 0 ≤ t ∧ t ≤ 24 := by
      have := lt_of_some hx
      have hl : n.trans.length ≤ 24 := by unfold goodMark goodNet at hm; simp only [Bool.and_eq_true, decide_eq_true_eq] at hm; omega
      omega
    unfold exIn
    cases hF : fireB n m t with
    | none => exact ⟨h, hk, ht⟩
    | some m' =>
      show match (if m' ∈ s.marks then exIn n m k r (exOld k t (findM m' s.marks) s) else if s.marks.length = 300 then .full s else exIn n m k r (exNew k t m' s)) with
        | .ok s' => Ei s'
        | .bad t s' => Ei s' ∧ k < s'.marks.length ∧ 0 ≤ t ∧ t ≤ 24
        | .full s' => Ei s'
      by_cases h2 : m' ∈ s.marks
      · rw [if_pos h2]
        exact exIn_ei hm r _ hr hk (h.old (findM_range h2))
      · rw [if_neg h2]
        by_cases h3 : s.marks.length = 300
        · rw [if_pos h3]; exact h
        · rw [if_neg h3]
          exact exIn_ei hm r _ hr (by unfold exNew; simp; omega) (h.new hk ht h3)
structure Eo (r : ERes) : Prop where
  ei : Ei r.st
  bad : r.code = 1 → r.k < r.st.marks.length ∧ 0 ≤ r.t ∧ r.t ≤ 24
theorem exOut_eo {n : Net} : ∀ (f k : Nat) (s : ESt), (∀ x ∈ s.marks, goodMark n x = true) → s.marks.length ≤ 300 → s.by_.length ≤ s.marks.length → Ei s → Eo (exOut n f k s)
  | 0, k, s, _, _, _, h => ⟨h, fun h => by cases h⟩
  | f + 1, k, s, hg, hl, hb, h => by
    cases hk : s.marks[k]? with
    | none => unfold exOut; rw [hk]; exact ⟨h, fun h => by cases h⟩
    | some m =>
      rw [exOut_step hk]
      have hm := hg m (List.mem_of_getElem? hk)
      have h1 := exIn_ei hm (enL n m) s (fun t ht => ht) (lt_of_some hk) h
      cases hE : exIn n m k (enL n m) s with
      | bad t s' => rw [hE] at h1; exact ⟨h1.1, fun _ => h1.2⟩
      | full s' => rw [hE] at h1; exact ⟨h1, fun h => by cases h⟩
      | ok s' =>
        rw [hE] at h1
        have hms := exIn_ms (s0 := s) hm (enL n m) s 0 s' (fun t ht => ht) ⟨⟨[], by simp⟩, hg, hl, by omega, hb⟩ hE
        exact exOut_eo f (k + 1) s' hms.good hms.len hms.by_ h1
theorem explore_eo {s : STG} (hg : goodMark s.net s.start = true) : Eo (explore s) := by
  refine exOut_eo 301 0 (exStart s.start) (by simpa [exStart] using hg) (by simp [exStart]) (by simp [exStart]) ⟨by simp [exStart], by simp [exStart], by simp [exStart], fun k h1 h2 => ?_⟩
  simp [exStart] at h2; omega
/-- The labels of the moves from state k back to the first one. -/
def upL (b : List Mv) : Nat → Int → List Int
  | 0, _ => []
  | f + 1, k => if k = 0 then [] else match b[k.toNat]? with
    | none => []
    | some v => v.by_ :: upL b f v.from_
theorem upL_0 (b : List Mv) (f : Nat) : upL b f 0 = [] := by cases f <;> simp [upL]
theorem upL_s {b : List Mv} {f k : Nat} {v : Mv} (hk : 1 ≤ k) (h : b[k]? = some v) : upL b (f + 1) k = v.by_ :: upL b f v.from_ := by
  show (if (k : Int) = 0 then _ else _) = _
  rw [if_neg (by omega), Int.toNat_natCast, h]
theorem upL_len (b : List Mv) : ∀ (f : Nat) (k : Int), (upL b f k).length ≤ f
  | 0, _ => by simp [upL]
  | f + 1, k => by
    unfold upL
    split
    · simp
    · split
      · simp
      · have := upL_len b f (by assumption : Mv).from_
        simp; omega
def utP (s : STG) : List Int × Bool := if stgP s = true ∧ (explore s).code = 1 then (((explore s).t :: upL (explore s).st.by_ 300 (explore s).k).reverse, true) else ([], false)
theorem upL_in {s : ESt} (h : Ei s) : ∀ (f : Nat) (k : Nat), k < s.marks.length → ∀ x ∈ upL s.by_ f k, 0 ≤ x ∧ x ≤ 24
  | 0, k, hk, x, hx => by cases hx
  | f + 1, k, hk, x, hx => by
    by_cases c : 1 ≤ k
    · obtain ⟨v, a, b, d1, d2, d3, d4⟩ := h.up k c hk
      obtain ⟨j, hj⟩ : ∃ j : Nat, v.from_ = j := ⟨v.from_.toNat, by omega⟩
      rw [upL_s c a] at hx
      rcases List.mem_cons.1 hx with rfl | hx
      · exact ⟨d3, d4⟩
      · rw [hj] at hx
        exact upL_in h f j (by omega) x hx
    · obtain rfl : k = 0 := by omega
      have e : upL s.by_ (f + 1) ((0 : Nat) : Int) = [] := upL_0 _ _
      rw [e] at hx; cases hx
theorem utP_len (s : STG) : (utP s).1.length ≤ 301 := by
  unfold utP
  split
  · have := upL_len (explore s).st.by_ 300 (explore s).k
    simp; omega
  · simp
theorem utP_in (s : STG) : ∀ x ∈ (utP s).1, 0 ≤ x ∧ x ≤ 24 := by
  intro x hx
  unfold utP at hx
  split at hx
  · rename_i c
    have hg : goodMark s.net s.start = true := by have c := c.1; unfold stgP at c; simp only [Bool.and_eq_true] at c; exact c.1.1
    have hE := explore_eo hg
    obtain ⟨hk, ht1, ht2⟩ := hE.bad c.2
    rw [List.mem_reverse] at hx
    rcases List.mem_cons.1 hx with rfl | hx
    · exact ⟨ht1, ht2⟩
    · exact upL_in hE.ei 300 _ hk x hx
  · cases hx
theorem find_ixf {α : Type} (p : α → Bool) (v : α) : ∀ (l : List α) (k : Nat), l.find? p = some v → ∃ i : Nat, ixf p k l = ((k + i : Nat) : Int) ∧ l[i]? = some v
  | [], k, h => by cases h
  | x :: r, k, h => by
    unfold ixf
    by_cases c : p x = true
    · rw [List.find?_cons_of_pos c] at h; cases h
      exact ⟨0, by rw [if_pos c]; rfl, rfl⟩
    · rw [List.find?_cons_of_neg c] at h
      obtain ⟨i, h1, h2⟩ := find_ixf p v r (k + 1) h
      exact ⟨i + 1, by rw [if_neg c, h1]; congr 1; omega, h2⟩
theorem mvS_at {l : List Mv} {k : Nat} {v : Mv} (h : l[k]? = some v) : idxV (.lst (l.map eMv)) (.int .i64 (k : Int)) = some (eMv v) := idx_map h
theorem ut_loop {s : ESt} (hE : Ei s) (z : List Int → Option PV) (enc : List Int → Int → List PV) (f : (List PV → Option PV) → List PV → Option PV)
    (h1 : ∀ again (acc : List Int) (k : Nat) (v : Mv), 1 ≤ k → k < s.marks.length → acc.length + k ≤ 301 → s.by_[k]? = some v → s.moves.find? (fun x => decide (x.to = (k : Int))) = some v → f again (enc acc k) = again (enc (acc ++ [v.by_]) v.from_))
    (h2 : ∀ again (acc : List Int), acc.length ≤ 301 → f again (enc acc 0) = z acc) (t : Int) (k : Nat) (hk : k < s.marks.length) : loopR f 18446744073709551616 (enc [t] k) = z (t :: upL s.by_ 300 k) := by
  have hlim := hE.lim
  have key := loopR_go (R := PV) (fun q : {q : List Int × Nat × Nat // q.2.1 < s.marks.length ∧ q.2.1 ≤ q.2.2 ∧ q.1.length + q.2.1 ≤ 301} => enc q.1.1 q.1.2.1) (fun q => q.1.2.1) (fun q => z (q.1.1 ++ upL s.by_ q.1.2.2 q.1.2.1)) f (fun again q ih => ?_) 18446744073709551616 ⟨([t], k, 300), hk, by dsimp only; omega, by simp; omega⟩ (by simp only; omega)
  · exact key
  · obtain ⟨⟨acc, k, fu⟩, hk, hf, hl⟩ := q
    dsimp only at ih hk hf hl ⊢
    by_cases c : 1 ≤ k
    · obtain ⟨v, a, b, d1, d2, d3⟩ := hE.up k c hk
      obtain ⟨fu, rfl⟩ : ∃ g, fu = g + 1 := ⟨fu - 1, by omega⟩
      obtain ⟨j, hj⟩ : ∃ j : Nat, v.from_ = j := ⟨v.from_.toNat, by omega⟩
      rw [h1 again acc k v c hk hl a b, upL_s c a]
      have := ih ⟨(acc ++ [v.by_], j, fu), by dsimp only; omega, by dsimp only; omega, by simp; omega⟩ (by dsimp only; omega)
      simp only [List.append_assoc, List.cons_append, List.nil_append] at this
      rw [hj]
      exact this
    · obtain rfl : k = 0 := by omega
      have e : upL s.by_ fu ((0 : Nat) : Int) = [] := upL_0 _ _
      rw [e, List.append_nil]
      exact h2 again acc (by omega)
theorem at_r_UnsafeTrace (s : STG) (hs : StgFit s) : s_r_UnsafeTrace [eStg s] = some (.tup [.lst ((utP s).1.map pI), pB (utP s).2]) := by
  have g1 := p_r_l2Good s hs
  show (fun x0 => s_r_UnsafeTrace [x0]) _ = _
  rw [sh_r_UnsafeTrace]
  unfold utP
  simp only [eStg] at g1 ⊢
  cases c : stgP s
  · simp only [c, g1, pv_t5, EVS]; rfl
  have hg : goodMark s.net s.start = true := by unfold stgP at c; simp only [Bool.and_eq_true] at c; exact c.1.1
  have g2 := p_r_l4Reach s hs hg
  have hE := explore_eo hg
  simp only [eStg, exW, stW] at g2
  by_cases c2 : (explore s).code = 1
  · obtain ⟨hk, ht1, ht2⟩ := hE.bad c2
    have hd : decide ((explore s).t < 0) = false := by simp only [decide_eq_false_iff_not]; omega
    simp only [c, c2, g1, g2, spl6, pv_6_6, hd, and_self, if_true, EVS]
    refine (ut_loop hE.ei (fun acc => some (.tup [.lst (acc.reverse.map pI), pB true])) (fun acc k => [.lst (acc.reverse.map pI), pI k]) _ (fun again acc k v h1 h2 h3 h4 h5 => ?_) (fun again acc h1 => ?_) (explore s).t (explore s).k hk)
    · have hd : decide ((k : Int) = 0) = false := by simp only [decide_eq_false_iff_not]; omega
      have hla : [pI v.by_].length + acc.reverse.length ≤ 4294967296 ∧ (acc.reverse.map pI).all (okEl 1) = true := ⟨by simp; omega, by rw [List.all_map]; exact List.all_eq_true.2 fun x _ => rfl⟩
      have hi := mvS_at h4
      simp only [hd, hi, eMv, List.drop_succ_cons, List.drop_zero, if_pos hla, EVS]
      simp
    · have hd : decide ((0 : Int) = 0) = true := rfl
      simp only [hd, EVS]
  · have hd : decide ((-1 : Int) < 0) = true := rfl
    simp only [c, c2, g1, g2, spl6, pv_6_6, hd, and_false, if_false, EVS]
    rfl
theorem p_i_UnsafeTrace_1 (v : Mv) (k : Int) : s_i_UnsafeTrace_1 [eMv v, .agg [pI k]] = some (pB (decide (v.to = k))) := by
  show (fun x0 x1 => s_i_UnsafeTrace_1 [x0, x1]) _ _ = _
  rw [sh_i_UnsafeTrace_1]
  simp only [eMv, EVS]
theorem p_g_slices_IndexFunc_Move__i_UnsafeTrace_1 (l : List Mv) (k : Int) (hl : Fits l) : s_g_slices_IndexFunc_Move__i_UnsafeTrace_1 [.lst (l.map eMv), .tup [.agg [pI k]]] = some (pI (ixf (fun v => decide (v.to = k)) 0 l)) := by
  show (fun x0 x1 => s_g_slices_IndexFunc_Move__i_UnsafeTrace_1 [x0, x1]) _ _ = _
  rw [sh_g_slices_IndexFunc_Move__i_UnsafeTrace_1]
  unfold Fits at hl
  simp only [EVS]
  refine (congrArg (fun m : Option PV => m.bind fun r => if r.sc = true then some r else none) (rangeIx l (fun v => decide (v.to = k)) _ hl (fun again i a hb => ?_) (fun again => ?_))).trans ?_
  · have hk := lt_of_some hb
    have hi : idxV (.lst (l.map eMv)) (.int .i64 (i : Int)) = some (eMv a) := idx_map hb
    have g := p_i_UnsafeTrace_1 a k
    simp only [eMv] at g
    simp only [lt_d hk, next_w hk hl, hi, eMv, caps1, List.cons_append, List.nil_append, g, EVS]
  · simp only [ge_d, EVS]
    rfl
  · simp only [EVS]
theorem exMoves (n : Net) : ∀ (f k : Nat) (s : ESt), (∀ x ∈ s.marks, goodMark n x = true) → s.marks.length ≤ 300 → s.by_.length ≤ s.marks.length → k ≤ 300 → s.moves.length ≤ 24 * k → (exOut n f k s).st.moves.length ≤ 100000
  | 0, k, s, _, _, _, _, h => by show s.moves.length ≤ _; omega
  | f + 1, k, s, hg, hl, hb, hk3, h => by
    cases hk : s.marks[k]? with
    | none => unfold exOut; rw [hk]; show s.moves.length ≤ _; omega
    | some m =>
      rw [exOut_step hk]
      have hm := hg m (List.mem_of_getElem? hk)
      have hkl := lt_of_some hk
      have hel := enL_length hm
      have hin : ∀ (l : List Int) (s : ESt), s.moves.length + l.length ≤ 100000 → match exIn n m k l s with
          | .ok s' => True
          | .bad t s' => s'.moves.length ≤ 100000
          | .full s' => s'.moves.length ≤ 100000 := by
        intro l
        induction l with
        | nil => intro s h; trivial
        | cons t r ih =>
          intro s h
          simp only [List.length_cons] at h
          unfold exIn
          cases hF : fireB n m t with
          | none => show s.moves.length ≤ _; omega
          | some m' =>
            show match (if m' ∈ s.marks then exIn n m k r (exOld k t (findM m' s.marks) s) else if s.marks.length = 300 then .full s else exIn n m k r (exNew k t m' s)) with
              | .ok s' => True
              | .bad t s' => s'.moves.length ≤ 100000
              | .full s' => s'.moves.length ≤ 100000
            by_cases h2 : m' ∈ s.marks
            · rw [if_pos h2]; exact ih _ (by unfold exOld; simp; omega)
            · rw [if_neg h2]
              by_cases h3 : s.marks.length = 300
              · rw [if_pos h3]; show s.moves.length ≤ _; omega
              · rw [if_neg h3]; exact ih _ (by unfold exNew; simp; omega)
      have h1 := hin (enL n m) s (by omega)
      cases hE : exIn n m k (enL n m) s with
      | bad t s' => rw [hE] at h1; exact h1
      | full s' => rw [hE] at h1; exact h1
      | ok s' =>
        have hms := exIn_ms (s0 := s) hm (enL n m) s 0 s' (fun t ht => ht) ⟨⟨[], by simp⟩, hg, hl, by omega, hb⟩ hE
        have := hms.mv
        exact exMoves n f (k + 1) s' hms.good hms.len hms.by_ (by omega) (by omega)
theorem explore_moves {s : STG} (hg : goodMark s.net s.start = true) : (explore s).st.moves.length ≤ 100000 :=
  exMoves s.net 301 0 (exStart s.start) (by simpa [exStart] using hg) (by simp [exStart]) (by simp [exStart]) (by omega) (by simp [exStart])
theorem spl2 (a b c d : PV) : splice [a, b] 0 [c, d] = [c, d] := rfl
theorem spl1a (a c : PV) : splice [a] 0 [c] = [c] := rfl
theorem at_i_UnsafeTrace (s : STG) (hs : StgFit s) : s_i_UnsafeTrace [eStg s] = some (.tup [.lst ((utP s).1.map pI), pB (utP s).2]) := by
  have g1 := p_i_IsValidSTG s hs
  show (fun x0 => s_i_UnsafeTrace [x0]) _ = _
  rw [sh_i_UnsafeTrace]
  unfold utP
  simp only [eStg] at g1 ⊢
  cases c : stgP s
  · simp only [c, g1, pv_t5, EVS]; rfl
  have hg : goodMark s.net s.start = true := by unfold stgP at c; simp only [Bool.and_eq_true] at c; exact c.1.1
  have g2 := p_i_explored s hs hg
  have hE := explore_eo hg
  have hM := explore_moves hg
  simp only [eStg, exV, rgV] at g2
  by_cases c2 : (explore s).code = 1
  · obtain ⟨hk, ht1, ht2⟩ := hE.bad c2
    have hd : decide (((explore s).k : Int) < 0) = false := by simp only [decide_eq_false_iff_not]; omega
    have hc0 : ((explore s).code == 0) = false := by rw [c2]; rfl
    rw [c2] at g2
    simp only [c, c2, g1, g2, show ((1 : Nat) == 0) = false from rfl, spl2, spl1a, pv_t5, hd, and_self, if_true, List.drop_zero, EVS]
    refine (ut_loop hE.ei (fun acc => some (.tup [.lst (acc.reverse.map pI), pB true])) (fun acc k => [.lst (acc.map pI), .agg [pI k]]) _ (fun again acc k v h1 h2 h3 h4 h5 => ?_) (fun again acc h1 => ?_) (explore s).t (explore s).k hk)
    · have hd : decide ((0 : Int) < (k : Int)) = true := by simp only [decide_eq_true_eq]; omega
      have hla : acc.length + [pI v.by_].length ≤ 4294967296 ∧ [pI v.by_].all (okEl 1) = true := ⟨by simp; omega, rfl⟩
      obtain ⟨i, hi1, hi2⟩ := find_ixf _ v _ 0 h5
      have hi := mvS_at hi2
      have g3 := p_g_slices_IndexFunc_Move__i_UnsafeTrace_1 (explore s).st.moves k (by unfold Fits; omega)
      rw [hi1, Nat.zero_add] at g3
      simp only [hd, g3, hi, eMv, List.drop_succ_cons, List.drop_zero, if_pos hla, spl1a, EVS]
      simp
    · have hd : decide ((0 : Int) < 0) = false := rfl
      have g4 : s_g_slices_Reverse_int [.lst (acc.map pI)] = some (.lst (acc.reverse.map pI)) := by
        show ipInts _ _ = _
        unfold ipInts
        simp only
        rw [intsOf_map]
        simp only [obs]
        rw [if_pos (by omega)]
      simp only [hd, g4, EVS]
  · have hd : decide ((-1 : Int) < 0) = true := rfl
    cases hc0 : ((explore s).code == 0) <;> simp only [c, c2, g1, g2, hc0, spl2, spl1a, hd, and_false, if_false, EVS] <;> rfl
end Go.Proofs.Ytpldcngejdgdkaa
