/-
  PLAIN LAWS of what the functions compute that FnExactFormatFlips reaches.
-/
import Derived.Test.YtmfplddmccggkaaFormatFlipsF
import Derived.Test.YtmfplddmccggkaaData
import Derived.Test.YtmfplddmccggkaaDistPure
import Derived.Test.YtmfplddmccggkaaWayPure

namespace Go.Proofs.Ytmfplddmccggkaa
open Go.RowKit
set_option linter.unusedVariables false
set_option linter.unusedSimpArgs false
theorem p_r_l1In (n lo hi : Int) : s_r_l1In [pI n, pI lo, pI hi] = some (pB (decide (lo ≤ n) && decide (n ≤ hi))) := by
  show (fun x0 x1 x2 => s_r_l1In [x0, x1, x2]) _ _ _ = _
  rw [sh_r_l1In]
  by_cases h : lo ≤ n <;> simp only [h, EVS]
/-- A name's byte. -/
def nameB (first : Bool) (b : UInt8) : Bool := (decide ((97 : Int) ≤ b.toNat) && decide ((b.toNat : Int) ≤ 122)) || (!first && (!decide ((b.toNat : Int) < 48) && !decide ((57 : Int) < b.toNat)))
def nameGo : Bool → List UInt8 → Bool
  | _, [] => true
  | f, b :: r => nameB f b && nameGo false r
def isNameP (s : List UInt8) : Bool := nameGo true s && (decide ((1 : Int) ≤ s.length) && decide ((s.length : Int) ≤ 6))
theorem p_r_l2Name (s : List UInt8) (hs : s.length ≤ 9223372036854775807) : s_r_l2Name [.str s] = some (pB (isNameP s)) := by
  show (fun x0 => s_r_l2Name [x0]) _ = _
  rw [sh_r_l2Name]
  refine (congrArg (scOnly true) (loopR_go (R := PV) (fun k : Nat => [pI (Int.ofNat k)]) (fun k => s.length + 1 - k) (fun k => some (pB (nameGo (k == 0) (s.drop k) && (decide ((1 : Int) ≤ s.length) && decide ((s.length : Int) ≤ 6))))) _ (fun again k ih => ?_) _ 0 (by omega))).trans ?_
  · by_cases hk : k < s.length
    · obtain ⟨b, hb⟩ : ∃ b, s[k]? = some b := ⟨s[k], List.getElem?_eq_getElem hk⟩
      have hd : s.drop k = b :: s.drop (k + 1) := by
        obtain ⟨h1, rfl⟩ := List.getElem?_eq_some_iff.1 hb
        exact List.drop_eq_getElem_cons h1
      have hlt : decide ((k : Int) < s.length) = true := by simpa using hk
      have hw : IntKind.i64.wrap ((k : Int) + 1) = ((k + 1 : Nat) : Int) := by rw [wrap_of (by omega) (by omega)]; omega
      have hnext := ih (k + 1) (by omega)
      simp only [Int.ofNat_eq_natCast] at hnext
      have hk0 : decide ((k : Int) = 0) = (k == 0) := by rw [Bool.eq_iff_iff]; simp
      rw [hd]
      have hk1 : (k + 1 == 0) = false := rfl
      rw [hk1] at hnext
      have ev1 := hlt
      have ev2 := byteV_at (k := .i64) hb
      simp only [nameGo, nameB, hlt, byteV_at hb, hk0, hw, hnext, EVS]
      by_cases c1 : (97 : Int) ≤ b.toNat
      all_goals simp only [c1, byteV_at hb, EVS]
      by_cases c2 : (b.toNat : Int) ≤ 122
      all_goals try simp only [c2, byteV_at hb, EVS]
      all_goals try simp only [hk0]
      all_goals try (cases c5 : (k == 0))
      all_goals try simp only [c5, byteV_at hb, EVS]
      all_goals try (by_cases c3 : (b.toNat : Int) < 48)
      all_goals try simp only [c3, byteV_at hb, EVS]
      all_goals try (by_cases c4 : (57 : Int) < b.toNat)
      all_goals try simp only [c4, byteV_at hb, EVS]
    · have hd : s.drop k = [] := List.drop_eq_nil_of_le (by omega)
      have hlt : decide ((k : Int) < s.length) = false := by simpa using hk
      rw [hd]
      simp only [nameGo, hlt, p_r_l1In, EVS]
  · simp only [isNameP, List.drop_zero, beq_self_eq_true, EVS]
end Go.Proofs.Ytmfplddmccggkaa

namespace Go.Proofs.Ytmfplddmccggkaa
open Go.RowKit
set_option linter.unusedVariables false
set_option linter.unusedSimpArgs false
def cubeB (b : UInt8) : Bool := decide ((b.toNat : Int) = 48) || decide ((b.toNat : Int) = 49) || decide ((b.toNat : Int) = 45)
def cubeP (s : List UInt8) : Bool := allK (fun _ b => cubeB b) 0 s && (decide ((1 : Int) ≤ s.length) && decide ((s.length : Int) ≤ 8))
theorem lt_of_some {α : Type} {l : List α} {k : Nat} {x : α} (h : l[k]? = some x) : k < l.length := (List.getElem?_eq_some_iff.1 h).1
theorem next_w {k n : Nat} (h : k < n) (hn : n ≤ 9223372036854775807) : IntKind.i64.wrap ((k : Int) + 1) = ((k + 1 : Nat) : Int) := by rw [wrap_of (by omega) (by omega)]; omega
theorem lt_d {k n : Nat} (h : k < n) : decide ((k : Int) < (n : Int)) = true := by simpa using h
theorem ge_d {n : Nat} : decide ((n : Int) < (n : Int)) = false := by simp
theorem p_r_l13Cube (s : List UInt8) (hs : s.length ≤ 9223372036854775807) : s_r_l13Cube [.str s] = some (pB (cubeP s)) := by
  show (fun x0 => s_r_l13Cube [x0]) _ = _
  rw [sh_r_l13Cube]
  refine (congrArg (scOnly true) (rangeAll (R := PV) s (fun _ b => cubeB b) (some (pB false)) (some (pB (decide ((1 : Int) ≤ s.length) && decide ((s.length : Int) ≤ 8)))) _ hs (fun again k b hb => ?_) (fun again => ?_))).trans ?_
  · have hk := lt_of_some hb
    cases c1 : decide ((b.toNat : Int) = 48) <;> cases c2 : decide ((b.toNat : Int) = 49) <;> cases c3 : decide ((b.toNat : Int) = 45) <;>
      simp only [cubeB, lt_d hk, next_w hk hs, byteV_at hb, c1, c2, c3, EVS]
  · simp only [ge_d, p_r_l1In, EVS]
  · unfold cubeP
    cases allK (fun _ b => cubeB b) 0 s <;> simp only [EVS]
end Go.Proofs.Ytmfplddmccggkaa

namespace Go.Proofs.Ytmfplddmccggkaa
open Go.RowKit
set_option linter.unusedVariables false
set_option linter.unusedSimpArgs false
abbrev eSig (s : List UInt8 × Int) : PV := .agg [.str s.1, pI s.2]
def inR (n lo hi : Int) : Bool := decide (lo ≤ n) && decide (n ≤ hi)
def sigOk (l : List (List UInt8 × Int)) (k : Nat) (s : List UInt8 × Int) : Bool := (isNameP s.1 && inR s.2 1 3) && allK (fun _ y => !decide (s.1 = y.1)) 0 (l.take k)
def sigsP (l : List (List UInt8 × Int)) : Bool := allK (sigOk l) 0 l && inR l.length 1 8
theorem okEl_eSig (x : List UInt8 × Int) : okEl 2 (eSig x) = true := rfl
theorem p_r_l2Signals (l : List (List UInt8 × Int)) (hl : l.length ≤ 9223372036854775807) (hs : ∀ s ∈ l, s.1.length ≤ 9223372036854775807) : s_r_l2Signals [.lst (l.map eSig)] = some (pB (sigsP l)) := by
  show (fun x0 => s_r_l2Signals [x0]) _ = _
  rw [sh_r_l2Signals]
  simp only [EVS]
  refine (congrArg (scOnly true) (rangeAll (R := PV) l (sigOk l) (some (pB false)) (some (pB (inR l.length 1 8))) _ hl (fun again k s hb => ?_) (fun again => ?_))).trans ?_
  · have hk := lt_of_some hb
    have hi : idxV (.lst (l.map eSig)) (.int .i64 (k : Int)) = some (eSig s) := idx_map hb
    have hc : cutL 2 (.lst (l.map eSig)) none (some (.int .i64 (k : Int))) = some (.lst ((l.take k).map eSig)) := cut_map okEl_eSig (by omega)
    have hn := p_r_l2Name s.1 (hs s (List.mem_of_getElem? hb))
    simp only [lt_d hk, next_w hk hl, hi, eSig, hn, p_r_l1In, sigOk, inR, EVS]
    obtain c1 | c1 := (Bool.eq_false_or_eq_true (isNameP s.1)).symm <;> simp only [c1, p_r_l1In, EVS]
    obtain c2 | c2 := (Bool.eq_false_or_eq_true (decide (1 ≤ s.2) && decide (s.2 ≤ 3))).symm <;> simp only [c2, EVS]
    simp only [hc, EVS]
    refine (rangeAll (R := PV) (l.take k) (fun _ y => !decide (s.1 = y.1)) (some (pB false)) (again [pI ((k + 1 : Nat) : Int)]) _ (by simp; omega) (fun again' j y hy => ?_) (fun again' => ?_)).trans ?_
    · have hj := lt_of_some hy
      have hi' : idxV (.lst ((l.take k).map eSig)) (.int .i64 (j : Int)) = some (eSig y) := idx_map hy
      simp only [lt_d hj, next_w hj (by simp; omega), hi', eSig, EVS]
      cases c3 : decide (s.1 = y.1) <;> simp only [c3, EVS]
    · simp only [ge_d, next_w hk hl, EVS]
    · rfl
  · simp only [ge_d, p_r_l1In, inR, EVS]
  · unfold sigsP
    cases allK (sigOk l) 0 l <;> simp only [EVS]
end Go.Proofs.Ytmfplddmccggkaa

namespace Go.Proofs.Ytmfplddmccggkaa
open Go.RowKit
set_option linter.unusedVariables false
set_option linter.unusedSimpArgs false
def coverGo (n : Int) (l : List (List UInt8)) : Bool := allK (fun _ c => cubeP c && decide ((c.length : Int) = n)) 0 l
def goodP (n : Int) (l : List (List UInt8)) : Bool := coverGo n l && (inR n 1 8 && decide ((l.length : Int) ≤ 60))
theorem p_r_l13Good (n : Int) (l : List (List UInt8)) (hl : l.length ≤ 9223372036854775807) (hs : ∀ s ∈ l, s.length ≤ 9223372036854775807) : s_r_l13Good [pI n, .lst (l.map PV.str)] = some (pB (goodP n l)) := by
  show (fun x0 x1 => s_r_l13Good [x0, x1]) _ _ = _
  rw [sh_r_l13Good]
  simp only [EVS]
  refine (congrArg (scOnly true) (rangeAll (R := PV) l (fun _ c => cubeP c && decide ((c.length : Int) = n)) (some (pB false)) (some (pB (inR n 1 8 && decide ((l.length : Int) ≤ 60)))) _ hl (fun again k s hb => ?_) (fun again => ?_))).trans ?_
  · have hk := lt_of_some hb
    have hi : idxV (.lst (l.map PV.str)) (.int .i64 (k : Int)) = some (.str s) := idx_map hb
    have hn := p_r_l13Cube s (hs s (List.mem_of_getElem? hb))
    simp only [lt_d hk, next_w hk hl, hi, hn, EVS]
    obtain c1 | c1 := (Bool.eq_false_or_eq_true (cubeP s)).symm <;> simp only [c1, EVS]
    obtain c2 | c2 := (Bool.eq_false_or_eq_true (decide ((s.length : Int) = n))).symm <;> simp only [c2, EVS]
  · simp only [ge_d, p_r_l1In, inR, EVS]
    obtain c1 | c1 := (Bool.eq_false_or_eq_true (decide (1 ≤ n) && decide (n ≤ 8))).symm <;> simp only [c1, EVS]
  · unfold goodP coverGo
    cases allK (fun _ c => cubeP c && decide ((c.length : Int) = n)) 0 l <;> simp only [EVS]
structure PWire where
  name : List UInt8
  kind : Int
  ins : List (Int × Bool)
  cover : List (List UInt8)
structure PNet where
  signals : List (List UInt8 × Int)
  wires : List PWire
abbrev ePin (p : Int × Bool) : PV := .agg [pI p.1, pB p.2]
abbrev eWire (w : PWire) : PV := .agg [.str w.name, pI w.kind, .lst (w.ins.map ePin), .lst (w.cover.map PV.str)]
abbrev eNet (n : PNet) : PV := .agg [.lst (n.signals.map eSig), .lst (n.wires.map eWire)]
abbrev Fits {α : Type} (l : List α) : Prop := l.length ≤ 9223372036854775807
structure PWire.Fit (w : PWire) : Prop where
  name : Fits w.name
  ins : Fits w.ins
  cover : Fits w.cover
  cubes : ∀ c ∈ w.cover, Fits c
structure PNet.Fit (n : PNet) : Prop where
  signals : Fits n.signals
  names : ∀ s ∈ n.signals, Fits s.1
  wires : Fits n.wires
  wire : ∀ w ∈ n.wires, w.Fit
def pinOk (n : PNet) (k : Nat) (p : Int × Bool) : Bool := inR p.1 0 ((n.wires.length : Int) - 1) && !(decide ((n.signals.length : Int) ≤ k) && decide ((k : Int) ≤ p.1))
def pinForm (k : Nat) (kind : Int) (ins : List (Int × Bool)) : Bool :=
  if decide (kind = 1) = true then decide ((ins.length : Int) = 0)
  else if decide (kind = 4) = true then decide ((ins.length : Int) = 2)
  else if decide (kind = 5) = true then decide ((ins.length : Int) = 0) || (match ins with | [p] => decide (p.1 = k) && !p.2 | _ => false)
  else inR ins.length 1 8
def pinsP (n : PNet) (k : Nat) (w : PWire) : Bool := allK (fun _ p => pinOk n k p) 0 w.ins && pinForm k w.kind w.ins
theorem p_r_l19Pins (n : PNet) (k : Nat) (w : PWire) (hn : n.Fit) (hw : w.Fit) : s_r_l19Pins [eNet n, pI k, eWire w] = some (pB (pinsP n k w)) := by
  show (fun x0 x1 x2 => s_r_l19Pins [x0, x1, x2]) _ _ _ = _
  rw [sh_r_l19Pins]
  simp only [eNet, eWire, EVS]
  have hwl : IntKind.i64.wrap ((n.wires.length : Int) - 1) = (n.wires.length : Int) - 1 := wrap_of (by omega) (by have := hn.wires; unfold Fits at this; omega)
  have hi0 := hw.ins
  unfold Fits at hi0
  refine (congrArg (scOnly true) (rangeAll (R := PV) w.ins (fun _ p => pinOk n k p) (some (pB false)) (some (pB (pinForm k w.kind w.ins))) _ hi0 (fun again j p hb => ?_) (fun again => ?_))).trans ?_
  · have hk := lt_of_some hb
    have hi : idxV (.lst (w.ins.map ePin)) (.int .i64 (j : Int)) = some (ePin p) := idx_map hb
    simp only [lt_d hk, next_w hk hi0, hi, ePin, hwl, p_r_l1In, pinOk, inR, EVS]
    obtain c1 | c1 := (Bool.eq_false_or_eq_true (decide (0 ≤ p.1) && decide (p.1 ≤ (n.wires.length : Int) - 1))).symm <;> simp only [c1, EVS]
    obtain c2 | c2 := (Bool.eq_false_or_eq_true (decide ((n.signals.length : Int) ≤ (k : Int)))).symm <;> simp only [c2, EVS]
    obtain c3 | c3 := (Bool.eq_false_or_eq_true (decide ((k : Int) ≤ p.1))).symm <;> simp only [c3, EVS]
  · simp only [ge_d, pinForm, EVS]
    obtain c1 | c1 := (Bool.eq_false_or_eq_true (decide (w.kind = 1))).symm <;> simp only [c1, EVS]
    obtain c2 | c2 := (Bool.eq_false_or_eq_true (decide (w.kind = 4))).symm <;> simp only [c2, EVS]
    obtain c3 | c3 := (Bool.eq_false_or_eq_true (decide (w.kind = 5))).symm <;> simp only [c3, p_r_l1In, inR, EVS]
    have h01 : decide ((0 : Int) = 1) = false := rfl
    have h00 : decide ((0 : Int) = 0) = true := rfl
    have h11 : decide ((1 : Int) = 1) = true := rfl
    have h10 : decide ((1 : Int) = 0) = false := rfl
    rcases hq : w.ins with _ | ⟨p, _ | ⟨q, r⟩⟩
    · simp only [List.length_nil, h00, EVS]
    · have hi : idxV (.lst ([p].map ePin)) (.int .i64 0) = some (ePin p) := rfl
      simp only [List.length_cons, List.length_nil, Nat.zero_add, h11, h10, hi, ePin, List.drop_zero, List.drop_succ_cons, EVS]
      obtain c4 | c4 := (Bool.eq_false_or_eq_true (decide (p.1 = (k : Int)))).symm <;> simp only [c4, h11, h10, hi, ePin, List.drop_zero, List.drop_succ_cons, EVS]
    · have h2 : decide (((r.length + 1 + 1 : Nat) : Int) = 0) = false := by simp; omega
      have h3 : decide (((r.length + 1 + 1 : Nat) : Int) = 1) = false := by simp; omega
      simp only [List.length_cons, h2, h3, EVS]
  · unfold pinsP
    cases allK (fun _ p => pinOk n k p) 0 w.ins <;> simp only [EVS]
end Go.Proofs.Ytmfplddmccggkaa

namespace Go.Proofs.Ytmfplddmccggkaa
open Go.RowKit
set_option linter.unusedVariables false
set_option linter.unusedSimpArgs false
def wireSeen (n : PNet) (k : Nat) (w : PWire) : Bool := match n.signals[k]? with | some s => decide (w.name = s.1) && (decide (w.kind = 1) == decide (s.2 = 1)) | none => false
def wireP (n : PNet) (k : Nat) (w : PWire) : Bool :=
  let seen := decide ((k : Int) < (n.signals.length : Int))
  (inR w.kind 1 5 && (seen || decide (w.kind = 2) || decide (w.kind = 3))) && (!seen || wireSeen n k w) && (if decide (w.kind = 5) = true then goodP n.signals.length w.cover else !decide ((0 : Int) < w.cover.length)) && (isNameP w.name && pinsP n k w)
theorem p_r_l19Wire (n : PNet) (k : Nat) (w : PWire) (hn : n.Fit) (hw : w.Fit) : s_r_l19Wire [eNet n, pI k, eWire w] = some (pB (wireP n k w)) := by
  have g1 := p_r_l13Good n.signals.length w.cover hw.cover hw.cubes
  have g2 := p_r_l2Name w.name hw.name
  have g3 := p_r_l19Pins n k w hn hw
  have g4 := p_r_l1In w.kind 1 5
  simp only [eNet, eWire] at g3
  show (fun x0 x1 x2 => s_r_l19Wire [x0, x1, x2]) _ _ _ = _
  rw [sh_r_l19Wire]
  simp only [eNet, eWire, g4, EVS]
  have fin : ∀ b : Bool, ((some (pB (isNameP w.name && b)))) = (some (pB (isNameP w.name && b))) := fun _ => rfl
  simp only [wireP, inR]
  obtain c1 | c1 := (Bool.eq_false_or_eq_true (decide (1 ≤ w.kind) && decide (w.kind ≤ 5))).symm <;> simp only [c1, EVS]
  obtain c2 | c2 := (Bool.eq_false_or_eq_true (decide ((k : Int) < (n.signals.length : Int)))).symm <;> simp only [c2, EVS]
  · obtain c3 | c3 := (Bool.eq_false_or_eq_true (decide (w.kind = 2))).symm <;> simp only [c3, EVS]
    · obtain c4 | c4 := (Bool.eq_false_or_eq_true (decide (w.kind = 3))).symm <;> simp only [c4, EVS]
      have c5 : decide (w.kind = 5) = false := by have := of_decide_eq_true c4; simp; omega
      simp only [c5, EVS]
      obtain c6 | c6 := (Bool.eq_false_or_eq_true (decide ((0 : Int) < w.cover.length))).symm <;> simp only [c6, g2, EVS]
      obtain c7 | c7 := (Bool.eq_false_or_eq_true (isNameP w.name)).symm <;> simp only [c7, g3, EVS]
    · have c4 : decide (w.kind = 3) = false := by have := of_decide_eq_true c3; simp; omega
      have c5 : decide (w.kind = 5) = false := by have := of_decide_eq_true c3; simp; omega
      simp only [c4, c5, EVS]
      obtain c6 | c6 := (Bool.eq_false_or_eq_true (decide ((0 : Int) < w.cover.length))).symm <;> simp only [c6, g2, EVS]
      obtain c7 | c7 := (Bool.eq_false_or_eq_true (isNameP w.name)).symm <;> simp only [c7, g3, EVS]
  · have hk : k < n.signals.length := by have := of_decide_eq_true c2; omega
    have hs : n.signals[k]? = some n.signals[k] := List.getElem?_eq_getElem hk
    have hi : idxV (.lst (n.signals.map eSig)) (.int .i64 (k : Int)) = some (eSig n.signals[k]) := idx_map hs
    simp only [wireSeen, hs, hi, eSig, List.drop_zero, List.drop_succ_cons, EVS]
    obtain c3 | c3 := (Bool.eq_false_or_eq_true (decide (w.name = n.signals[k].1))).symm <;> simp only [c3, hi, eSig, List.drop_zero, List.drop_succ_cons, EVS]
    obtain c4 | c4 := (Bool.eq_false_or_eq_true (decide (w.kind = 1) == decide (n.signals[k].2 = 1))).symm <;> simp only [bne, c4, hi, eSig, List.drop_zero, List.drop_succ_cons, EVS]
    obtain c5 | c5 := (Bool.eq_false_or_eq_true (decide (w.kind = 5))).symm <;> simp only [c5, g1, g2, EVS]
    · obtain c6 | c6 := (Bool.eq_false_or_eq_true (decide ((0 : Int) < w.cover.length))).symm <;> simp only [c6, g2, EVS]
      obtain c7 | c7 := (Bool.eq_false_or_eq_true (isNameP w.name)).symm <;> simp only [c7, g3, EVS]
    · obtain c6 | c6 := (Bool.eq_false_or_eq_true (goodP n.signals.length w.cover)).symm <;> simp only [c5, c6, g2, EVS]
      obtain c7 | c7 := (Bool.eq_false_or_eq_true (isNameP w.name)).symm <;> simp only [c5, c7, g3, EVS]
/-- Each wire is right, and no wire ahead has its name. -/
def netWireOk (n : PNet) (k : Nat) (w : PWire) : Bool := wireP n k w && allK (fun _ v => !decide (v.name = w.name)) 0 (n.wires.take k)
def netP (n : PNet) : Bool := sigsP n.signals && (!decide ((n.wires.length : Int) < n.signals.length) && !decide ((24 : Int) < n.wires.length)) && allK (netWireOk n) 0 n.wires
theorem okEl_eWire (x : PWire) : okEl 4 (eWire x) = true := rfl
theorem cells4 (a b c d : PV) : cellsW 4 (.agg [a, b, c, d]) = some [a, b, c, d] := (Eq.refl _).trans (Eq.refl _)
theorem p_r_l19Good (n : PNet) (hn : n.Fit) : s_r_l19Good [eNet n] = some (pB (netP n)) := by
  have g1 := p_r_l2Signals n.signals hn.signals hn.names
  have hwl := hn.wires
  unfold Fits at hwl
  show (fun x0 => s_r_l19Good [x0]) _ = _
  rw [sh_r_l19Good]
  simp only [eNet, g1, EVS]
  unfold netP
  obtain c1 | c1 := (Bool.eq_false_or_eq_true (sigsP n.signals)).symm <;> simp only [c1, EVS]
  obtain c2 | c2 := (Bool.eq_false_or_eq_true (decide ((n.wires.length : Int) < n.signals.length))).symm <;> simp only [c2, EVS]
  obtain c3 | c3 := (Bool.eq_false_or_eq_true (decide ((24 : Int) < n.wires.length))).symm <;> simp only [c3, EVS]
  refine (congrArg (scOnly true) (rangeAll (R := PV) n.wires (netWireOk n) (some (pB false)) (some (pB true)) _ hwl (fun again k w hb => ?_) (fun again => ?_))).trans ?_
  · have hk := lt_of_some hb
    have hi : idxV (.lst (n.wires.map eWire)) (.int .i64 (k : Int)) = some (eWire w) := idx_map hb
    have hc : cutL 4 (.lst (n.wires.map eWire)) none (some (.int .i64 (k : Int))) = some (.lst ((n.wires.take k).map eWire)) := cut_map okEl_eWire (by omega)
    have g3 := p_r_l19Wire n k w hn (hn.wire w (List.mem_of_getElem? hb))
    simp only [eNet, eWire] at g3
    simp only [lt_d hk, next_w hk hwl, hi, eWire, netWireOk, g3, EVS]
    obtain c4 | c4 := (Bool.eq_false_or_eq_true (wireP n k w)).symm <;> simp only [c4, hc, EVS]
    refine (rangeAll (R := PV) (n.wires.take k) (fun _ v => !decide (v.name = w.name)) (some (pB false)) (again [pI ((k + 1 : Nat) : Int)]) _ (by simp; omega) (fun again' j y hy => ?_) (fun again' => ?_)).trans ?_
    · have hj := lt_of_some hy
      have hi' : idxV (.lst ((n.wires.take k).map eWire)) (.int .i64 (j : Int)) = some (eWire y) := idx_map hy
      simp only [lt_d hj, next_w hj (by simp; omega), hi', eWire, EVS]
      obtain c5 | c5 := (Bool.eq_false_or_eq_true (decide (y.name = w.name))).symm <;> simp only [c5, EVS]
    · simp only [ge_d, next_w hk hwl, EVS]
    · rfl
  · simp only [ge_d, EVS]
  · cases allK (netWireOk n) 0 n.wires <;> simp only [EVS]
end Go.Proofs.Ytmfplddmccggkaa

namespace Go.Proofs.Ytmfplddmccggkaa
open Go.RowKit
set_option linter.unusedVariables false
set_option linter.unusedSimpArgs false
theorem p_i_within (n lo hi : Int) : s_i_within [pI n, pI lo, pI hi] = some (pB (inR n lo hi)) := by
  show (fun x0 x1 x2 => s_i_within [x0, x1, x2]) _ _ _ = _
  rw [sh_i_within]
  unfold inR
  by_cases h : lo ≤ n <;> simp only [h, EVS]
def nameB' (k : Nat) (b : UInt8) : Bool := (decide ((97 : Int) ≤ b.toNat) && decide ((b.toNat : Int) ≤ 122)) || (!decide ((k : Int) = 0) && (decide ((48 : Int) ≤ b.toNat) && decide ((b.toNat : Int) ≤ 57)))
def nameP' (s : List UInt8) : Bool := allK nameB' 0 s && inR s.length 1 6
theorem p_i_isName (s : List UInt8) (hs : s.length ≤ 9223372036854775807) : s_i_isName [.str s] = some (pB (nameP' s)) := by
  show (fun x0 => s_i_isName [x0]) _ = _
  rw [sh_i_isName]
  refine (congrArg (scOnly true) (rangeAll (R := PV) s nameB' (some (pB false)) (some (pB (inR s.length 1 6))) _ hs (fun again k b hb => ?_) (fun again => ?_))).trans ?_
  · have hk := lt_of_some hb
    simp only [nameB', lt_d hk, next_w hk hs, byteV_at hb, EVS]
    obtain c1 | c1 := (Bool.eq_false_or_eq_true (decide ((97 : Int) ≤ b.toNat))).symm <;> simp only [c1, byteV_at hb, EVS]
    all_goals (obtain c2 | c2 := (Bool.eq_false_or_eq_true (decide ((b.toNat : Int) ≤ 122))).symm <;> try simp only [c2, byteV_at hb, EVS])
    all_goals (obtain c3 | c3 := (Bool.eq_false_or_eq_true (decide ((48 : Int) ≤ b.toNat))).symm <;> try simp only [c3, byteV_at hb, EVS])
    all_goals (obtain c4 | c4 := (Bool.eq_false_or_eq_true (decide ((b.toNat : Int) ≤ 57))).symm <;> try simp only [c4, byteV_at hb, EVS])
    all_goals (obtain c5 | c5 := (Bool.eq_false_or_eq_true (decide ((k : Int) = 0))).symm <;> try simp only [c5, EVS])
  · simp only [ge_d, p_i_within, EVS]
  · unfold nameP'
    cases allK nameB' 0 s <;> simp only [EVS]
theorem nameGo_all : ∀ (l : List UInt8) (k : Nat), nameGo (k == 0) l = allK nameB' k l
  | [], _ => rfl
  | b :: r, k => by
    have h := nameGo_all r (k + 1)
    have h1 : (k + 1 == 0) = false := rfl
    rw [h1] at h
    unfold nameGo allK
    rw [h]
    congr 1
    unfold nameB nameB'
    have e1 : decide ((48 : Int) ≤ b.toNat) = !decide ((b.toNat : Int) < 48) := by rw [Bool.eq_iff_iff]; simp
    have e2 : decide ((b.toNat : Int) ≤ 57) = !decide ((57 : Int) < b.toNat) := by rw [Bool.eq_iff_iff]; simp
    have e3 : decide ((k : Int) = 0) = (k == 0) := by rw [Bool.eq_iff_iff]; simp
    rw [e1, e2, e3]
theorem name_eq (s : List UInt8) : isNameP s = nameP' s := by
  unfold isNameP nameP' inR
  rw [← nameGo_all s 0]
  rfl
theorem p_i_isName' (s : List UInt8) (hs : s.length ≤ 9223372036854775807) : s_i_isName [.str s] = some (pB (isNameP s)) := (p_i_isName s hs).trans (by rw [name_eq])
def cubeP' (s : List UInt8) (n : Int) : Bool := allK (fun _ b => cubeB b) 0 s && (decide ((s.length : Int) = n) && inR n 1 8)
theorem p_i_isCube (s : List UInt8) (n : Int) (hs : s.length ≤ 9223372036854775807) : s_i_isCube [.str s, pI n] = some (pB (cubeP' s n)) := by
  show (fun x0 x1 => s_i_isCube [x0, x1]) _ _ = _
  rw [sh_i_isCube]
  refine (congrArg (scOnly true) (rangeAll (R := PV) s (fun _ b => cubeB b) (some (pB false)) (some (pB (decide ((s.length : Int) = n) && inR n 1 8))) _ hs (fun again k b hb => ?_) (fun again => ?_))).trans ?_
  · have hk := lt_of_some hb
    simp only [cubeB, lt_d hk, next_w hk hs, byteV_at hb, EVS]
    obtain c1 | c1 := (Bool.eq_false_or_eq_true (decide ((b.toNat : Int) = 48))).symm <;> simp only [c1, byteV_at hb, EVS]
    obtain c2 | c2 := (Bool.eq_false_or_eq_true (decide ((b.toNat : Int) = 49))).symm <;> simp only [c2, byteV_at hb, EVS]
    obtain c3 | c3 := (Bool.eq_false_or_eq_true (decide ((b.toNat : Int) = 45))).symm <;> simp only [c3, byteV_at hb, EVS]
  · simp only [ge_d, EVS]
    obtain c1 | c1 := (Bool.eq_false_or_eq_true (decide ((s.length : Int) = n))).symm <;> simp only [c1, p_i_within, EVS]
  · unfold cubeP'
    cases allK (fun _ b => cubeB b) 0 s <;> simp only [EVS]
end Go.Proofs.Ytmfplddmccggkaa

namespace Go.Proofs.Ytmfplddmccggkaa
open Go.RowKit
set_option linter.unusedVariables false
set_option linter.unusedSimpArgs false
/-- The first index of an element that answers. -/
def ixf {α : Type} (q : α → Bool) : Nat → List α → Int
  | _, [] => -1
  | k, x :: r => if q x = true then (k : Int) else ixf q (k + 1) r
theorem rgo_ixf {α : Type} (q : α → Bool) : ∀ (l : List α) (k : Nat), rgo (fun k x => if q x = true then some (some (pI (k : Int))) else none) (some (pI (-1))) k l = some (pI (ixf q k l))
  | [], k => rfl
  | x :: r, k => by
    unfold rgo ixf
    cases q x
    · simp [rgo_ixf q r (k + 1)]
    · simp
theorem ixf_ge {α : Type} (q : α → Bool) : ∀ (l : List α) (k : Nat), decide ((0 : Int) ≤ ixf q k l) = !allK (fun _ x => !q x) k l
  | [], k => rfl
  | x :: r, k => by
    unfold ixf allK
    cases q x
    · simp [ixf_ge q r (k + 1)]
    · simp
theorem rangeIx {α : Type} (l : List α) (q : α → Bool) (f : (List PV → Option PV) → List PV → Option PV) (hl : l.length ≤ 9223372036854775807)
    (h1 : ∀ again k x, l[k]? = some x → f again [pI (Int.ofNat k)] = if q x = true then some (pI (k : Int)) else again [pI (Int.ofNat (k + 1))])
    (h2 : ∀ again, f again [pI (Int.ofNat l.length)] = some (pI (-1))) : loopR f 18446744073709551616 [pI (Int.ofNat 0)] = some (pI (ixf q 0 l)) := by
  rw [range1 l (fun k x => if q x = true then some (some (pI (k : Int))) else none) (some (pI (-1))) f hl (fun again k x hx => ?_) h2, rgo_ixf]
  rw [h1 again k x hx]
  cases q x <;> simp
theorem caps1 (l : List PV) : capsOf 1 (.tup [.agg l]) = some [.agg l] := by simp [capsOf, PV.parts, PV.isU]
theorem p_i_areSignals_1 (a x : List UInt8 × Int) : s_i_areSignals_1 [eSig a, eSig x] = some (pB (decide (a.1 = x.1))) := by
  show (fun x0 x1 => s_i_areSignals_1 [x0, x1]) _ _ = _
  rw [sh_i_areSignals_1]
  simp only [eSig, List.drop_zero, EVS]
theorem p_g_slices_IndexFunc_Signal__i_areSignals_1 (l : List (List UInt8 × Int)) (x : List UInt8 × Int) (hl : Fits l) : s_g_slices_IndexFunc_Signal__i_areSignals_1 [.lst (l.map eSig), .tup [eSig x]] = some (pI (ixf (fun a => decide (a.1 = x.1)) 0 l)) := by
  show (fun x0 x1 => s_g_slices_IndexFunc_Signal__i_areSignals_1 [x0, x1]) _ _ = _
  rw [sh_g_slices_IndexFunc_Signal__i_areSignals_1]
  unfold Fits at hl
  simp only [EVS]
  refine (congrArg (scOnly true) (rangeIx l (fun a => decide (a.1 = x.1)) _ hl (fun again k a hb => ?_) (fun again => ?_))).trans ?_
  · have hk := lt_of_some hb
    have hi : idxV (.lst (l.map eSig)) (.int .i64 (k : Int)) = some (eSig a) := idx_map hb
    have g := p_i_areSignals_1 a x
    simp only [eSig] at g
    simp only [lt_d hk, next_w hk hl, hi, eSig, caps1, List.cons_append, List.nil_append, g, EVS]
  · simp only [ge_d, EVS]
    rfl
  · simp only [EVS]
theorem p_g_slices_ContainsFunc_Signal__i_areSignals_1 (l : List (List UInt8 × Int)) (x : List UInt8 × Int) (hl : Fits l) : s_g_slices_ContainsFunc_Signal__i_areSignals_1 [.lst (l.map eSig), .tup [eSig x]] = some (pB (!allK (fun _ a => !decide (a.1 = x.1)) 0 l)) := by
  show (fun x0 x1 => s_g_slices_ContainsFunc_Signal__i_areSignals_1 [x0, x1]) _ _ = _
  rw [sh_g_slices_ContainsFunc_Signal__i_areSignals_1]
  simp only [p_g_slices_IndexFunc_Signal__i_areSignals_1 l x hl, ixf_ge (fun a : List UInt8 × Int => decide (a.1 = x.1)) l 0, EVS]
end Go.Proofs.Ytmfplddmccggkaa

namespace Go.Proofs.Ytmfplddmccggkaa
open Go.RowKit
set_option linter.unusedVariables false
set_option linter.unusedSimpArgs false
theorem cut_n (n : Nat) : True := trivial
theorem p_i_arePins_1 (p : Int × Bool) (n : Nat) (hn : n ≤ 9223372036854775807) : s_i_arePins_1 [ePin p, .agg [pI n]] = some (pB (!inR p.1 0 ((n : Int) - 1))) := by
  have hwl : IntKind.i64.wrap ((n : Int) - 1) = (n : Int) - 1 := wrap_of (by omega) (by omega)
  show (fun x0 x1 => s_i_arePins_1 [x0, x1]) _ _ = _
  rw [sh_i_arePins_1]
  simp only [ePin, hwl, p_i_within, EVS]
theorem p_g_slices_IndexFunc_Pin__i_arePins_1 (l : List (Int × Bool)) (n : Nat) (hn : n ≤ 9223372036854775807) (hl : Fits l) : s_g_slices_IndexFunc_Pin__i_arePins_1 [.lst (l.map ePin), .tup [.agg [pI n]]] = some (pI (ixf (fun p => !inR p.1 0 ((n : Int) - 1)) 0 l)) := by
  show (fun x0 x1 => s_g_slices_IndexFunc_Pin__i_arePins_1 [x0, x1]) _ _ = _
  rw [sh_g_slices_IndexFunc_Pin__i_arePins_1]
  unfold Fits at hl
  simp only [EVS]
  refine (congrArg (scOnly true) (rangeIx l (fun p => !inR p.1 0 ((n : Int) - 1)) _ hl (fun again k a hb => ?_) (fun again => ?_))).trans ?_
  · have hk := lt_of_some hb
    have hi : idxV (.lst (l.map ePin)) (.int .i64 (k : Int)) = some (ePin a) := idx_map hb
    have g := p_i_arePins_1 a n hn
    simp only [ePin] at g
    simp only [lt_d hk, next_w hk hl, hi, ePin, caps1, List.cons_append, List.nil_append, g, EVS]
  · simp only [ge_d, EVS]
    rfl
  · simp only [EVS]
def pinsIn (l : List (Int × Bool)) (n : Nat) : Bool := allK (fun _ p => inR p.1 0 ((n : Int) - 1)) 0 l
theorem p_i_arePins (l : List (Int × Bool)) (n : Nat) (hn : n ≤ 9223372036854775807) (hl : Fits l) : s_i_arePins [.lst (l.map ePin), pI n] = some (pB (pinsIn l n)) := by
  have g : s_g_slices_ContainsFunc_Pin__i_arePins_1 [.lst (l.map ePin), .tup [.agg [pI n]]] = some (pB (!allK (fun _ p => inR p.1 0 ((n : Int) - 1)) 0 l)) := by
    show (fun x0 x1 => s_g_slices_ContainsFunc_Pin__i_arePins_1 [x0, x1]) _ _ = _
    rw [sh_g_slices_ContainsFunc_Pin__i_arePins_1]
    simp only [p_g_slices_IndexFunc_Pin__i_arePins_1 l n hn hl, ixf_ge (fun p : Int × Bool => !inR p.1 0 ((n : Int) - 1)) l 0, Bool.not_not, EVS]
  show (fun x0 x1 => s_i_arePins [x0, x1]) _ _ = _
  rw [sh_i_arePins]
  have lt : ∀ {R : Type} (l : List PV) (x : Option R), liveThen [.tup l] x = x := fun l x => (Eq.refl _).trans (Eq.refl _)
  simp only [lt, g, List.drop_zero, Bool.not_not, pinsIn, EVS]
theorem p_i_wireOf_1 (w : PWire) (x : List UInt8) : s_i_wireOf_1 [eWire w, .agg [.str x]] = some (pB (decide (w.name = x))) := by
  show (fun x0 x1 => s_i_wireOf_1 [x0, x1]) _ _ = _
  rw [sh_i_wireOf_1]
  simp only [eWire, List.drop_zero, EVS]
theorem p_i_wireOf (l : List PWire) (x : List UInt8) (hl : Fits l) : s_i_wireOf [.lst (l.map eWire), .str x] = some (pI (ixf (fun w : PWire => decide (w.name = x)) 0 l)) := by
  unfold Fits at hl
  have g : s_g_slices_IndexFunc_Wire__i_wireOf_1 [.lst (l.map eWire), .tup [.agg [.str x]]] = some (pI (ixf (fun w : PWire => decide (w.name = x)) 0 l)) := by
    show (fun x0 x1 => s_g_slices_IndexFunc_Wire__i_wireOf_1 [x0, x1]) _ _ = _
    rw [sh_g_slices_IndexFunc_Wire__i_wireOf_1]
    simp only [EVS]
    refine (congrArg (scOnly true) (rangeIx l (fun w : PWire => decide (w.name = x)) _ hl (fun again k a hb => ?_) (fun again => ?_))).trans ?_
    · have hk := lt_of_some hb
      have hi : idxV (.lst (l.map eWire)) (.int .i64 (k : Int)) = some (eWire a) := idx_map hb
      have g := p_i_wireOf_1 a x
      simp only [eWire] at g
      simp only [lt_d hk, next_w hk hl, hi, eWire, caps1, List.cons_append, List.nil_append, g, EVS]
    · simp only [ge_d, EVS]
      rfl
    · simp only [EVS]
  show (fun x0 x1 => s_i_wireOf [x0, x1]) _ _ = _
  rw [sh_i_wireOf]
  have lt : ∀ {R : Type} (l : List PV) (x : Option R), liveThen [.tup l] x = x := fun l x => (Eq.refl _).trans (Eq.refl _)
  simp only [lt, g, List.drop_zero, Bool.not_not, EVS]
theorem p_i_IsValidCover_1 (c : List UInt8) (n : Int) (hc : Fits c) : s_i_IsValidCover_1 [.str c, .agg [pI n]] = some (pB (!cubeP' c n)) := by
  show (fun x0 x1 => s_i_IsValidCover_1 [x0, x1]) _ _ = _
  rw [sh_i_IsValidCover_1]
  simp only [p_i_isCube c n hc, EVS]
theorem p_g_slices_IndexFunc_string__i_IsValidCover_1 (l : List (List UInt8)) (n : Int) (hl : Fits l) (hc : ∀ c ∈ l, Fits c) : s_g_slices_IndexFunc_string__i_IsValidCover_1 [.lst (l.map PV.str), .tup [.agg [pI n]]] = some (pI (ixf (fun c : List UInt8 => !cubeP' c n) 0 l)) := by
  unfold Fits at hl
  show (fun x0 x1 => s_g_slices_IndexFunc_string__i_IsValidCover_1 [x0, x1]) _ _ = _
  rw [sh_g_slices_IndexFunc_string__i_IsValidCover_1]
  simp only [EVS]
  refine (congrArg (scOnly true) (rangeIx l (fun c : List UInt8 => !cubeP' c n) _ hl (fun again k a hb => ?_) (fun again => ?_))).trans ?_
  · have hk := lt_of_some hb
    have hi : idxV (.lst (l.map PV.str)) (.int .i64 (k : Int)) = some (.str a) := idx_map hb
    have g := p_i_IsValidCover_1 a n (hc a (List.mem_of_getElem? hb))
    simp only [lt_d hk, next_w hk hl, hi, caps1, List.cons_append, List.nil_append, g, EVS]
  · simp only [ge_d, EVS]
    rfl
  · simp only [EVS]
end Go.Proofs.Ytmfplddmccggkaa

namespace Go.Proofs.Ytmfplddmccggkaa
open Go.RowKit
set_option linter.unusedVariables false
set_option linter.unusedSimpArgs false
theorem eqPin (a c : Int) (b d : Bool) : eqV (some [(0, TD.int .i64), (1, TD.bool)]) .struct (.agg [pI a, pB b]) (.agg [pI c, pB d]) = some (decide (a = c) && (b == d)) := by
  simp [eqV, eqAt, scEq, beq_eq_decide]
theorem zp_bool : ZC.bool.pv = pB false := (Eq.refl _).trans (Eq.refl _)
theorem sp12 (a b c : PV) : splice [a, b] 0 [c] = [c, b] := (Eq.refl _).trans (Eq.refl _)
def coverI (n : Int) (l : List (List UInt8)) : Bool := (inR n 1 8 && decide ((l.length : Int) ≤ 60)) && allK (fun _ c => cubeP' c n) 0 l
def wireForm (n : PNet) (k : Nat) (w : PWire) : Bool :=
  if decide (w.kind = 1) = true then decide ((w.ins.length : Int) = 0)
  else if (decide (w.kind = 2) || decide (w.kind = 3)) = true then inR w.ins.length 1 8
  else if decide (w.kind = 4) = true then decide ((w.ins.length : Int) = 2)
  else if decide (w.kind = 5) = true then coverI n.signals.length w.cover && (decide ((w.ins.length : Int) = 0) || (match w.ins with | [p] => decide (p.1 = (k : Int)) && (p.2 == false) | _ => false))
  else false
def wireI (n : PNet) (k : Nat) (w : PWire) : Bool := !((!decide (w.kind = 5) && decide ((0 : Int) < w.cover.length)) || !pinsIn w.ins n.wires.length) && wireForm n k w
theorem p_i_isWire (h160 : ∀ (n : Int) (l : List (List UInt8)), Fits l → (∀ c ∈ l, Fits c) → s_i_IsValidCover [pI n, .lst (l.map PV.str)] = some (pB (coverI n l))) (n : PNet) (k : Nat) (w : PWire) (hn : n.Fit) (hk : n.wires[k]? = some w) : s_i_isWire [eNet n, pI k] = some (pB (wireI n k w)) := by
  have hw := hn.wire w (List.mem_of_getElem? hk)
  have g1 := h160 n.signals.length w.cover hw.cover hw.cubes
  have hwl := hn.wires
  unfold Fits at hwl
  have g2 := p_i_arePins w.ins n.wires.length hwl hw.ins
  have hi : idxV (.lst (n.wires.map eWire)) (.int .i64 (k : Int)) = some (eWire w) := idx_map hk
  show (fun x0 x1 => s_i_isWire [x0, x1]) _ _ = _
  rw [sh_i_isWire]
  simp only [eNet, hi, eWire, EVS]
  unfold wireI
  obtain c1 | c1 := (Bool.eq_false_or_eq_true (!decide (w.kind = 5))).symm <;> simp only [c1, g2, EVS]
  · obtain c2 | c2 := (Bool.eq_false_or_eq_true (pinsIn w.ins n.wires.length)).symm <;> simp only [c1, c2, g2, EVS]
    have c5 : decide (w.kind = 5) = true := by simpa using c1
    have e1 : decide (w.kind = 1) = false := by have := of_decide_eq_true c5; simp; omega
    have e2 : decide (w.kind = 2) = false := by have := of_decide_eq_true c5; simp; omega
    have e3 : decide (w.kind = 3) = false := by have := of_decide_eq_true c5; simp; omega
    have e4 : decide (w.kind = 4) = false := by have := of_decide_eq_true c5; simp; omega
    simp only [joinK_eq, wireForm, e1, e2, e3, e4, c5, g1, EVS]
    obtain c3 | c3 := (Bool.eq_false_or_eq_true (coverI n.signals.length w.cover)).symm <;> simp only [c3, EVS]
    have h01 : decide ((0 : Int) = 1) = false := rfl
    have h00 : decide ((0 : Int) = 0) = true := rfl
    have h11 : decide ((1 : Int) = 1) = true := rfl
    have h10 : decide ((1 : Int) = 0) = false := rfl
    rcases hq : w.ins with _ | ⟨p, _ | ⟨q, r⟩⟩
    · simp only [List.length_nil, h00, EVS]
    · have hi : idxV (.lst ([p].map ePin)) (.int .i64 0) = some (ePin p) := rfl
      simp only [List.length_cons, List.length_nil, Nat.zero_add, h11, h10, hi, ePin, zp_bool, sp12, eqPin, List.drop_zero, List.drop_succ_cons, EVS]
    · have h2 : decide (((r.length + 1 + 1 : Nat) : Int) = 0) = false := by simp; omega
      have h3 : decide (((r.length + 1 + 1 : Nat) : Int) = 1) = false := by simp; omega
      simp only [List.length_cons, h2, h3, EVS]
  · have c5 : decide (w.kind = 5) = false := by simpa using c1
    obtain c2 | c2 := (Bool.eq_false_or_eq_true (decide ((0 : Int) < w.cover.length))).symm <;> simp only [c1, c2, g2, EVS]
    obtain c3 | c3 := (Bool.eq_false_or_eq_true (pinsIn w.ins n.wires.length)).symm <;> simp only [c3, EVS]
    simp only [joinK_eq, wireForm, c5, EVS]
    obtain e1 | e1 := (Bool.eq_false_or_eq_true (decide (w.kind = 1))).symm <;> simp only [e1, EVS]
    obtain e2 | e2 := (Bool.eq_false_or_eq_true (decide (w.kind = 2))).symm <;> simp only [e2, p_i_within, EVS]
    obtain e3 | e3 := (Bool.eq_false_or_eq_true (decide (w.kind = 3))).symm <;> simp only [e3, p_i_within, EVS]
    obtain e4 | e4 := (Bool.eq_false_or_eq_true (decide (w.kind = 4))).symm <;> simp only [e4, EVS]
end Go.Proofs.Ytmfplddmccggkaa

namespace Go.Proofs.Ytmfplddmccggkaa
open Go.RowKit
set_option linter.unusedVariables false
set_option linter.unusedSimpArgs false
theorem p_i_IsValidCover (n : Int) (l : List (List UInt8)) (hl : Fits l) (hc : ∀ c ∈ l, Fits c) : s_i_IsValidCover [pI n, .lst (l.map PV.str)] = some (pB (coverI n l)) := by
  have g : s_g_slices_ContainsFunc_string__i_IsValidCover_1 [.lst (l.map PV.str), .tup [.agg [pI n]]] = some (pB (!allK (fun _ c => cubeP' c n) 0 l)) := by
    show (fun x0 x1 => s_g_slices_ContainsFunc_string__i_IsValidCover_1 [x0, x1]) _ _ = _
    rw [sh_g_slices_ContainsFunc_string__i_IsValidCover_1]
    simp only [p_g_slices_IndexFunc_string__i_IsValidCover_1 l n hl hc, ixf_ge (fun c : List UInt8 => !cubeP' c n) l 0, Bool.not_not, EVS]
  show (fun x0 x1 => s_i_IsValidCover [x0, x1]) _ _ = _
  rw [sh_i_IsValidCover]
  simp only [p_i_within, lt_tup, List.drop_zero, coverI, EVS]
  obtain c1 | c1 := (Bool.eq_false_or_eq_true (inR n 1 8)).symm <;> simp only [c1, EVS]
  obtain c2 | c2 := (Bool.eq_false_or_eq_true (decide ((l.length : Int) ≤ 60))).symm <;> simp only [c2, lt_tup, g, Bool.not_not, EVS]
def sigOkI (l : List (List UInt8 × Int)) (k : Nat) (s : List UInt8 × Int) : Bool := (isNameP s.1 && inR s.2 1 3) && allK (fun _ a => !decide (a.1 = s.1)) 0 (l.take k)
def sigsI (l : List (List UInt8 × Int)) : Bool := allK (sigOkI l) 0 l && inR l.length 1 8
theorem p_i_areSignals (l : List (List UInt8 × Int)) (hl : Fits l) (hs : ∀ s ∈ l, Fits s.1) : s_i_areSignals [.lst (l.map eSig)] = some (pB (sigsI l)) := by
  unfold Fits at hl
  show (fun x0 => s_i_areSignals [x0]) _ = _
  rw [sh_i_areSignals]
  simp only [EVS]
  refine (congrArg (scOnly true) (rangeAll (R := PV) l (sigOkI l) (some (pB false)) (some (pB (inR l.length 1 8))) _ hl (fun again k s hb => ?_) (fun again => ?_))).trans ?_
  · have hk := lt_of_some hb
    have hi : idxV (.lst (l.map eSig)) (.int .i64 (k : Int)) = some (eSig s) := idx_map hb
    have hc : cutL 2 (.lst (l.map eSig)) none (some (.int .i64 (k : Int))) = some (.lst ((l.take k).map eSig)) := cut_map okEl_eSig (by omega)
    have hn := p_i_isName' s.1 (hs s (List.mem_of_getElem? hb))
    have g := p_g_slices_ContainsFunc_Signal__i_areSignals_1 (l.take k) s (by show (l.take k).length ≤ _; simp; omega)
    simp only [eSig] at g
    simp only [lt_d hk, next_w hk hl, hi, eSig, hn, sigOkI, EVS]
    obtain c1 | c1 := (Bool.eq_false_or_eq_true (isNameP s.1)).symm <;> simp only [c1, p_i_within, EVS]
    obtain c2 | c2 := (Bool.eq_false_or_eq_true (inR s.2 1 3)).symm <;> simp only [c2, EVS]
    simp only [hc, List.drop_zero, lt_tup, g, EVS]
    obtain c3 | c3 := (Bool.eq_false_or_eq_true (allK (fun _ (a : List UInt8 × Int) => !decide (a.1 = s.1)) 0 (l.take k))).symm <;> simp only [c3, EVS]
  · simp only [ge_d, p_i_within, EVS]
  · unfold sigsI
    cases allK (sigOkI l) 0 l <;> simp only [EVS]
/-- Each wire is right, in the words of the program. -/
def netWireI (n : PNet) (k : Nat) (w : PWire) : Bool :=
  (wireI n k w && isNameP w.name && allK (fun _ v => !decide (v.name = w.name)) 0 (n.wires.take k)) &&
  (if decide ((k : Int) < (n.signals.length : Int)) = true then wireSeen n k w else (decide (w.kind = 2) || decide (w.kind = 3)) && pinsIn w.ins k)
def netI (n : PNet) : Bool := (sigsI n.signals && inR n.wires.length n.signals.length 24) && allK (netWireI n) 0 n.wires
theorem p_i_IsValidNetlist (n : PNet) (hn : n.Fit) : s_i_IsValidNetlist [eNet n] = some (pB (netI n)) := by
  have g1 := p_i_areSignals n.signals hn.signals hn.names
  have hwl := hn.wires
  unfold Fits at hwl
  show (fun x0 => s_i_IsValidNetlist [x0]) _ = _
  rw [sh_i_IsValidNetlist]
  simp only [eNet, g1, EVS]
  unfold netI
  obtain c1 | c1 := (Bool.eq_false_or_eq_true (sigsI n.signals)).symm <;> simp only [c1, p_i_within, EVS]
  obtain c2 | c2 := (Bool.eq_false_or_eq_true (inR n.wires.length n.signals.length 24)).symm <;> simp only [c2, EVS]
  refine (congrArg (scOnly true) (rangeAll (R := PV) n.wires (netWireI n) (some (pB false)) (some (pB true)) _ hwl (fun again k w hb => ?_) (fun again => ?_))).trans ?_
  · have hk := lt_of_some hb
    have hw := hn.wire w (List.mem_of_getElem? hb)
    have hi : idxV (.lst (n.wires.map eWire)) (.int .i64 (k : Int)) = some (eWire w) := idx_map hb
    have hc : cutL 4 (.lst (n.wires.map eWire)) none (some (.int .i64 (k : Int))) = some (.lst ((n.wires.take k).map eWire)) := cut_map okEl_eWire (by omega)
    have g2 := p_i_isWire p_i_IsValidCover n k w hn hb
    have g3 := p_i_isName' w.name hw.name
    have g4 := p_i_wireOf (n.wires.take k) w.name (by show (n.wires.take k).length ≤ _; simp; omega)
    have g5 := p_i_arePins w.ins k (by omega) hw.ins
    simp only [eNet] at g2
    simp only [lt_d hk, next_w hk hwl, hi, eWire, netWireI, g2, EVS]
    obtain c1 | c1 := (Bool.eq_false_or_eq_true (wireI n k w)).symm <;> simp only [c1, g3, EVS]
    obtain c2 | c2 := (Bool.eq_false_or_eq_true (isNameP w.name)).symm <;> simp only [c2, hc, g4, EVS]
    simp only [ixf_ge (fun v : PWire => decide (v.name = w.name)) (n.wires.take k) 0]
    obtain c3 | c3 := (Bool.eq_false_or_eq_true (allK (fun _ (v : PWire) => !decide (v.name = w.name)) 0 (n.wires.take k))).symm <;> simp only [c3, joinK_eq, EVS]
    obtain c4 | c4 := (Bool.eq_false_or_eq_true (decide ((k : Int) < (n.signals.length : Int)))).symm <;> simp only [c4, EVS]
    · obtain c5 | c5 := (Bool.eq_false_or_eq_true (decide (w.kind = 2))).symm <;> simp only [c5, g5, EVS]
      · obtain c6 | c6 := (Bool.eq_false_or_eq_true (decide (w.kind = 3))).symm <;> simp only [c6, g5, EVS]
        obtain c7 | c7 := (Bool.eq_false_or_eq_true (pinsIn w.ins k)).symm <;> simp only [c7, next_w hk hwl, EVS]
      · obtain c7 | c7 := (Bool.eq_false_or_eq_true (pinsIn w.ins k)).symm <;> simp only [c7, next_w hk hwl, EVS]
    · have hks : k < n.signals.length := by have := of_decide_eq_true c4; omega
      have hs : n.signals[k]? = some n.signals[k] := List.getElem?_eq_getElem hks
      have hi2 : idxV (.lst (n.signals.map eSig)) (.int .i64 (k : Int)) = some (eSig n.signals[k]) := idx_map hs
      simp only [wireSeen, hs, hi2, eSig, List.drop_zero, List.drop_succ_cons, EVS]
      obtain c5 | c5 := (Bool.eq_false_or_eq_true (decide (w.name = n.signals[k].1))).symm <;> simp only [c5, hi2, eSig, List.drop_zero, List.drop_succ_cons, EVS]
      obtain c6 | c6 := (Bool.eq_false_or_eq_true (decide (w.kind = 1) == decide (n.signals[k].2 = 1))).symm <;> simp only [bne, c6, next_w hk hwl, EVS]
  · simp only [ge_d, EVS]
  · cases allK (netWireI n) 0 n.wires <;> simp only [EVS]
end Go.Proofs.Ytmfplddmccggkaa

namespace Go.Proofs.Ytmfplddmccggkaa
open Go.RowKit
set_option linter.unusedVariables false
set_option linter.unusedSimpArgs false
theorem allK_all {α : Type} (q : α → Bool) : ∀ (l : List α) (k : Nat), allK (fun _ x => q x) k l = l.all q
  | [], _ => rfl
  | x :: r, k => by unfold allK; rw [allK_all q r (k + 1), List.all_cons]
theorem allK_congr {α : Type} (f g : Nat → α → Bool) (h : ∀ k x, f k x = g k x) : ∀ (l : List α) (k : Nat), allK f k l = allK g k l
  | [], _ => rfl
  | x :: r, k => by unfold allK; rw [h k x, allK_congr f g h r (k + 1)]
theorem sigs_eq (l : List (List UInt8 × Int)) : sigsP l = sigsI l := by
  unfold sigsP sigsI
  rw [allK_congr (sigOk l) (sigOkI l) (fun k x => ?_) l 0]
  unfold sigOk sigOkI
  rw [allK_congr (fun _ (y : List UInt8 × Int) => !decide (x.1 = y.1)) (fun _ (y : List UInt8 × Int) => !decide (y.1 = x.1)) (fun _ y => by simp [eq_comm]) _ 0]
theorem cover_eq (n : Int) (l : List (List UInt8)) : goodP n l = coverI n l := by
  unfold goodP coverI coverGo
  rw [Bool.and_comm, Bool.eq_iff_iff]
  simp only [Bool.and_eq_true]
  refine and_congr_right fun h => ?_
  rw [allK_congr (fun _ c => cubeP c && decide ((c.length : Int) = n)) (fun _ c => cubeP' c n) (fun _ c => ?_) l 0]
  unfold cubeP cubeP' inR
  rw [Bool.eq_iff_iff]
  simp only [Bool.and_eq_true, decide_eq_true_eq]
  constructor
  · rintro ⟨⟨h1, h2, h3⟩, h4⟩
    exact ⟨h1, h4, by omega, by omega⟩
  · rintro ⟨h1, h2, h3, h4⟩
    exact ⟨⟨h1, by omega, by omega⟩, h2⟩
theorem pins_seen (n : PNet) (k : Nat) (l : List (Int × Bool)) (h : k < n.signals.length) : allK (fun _ p => pinOk n k p) 0 l = pinsIn l n.wires.length := by
  unfold pinsIn
  refine allK_congr _ _ (fun _ p => ?_) l 0
  unfold pinOk
  have : decide ((n.signals.length : Int) ≤ k) = false := by simp; omega
  rw [this]
  simp
theorem pins_late (n : PNet) (k : Nat) (l : List (Int × Bool)) (h : ¬ k < n.signals.length) : allK (fun _ p => pinOk n k p) 0 l = (pinsIn l n.wires.length && pinsIn l k) := by
  unfold pinsIn
  rw [allK_all, allK_all, allK_all, Bool.eq_iff_iff]
  have : decide ((n.signals.length : Int) ≤ k) = true := by simp; omega
  simp only [Bool.and_eq_true, List.all_eq_true, pinOk, inR, this, Bool.true_and, Bool.not_eq_true', decide_eq_true_eq, decide_eq_false_iff_not]
  constructor
  · intro h
    exact ⟨fun p hp => (h p hp).1, fun p hp => ⟨(h p hp).1.1, by have := (h p hp).2; omega⟩⟩
  · rintro ⟨h1, h2⟩ p hp
    exact ⟨h1 p hp, by have := (h2 p hp).2; omega⟩
theorem form_eq (n : PNet) (k : Nat) (w : PWire) : (inR w.kind 1 5 && ((if decide (w.kind = 5) = true then coverI n.signals.length w.cover else !decide ((0 : Int) < w.cover.length)) && pinForm k w.kind w.ins)) = (!(!decide (w.kind = 5) && decide ((0 : Int) < w.cover.length)) && wireForm n k w) := by
  unfold pinForm wireForm
  by_cases h1 : w.kind = 1
  · simp [h1, inR]
  by_cases h2 : w.kind = 2
  · simp [h2, inR]
  by_cases h3 : w.kind = 3
  · simp [h3, inR]
  by_cases h4 : w.kind = 4
  · simp [h4, inR]
  by_cases h5 : w.kind = 5
  · obtain ⟨nm, kd, ins, cov⟩ := w
    simp only at h5
    rcases ins with _ | ⟨p, _ | ⟨q, r⟩⟩ <;> simp [h5, inR]
  · have : inR w.kind 1 5 = false := by
      unfold inR
      simp only [Bool.and_eq_false_iff, decide_eq_false_iff_not]
      omega
    simp [this, h1, h2, h3, h4, h5]
theorem wire_eq (n : PNet) (k : Nat) (w : PWire) : netWireOk n k w = netWireI n k w := by
  unfold netWireOk netWireI wireP wireI pinsP
  have hf := form_eq n k w
  rw [cover_eq]
  by_cases hk : k < n.signals.length
  · have hd : decide ((k : Int) < (n.signals.length : Int)) = true := by simpa using hk
    rw [pins_seen n k w.ins hk]
    simp only [hd, if_true, Bool.true_or, Bool.not_true, Bool.false_or, Bool.not_false, Bool.false_eq_true, if_false, Bool.true_and]
    revert hf
    generalize inR w.kind 1 5 = a1
    generalize (if decide (w.kind = 5) = true then coverI (↑n.signals.length) w.cover else !decide ((0 : Int) < ↑w.cover.length)) = a2
    generalize pinForm k w.kind w.ins = a3
    generalize (!decide (w.kind = 5) && decide ((0 : Int) < w.cover.length)) = a4
    generalize wireForm n k w = a5
    generalize pinsIn w.ins n.wires.length = a6
    generalize wireSeen n k w = a7
    generalize isNameP w.name = a8
    generalize allK (fun _ (v : PWire) => !decide (v.name = w.name)) 0 (n.wires.take k) = a9
    cases a1 <;> cases a2 <;> cases a3 <;> cases a4 <;> cases a5 <;> cases a6 <;> cases a7 <;> cases a8 <;> cases a9 <;> decide
  · have hd : decide ((k : Int) < (n.signals.length : Int)) = false := by simpa using hk
    rw [pins_late n k w.ins hk]
    simp only [hd, if_true, Bool.true_or, Bool.not_true, Bool.false_or, Bool.not_false, Bool.false_eq_true, if_false, Bool.true_and]
    revert hf
    generalize inR w.kind 1 5 = a1
    generalize (if decide (w.kind = 5) = true then coverI (↑n.signals.length) w.cover else !decide ((0 : Int) < ↑w.cover.length)) = a2
    generalize pinForm k w.kind w.ins = a3
    generalize (!decide (w.kind = 5) && decide ((0 : Int) < w.cover.length)) = a4
    generalize wireForm n k w = a5
    generalize pinsIn w.ins n.wires.length = a6
    generalize isNameP w.name = a8
    generalize pinsIn w.ins k = a7
    generalize decide (w.kind = 2) = b2
    generalize decide (w.kind = 3) = b3
    generalize allK (fun _ (v : PWire) => !decide (v.name = w.name)) 0 (n.wires.take k) = a9
    cases a1 <;> cases a2 <;> cases a3 <;> cases a4 <;> cases a5 <;> cases a6 <;> cases a7 <;> cases a8 <;> cases a9 <;> cases b2 <;> cases b3 <;> decide
theorem net_eq (n : PNet) : netP n = netI n := by
  unfold netP netI
  rw [sigs_eq, allK_congr (netWireOk n) (netWireI n) (fun k x => wire_eq n k x) n.wires 0]
  congr 2
  unfold inR
  rw [Bool.eq_iff_iff]
  simp
end Go.Proofs.Ytmfplddmccggkaa

namespace Go.Proofs.Ytmfplddmccggkaa
open Go.RowKit
set_option linter.unusedVariables false
set_option linter.unusedSimpArgs false
def bitB (b : UInt8) : Bool := decide ((b.toNat : Int) = 48) || decide ((b.toNat : Int) = 49)
def bitsP (s : List UInt8) (n : Int) : Bool := allK (fun _ b => bitB b) 0 s && decide ((s.length : Int) = n)
theorem p_r_l5Code (s : List UInt8) (n : Int) (hs : Fits s) : s_r_l5Code [.str s, pI n] = some (pB (bitsP s n)) := by
  unfold Fits at hs
  show (fun x0 x1 => s_r_l5Code [x0, x1]) _ _ = _
  rw [sh_r_l5Code]
  refine (congrArg (scOnly true) (rangeAll (R := PV) s (fun _ b => bitB b) (some (pB false)) (some (pB (decide ((s.length : Int) = n)))) _ hs (fun again k b hb => ?_) (fun again => ?_))).trans ?_
  · have hk := lt_of_some hb
    simp only [bitB, lt_d hk, next_w hk hs, byteV_at hb, EVS]
    obtain c1 | c1 := (Bool.eq_false_or_eq_true (decide ((b.toNat : Int) = 48))).symm <;> simp only [c1, byteV_at hb, EVS]
    obtain c2 | c2 := (Bool.eq_false_or_eq_true (decide ((b.toNat : Int) = 49))).symm <;> simp only [c2, byteV_at hb, EVS]
  · simp only [ge_d, EVS]
  · unfold bitsP
    cases allK (fun _ b => bitB b) 0 s <;> simp only [EVS]
theorem p_i_isBits (s : List UInt8) (n : Int) (hs : Fits s) : s_i_isBits [.str s, pI n] = some (pB (bitsP s n)) := by
  unfold Fits at hs
  show (fun x0 x1 => s_i_isBits [x0, x1]) _ _ = _
  rw [sh_i_isBits]
  refine (congrArg (scOnly true) (rangeAll (R := PV) s (fun _ b => bitB b) (some (pB false)) (some (pB (decide ((s.length : Int) = n)))) _ hs (fun again k b hb => ?_) (fun again => ?_))).trans ?_
  · have hk := lt_of_some hb
    simp only [bitB, lt_d hk, next_w hk hs, byteV_at hb, EVS]
    obtain c1 | c1 := (Bool.eq_false_or_eq_true (decide ((b.toNat : Int) = 48))).symm <;> simp only [c1, byteV_at hb, EVS]
    obtain c2 | c2 := (Bool.eq_false_or_eq_true (decide ((b.toNat : Int) = 49))).symm <;> simp only [c2, byteV_at hb, EVS]
  · simp only [ge_d, EVS]
  · unfold bitsP
    cases allK (fun _ b => bitB b) 0 s <;> simp only [EVS]
def valuesP (n : PNet) (s : List UInt8) : Bool := netP n && bitsP s n.wires.length
/-- What a pin reads. -/
def pinV (p : Int × Bool) (s : List UInt8) : Bool := match s[p.1.toNat]? with | some b => decide ((b.toNat : Int) = 49) != p.2 | none => false
theorem pin_at {p : Int × Bool} {s : List UInt8} (h0 : 0 ≤ p.1) (h1 : p.1 < s.length) : ∃ b : UInt8, s[p.1.toNat]? = some b ∧ byteV (.str s) (pI p.1) = some (pU b) := by
  have h2 : p.1.toNat < s.length := by omega
  refine ⟨s[p.1.toNat], List.getElem?_eq_getElem h2, ?_⟩
  have := byteV_at (k := .i64) (List.getElem?_eq_getElem h2)
  rw [Int.toNat_of_nonneg h0] at this
  exact this
/-- A cube holds a code. -/
def hasB (code : List UInt8) (k : Nat) (b : UInt8) : Bool := decide ((b.toNat : Int) = 45) || (match code[k]? with | some c => decide ((b.toNat : Int) = c.toNat) | none => false)
def hasP (cube code : List UInt8) : Bool := allK (hasB code) 0 cube
end Go.Proofs.Ytmfplddmccggkaa

namespace Go.Proofs.Ytmfplddmccggkaa
open Go.RowKit
set_option linter.unusedVariables false
set_option linter.unusedSimpArgs false
def inP (l : List (List UInt8)) (code : List UInt8) : Bool := !allK (fun _ c => !hasP c code) 0 l
/-- The pins read what is there. -/
def PinsAt (l : List (Int × Bool)) (s : List UInt8) : Prop := ∀ p ∈ l, 0 ≤ p.1 ∧ p.1 < s.length
end Go.Proofs.Ytmfplddmccggkaa

namespace Go.Proofs.Ytmfplddmccggkaa
open Go.RowKit
set_option linter.unusedVariables false
set_option linter.unusedSimpArgs false
def oneV (s : List UInt8) (k : Nat) : Bool := match s[k]? with | some b => decide ((b.toNat : Int) = 49) | none => false
def restP (n : PNet) (s : List UInt8) (k : Nat) (w : PWire) : Bool :=
  if decide (w.kind = 5) = true then inP w.cover (s.take n.signals.length)
  else if decide (w.kind = 4) = true then (match w.ins with | [p, q] => if (pinV p s != pinV q s) = true then pinV p s else oneV s k | _ => oneV s k)
  else oneV s k
def nextP (n : PNet) (s : List UInt8) (k : Nat) (w : PWire) : Bool :=
  if decide (w.kind = 2) = true then allK (fun _ p => pinV p s) 0 w.ins
  else if decide (w.kind = 3) = true then !allK (fun _ p => !pinV p s) 0 w.ins
  else restP n s k w
theorem cutS_take0 (s : List UInt8) (k : Nat) (h : k ≤ s.length) : cutS (.str s) none (some (pI (k : Int))) = some (.str (s.take k)) := by
  have : (0 : Int) ≤ (k : Int) ∧ (k : Int) ≤ (s.length : Int) := by omega
  simp [cutS, bndV, bnd0, this]
/-- What a good wire at a place offers. -/
structure At (n : PNet) (s : List UInt8) (k : Nat) (w : PWire) : Prop where
  fit : n.Fit
  here : n.wires[k]? = some w
  wire : w.Fit
  fits : Fits s
  lt : k < s.length
  sig : n.signals.length ≤ s.length
  pins : PinsAt w.ins s
  cubes : w.kind = 5 → ∀ c ∈ w.cover, c.length ≤ n.signals.length
  two : w.kind = 4 → w.ins.length = 2
theorem loop3 {l : List (Int × Bool)} (s : List UInt8) (E : Bool → Bool → Bool) (f : (List PV → Option PV) → List PV → Option PV) (hl : l.length ≤ 9223372036854775807)
    (h1 : ∀ again (a b : Bool) (k : Nat) x, l[k]? = some x → f again [pB a, pB b, pI (k : Int)] = again [pB (a && pinV x s), pB (b || pinV x s), pI ((k + 1 : Nat) : Int)])
    (h2 : ∀ again (a b : Bool) (k : Nat), ¬ k < l.length → f again [pB a, pB b, pI (k : Int)] = some (pB (E a b))) :
    loopR f 18446744073709551616 [pB true, pB false, pI (0 : Int)] = some (pB (E (allK (fun _ p => pinV p s) 0 l) (!allK (fun _ p => !pinV p s) 0 l))) := by
  have key := loopR_go (R := PV) (fun t : Bool × Bool × Nat => [pB t.1, pB t.2.1, pI (t.2.2 : Int)]) (fun t => l.length + 1 - t.2.2) (fun t => some (pB (E (t.1 && (l.drop t.2.2).all fun p => pinV p s) (t.2.1 || !(l.drop t.2.2).all fun p => !pinV p s)))) f (fun again t ih => ?_) 18446744073709551616 (true, false, 0) (by simp only; omega)
  · simp only [Bool.true_and, Bool.false_or, List.drop_zero] at key
    rw [allK_all, allK_all]
    exact key
  · obtain ⟨a, b, k⟩ := t
    dsimp only at ih ⊢
    by_cases hk : k < l.length
    · have hx : l[k]? = some l[k] := List.getElem?_eq_getElem hk
      rw [h1 again a b k _ hx, ih (_, _, k + 1) (by simp only; omega), List.drop_eq_getElem_cons hk]
      simp only [List.all_cons, Bool.and_assoc]
      cases pinV l[k] s <;> simp
    · rw [h2 again a b k hk, List.drop_eq_nil_of_le (by omega)]
      simp
end Go.Proofs.Ytmfplddmccggkaa

namespace Go.Proofs.Ytmfplddmccggkaa
open Go.RowKit
set_option linter.unusedVariables false
set_option linter.unusedSimpArgs false
end Go.Proofs.Ytmfplddmccggkaa

namespace Go.Proofs.Ytmfplddmccggkaa
open Go.RowKit
set_option linter.unusedVariables false
set_option linter.unusedSimpArgs false
theorem allK_at {α : Type} (q : Nat → α → Bool) : ∀ (l : List α) (j : Nat), allK q j l = true → ∀ (i : Nat) (x : α), l[i]? = some x → q (j + i) x = true
  | [], j, _, i, x, hx => by simp at hx
  | y :: r, j, h, i, x, hx => by
    unfold allK at h
    rw [Bool.and_eq_true] at h
    cases i with
    | zero => simp at hx; subst hx; simpa using h.1
    | succ i =>
      have := allK_at q r (j + 1) h.2 i x (by simpa using hx)
      rw [show j + (i + 1) = j + 1 + i by omega]
      exact this
theorem allK_mem {α : Type} (q : α → Bool) {l : List α} (h : allK (fun _ x => q x) 0 l = true) {x : α} (hx : x ∈ l) : q x = true := by
  rw [allK_all] at h
  exact List.all_eq_true.1 h x hx
def bitU (u : Bool) : UInt8 := if u = true then 49 else 48
theorem bitB_bitU (u : Bool) : bitB (bitU u) = true := by cases u <;> decide
theorem p_r_l5Bit (u : Bool) : s_r_l5Bit [pB u] = some (.str [bitU u]) := by
  show (fun x0 => s_r_l5Bit [x0]) _ = _
  rw [sh_r_l5Bit]
  cases u <;> simp only [EVS] <;> rfl
theorem set_cut {α : Type} (c : List α) (i : Nat) (b : α) (h : i < c.length) : c.take i ++ [b] ++ c.drop (i + 1) = c.set i b := by
  rw [List.set_eq_take_append_cons_drop, if_pos h, List.append_assoc]
  rfl
theorem p_r_l5Set (c : List UInt8) (i : Nat) (b : UInt8) (h : i < c.length) (hc : Fits c) : s_r_l5Set [.str c, pI i, .str [b]] = some (.str (c.set i b)) := by
  unfold Fits at hc
  have h1 : cutS (.str c) none (some (.int .i64 (i : Int))) = some (.str (c.take i)) := cutS_take (by omega)
  have h2 : cutS (.str c) (some (.int .i64 ((i + 1 : Nat) : Int))) none = some (.str (c.drop (i + 1))) := cutS_drop (by omega)
  show (fun x0 x1 x2 => s_r_l5Set [x0, x1, x2]) _ _ _ = _
  rw [sh_r_l5Set]
  have h3 : binV .add TD.str (.str (c.take i)) (.str [b]) = some (.str (c.take i ++ [b])) := bs_add (by simp; omega)
  have h4 : binV .add TD.str (.str (c.take i ++ [b])) (.str (c.drop (i + 1))) = some (.str (c.take i ++ [b] ++ c.drop (i + 1))) := bs_add (by simp; omega)
  simp only [h1, next_w h hc, h2, h3, h4, set_cut c i b h, EVS]
theorem bitsP_iff {s : List UInt8} {n : Nat} : bitsP s n = true ↔ (∀ b ∈ s, bitB b = true) ∧ s.length = n := by
  unfold bitsP
  rw [allK_all, Bool.and_eq_true, List.all_eq_true, decide_eq_true_eq]
  constructor
  · rintro ⟨h1, h2⟩; exact ⟨h1, by omega⟩
  · rintro ⟨h1, h2⟩; exact ⟨h1, by omega⟩
theorem bits_set {v : List UInt8} {N k : Nat} (h : bitsP v N = true) (u : Bool) : bitsP (v.set k (bitU u)) N = true := by
  rw [bitsP_iff] at h ⊢
  refine ⟨fun b hb => ?_, by simpa using h.2⟩
  rcases List.mem_or_eq_of_mem_set hb with hb | rfl
  · exact h.1 b hb
  · exact bitB_bitU u
theorem bits_pad {c : List UInt8} {m N : Nat} (h : bitsP c m = true) (hm : m ≤ N) : bitsP (c ++ List.replicate (N - m) 48) N = true := by
  rw [bitsP_iff] at h ⊢
  refine ⟨fun b hb => ?_, by simp [h.2]; omega⟩
  rcases List.mem_append.1 hb with hb | hb
  · exact h.1 b hb
  · obtain ⟨_, rfl⟩ := List.mem_replicate.1 hb; decide
theorem bitB_iff (b : UInt8) : bitB b = true ↔ b = 48 ∨ b = 49 := by
  unfold bitB
  rw [Bool.or_eq_true, decide_eq_true_eq, decide_eq_true_eq]
  have h48 : (48 : UInt8).toNat = 48 := rfl
  have h49 : (49 : UInt8).toNat = 49 := rfl
  constructor
  · rintro (h | h)
    · exact .inl (UInt8.toNat_inj.1 (by omega))
    · exact .inr (UInt8.toNat_inj.1 (by omega))
  · rintro (rfl | rfl)
    · exact .inl rfl
    · exact .inr rfl
end Go.Proofs.Ytmfplddmccggkaa

namespace Go.Proofs.Ytmfplddmccggkaa
open Go.RowKit
set_option linter.unusedVariables false
set_option linter.unusedSimpArgs false
/-- In a good netlist with good values each wire is at its place. -/
theorem at_of (n : PNet) (s : List UInt8) (k : Nat) (hn : n.Fit) (hs : Fits s) (hv : valuesP n s = true) (hk : k < n.wires.length) : At n s k n.wires[k] := by
  unfold valuesP netP bitsP at hv
  simp only [Bool.and_eq_true, decide_eq_true_eq, Bool.not_eq_true', decide_eq_false_iff_not] at hv
  obtain ⟨⟨⟨h1, h2, h3⟩, h4⟩, h5, h6⟩ := hv
  have hx : n.wires[k]? = some n.wires[k] := List.getElem?_eq_getElem hk
  have hw := allK_at _ _ _ h4 k _ hx
  rw [Nat.zero_add] at hw
  unfold netWireOk wireP pinsP at hw
  simp only [Bool.and_eq_true] at hw
  obtain ⟨⟨⟨⟨hkd, _⟩, hcov⟩, _, hpins, hform⟩, _⟩ := hw
  refine ⟨hn, hx, hn.wire _ (List.getElem_mem hk), hs, by omega, by omega, fun p hp => ?_, fun hk5 c hc => ?_, fun hk4 => ?_⟩
  · have := allK_mem (fun p => pinOk n k p) hpins hp
    unfold pinOk inR at this
    simp only [Bool.and_eq_true, decide_eq_true_eq] at this
    omega
  · rw [if_pos (by simp [hk5])] at hcov
    unfold goodP coverGo at hcov
    simp only [Bool.and_eq_true] at hcov
    have := allK_mem (fun c => cubeP c && decide ((c.length : Int) = n.signals.length)) hcov.1 hc
    simp only [Bool.and_eq_true, decide_eq_true_eq] at this
    omega
  · unfold pinForm at hform
    rw [if_neg (by simp [hk4]), if_pos (by simp [hk4])] at hform
    simp only [decide_eq_true_eq] at hform
    omega
/-- The answer. -/
def nextAns (n : PNet) (s : List UInt8) (k : Int) : Bool × Bool :=
  if valuesP n s = true then (match (if 0 ≤ k then n.wires[k.toNat]? else none) with | some w => (nextP n s k.toNat w, true) | none => (false, false)) else (false, false)
end Go.Proofs.Ytmfplddmccggkaa

namespace Go.Proofs.Ytmfplddmccggkaa
open Go.RowKit
set_option linter.unusedVariables false
set_option linter.unusedSimpArgs false
/-- The numbers from a to below b. -/
def fromTo (a b : Nat) : List Int := (List.range (b - a)).map fun i => ((a + i : Nat) : Int)
theorem fromTo_len (a b : Nat) : (fromTo a b).length = b - a := by simp [fromTo]
theorem fromTo_snoc {a b : Nat} (h : a ≤ b) : fromTo a (b + 1) = fromTo a b ++ [(b : Int)] := by
  unfold fromTo
  rw [show b + 1 - a = (b - a) + 1 by omega, List.range_succ, List.map_append]
  simp only [List.map_cons, List.map_nil]
  rw [show a + (b - a) = b by omega]
/-- A loop over numbers from a to below b, with what was gathered. -/
theorem gatherLoop {R : Type} (a b : Nat) (st : Nat → List PV) (e : Option R) (f : (List PV → Option R) → List PV → Option R) (hm : b ≤ 9223372036854775807)
    (h1 : ∀ again k, a ≤ k → k < b → f again (st k) = again (st (k + 1)))
    (h2 : ∀ again, f again (st b) = e) (hab : a ≤ b) (J : List PV) (hJ : st a = J) : loopR f 18446744073709551616 J = e := by
  subst hJ
  have key := loopR_go (R := R) (fun k : {k : Nat // a ≤ k ∧ k ≤ b} => st k.1) (fun k => b + 1 - k.1) (fun _ => e) f (fun again k ih => ?_) 18446744073709551616 ⟨a, Nat.le_refl _, hab⟩ (by simp only; omega)
  · exact key
  · obtain ⟨k, hk, hk2⟩ := k
    dsimp only at ih ⊢
    by_cases c : k < b
    · rw [h1 again k hk c]
      exact ih ⟨k + 1, by omega, c⟩ (by simp only; omega)
    · obtain rfl : k = b := by omega
      exact h2 again
def hiddenP (n : PNet) : List Int := if netP n = true then fromTo n.signals.length n.wires.length else []
end Go.Proofs.Ytmfplddmccggkaa

namespace Go.Proofs.Ytmfplddmccggkaa
open Go.RowKit
set_option linter.unusedVariables false
set_option linter.unusedSimpArgs false
/-- The numbers below k that are good. -/
def pickTo (good : Nat → Bool) (k : Nat) : List Int := ((List.range k).filter good).map fun (i : Nat) => Int.ofNat i
theorem pickTo_len (good : Nat → Bool) (k : Nat) : (pickTo good k).length ≤ k := by
  unfold pickTo
  rw [List.length_map]
  exact Nat.le_trans (List.length_filter_le _ _) (by simp)
theorem pickTo_yes {good : Nat → Bool} {k : Nat} (h : good k = true) : pickTo good (k + 1) = pickTo good k ++ [(k : Int)] := by
  unfold pickTo
  rw [List.range_succ, List.filter_append]
  simp [h]
theorem pickTo_no {good : Nat → Bool} {k : Nat} (h : good k = false) : pickTo good (k + 1) = pickTo good k := by
  unfold pickTo
  rw [List.range_succ, List.filter_append]
  simp [h]
def excitedAt (n : PNet) (s : List UInt8) (k : Nat) : Bool := match n.wires[k]? with | some w => nextP n s k w != oneV s k | none => false
def excitedP (n : PNet) (s : List UInt8) : List Int := if valuesP n s = true then pickTo (excitedAt n s) n.wires.length else []
theorem values_len {n : PNet} {s : List UInt8} (hv : valuesP n s = true) : s.length = n.wires.length := by
  unfold valuesP bitsP at hv
  simp only [Bool.and_eq_true, decide_eq_true_eq] at hv
  omega
end Go.Proofs.Ytmfplddmccggkaa

namespace Go.Proofs.Ytmfplddmccggkaa
open Go.RowKit
set_option linter.unusedVariables false
set_option linter.unusedSimpArgs false
/-! PRODUCTS: validity; the states at rest. -/
def ePs (b : PSt) : PV := .agg [pI b.state, .str b.values]
def eFl (f : Flip) : PV := .agg [pI f.from_, pI f.wire, pI f.to]
def ePr (p : ProdG) : PV := .agg [.lst (p.states.map ePs), .lst (p.flips.map eFl), .lst (p.extra.map eFl)]
structure PrFit (p : ProdG) : Prop where
  states : Fits p.states
  each : ∀ b ∈ p.states, Fits b.values
  flips : Fits p.flips
def flipP (last : Int) (f : Flip) : Bool := (inR f.from_ 0 last && inR f.to 0 last) && inR f.wire 0 23
def prodP (p : ProdG) : Bool := (inR p.states.length 1 600 && decide ((p.flips.length : Int) ≤ 6000)) && p.flips.all (flipP ((p.states.length : Int) - 1))
theorem p_r_l20Good (p : ProdG) (hp : PrFit p) : s_r_l20Good [ePr p] = some (pB (prodP p)) := by
  have hl := hp.flips
  have hs := hp.states
  unfold Fits at hl hs
  have hw : IntKind.i64.wrap ((p.states.length : Int) - 1) = (p.states.length : Int) - 1 := wrap_of (by omega) (by omega)
  show (fun x0 => s_r_l20Good [x0]) _ = _
  rw [sh_r_l20Good]
  simp only [ePr, EVS]
  refine (congrArg (fun m : Option PV => m.bind fun r => if r.sc = true then some r else none) (rangeAll (R := PV) p.flips (fun _ f => flipP ((p.states.length : Int) - 1) f) (some (pB false)) (some (pB (inR p.states.length 1 600 && decide ((p.flips.length : Int) ≤ 6000)))) _ hl (fun again k f hx => ?_) (fun again => ?_))).trans ?_
  · have hk := lt_of_some hx
    have hi : idxV (.lst (p.flips.map eFl)) (.int .i64 (k : Int)) = some (eFl f) := idx_map hx
    have g1 : s_r_l1In [pI f.from_, pI 0, pI ((p.states.length : Int) - 1)] = some (pB (inR f.from_ 0 ((p.states.length : Int) - 1))) := p_r_l1In _ _ _
    have g2 : s_r_l1In [pI f.to, pI 0, pI ((p.states.length : Int) - 1)] = some (pB (inR f.to 0 ((p.states.length : Int) - 1))) := p_r_l1In _ _ _
    have g3 : s_r_l1In [pI f.wire, pI 0, pI 23] = some (pB (inR f.wire 0 23)) := p_r_l1In _ _ _
    unfold flipP
    simp only [lt_d hk, next_w hk hl, hi, eFl, hw, g1, EVS]
    cases c1 : inR f.from_ 0 ((p.states.length : Int) - 1) <;> cases c2 : inR f.to 0 ((p.states.length : Int) - 1) <;> cases c3 : inR f.wire 0 23 <;> simp only [c1, c2, c3, hw, g1, g2, g3, EVS]
  · have g : s_r_l1In [pI (p.states.length : Int), pI 1, pI 600] = some (pB (inR p.states.length 1 600)) := p_r_l1In _ _ _
    simp only [ge_d, g, EVS]
    cases inR p.states.length 1 600 <;> simp only [EVS]
  · rw [allK_all]
    unfold prodP
    cases p.flips.all (flipP ((p.states.length : Int) - 1)) <;> simp only [EVS] <;> rfl
theorem p_i_isProduct_1 (f : Flip) (last : Int) : s_i_isProduct_1 [eFl f, .agg [pI last]] = some (pB (!flipP last f)) := by
  have g1 := p_i_within f.from_ 0 last
  have g2 := p_i_within f.to 0 last
  have g3 := p_i_within f.wire 0 23
  show (fun x0 x1 => s_i_isProduct_1 [x0, x1]) _ _ = _
  rw [sh_i_isProduct_1]
  unfold flipP
  simp only [eFl, g1, EVS]
  cases c1 : inR f.from_ 0 last <;> cases c2 : inR f.to 0 last <;> cases c3 : inR f.wire 0 23 <;> simp only [c1, c2, c3, g1, g2, g3, EVS]
theorem p_g_slices_IndexFunc_WireFlip__i_isProduct_1 (l : List Flip) (last : Int) (hl : Fits l) : s_g_slices_IndexFunc_WireFlip__i_isProduct_1 [.lst (l.map eFl), .tup [.agg [pI last]]] = some (pI (ixf (fun f => !flipP last f) 0 l)) := by
  show (fun x0 x1 => s_g_slices_IndexFunc_WireFlip__i_isProduct_1 [x0, x1]) _ _ = _
  rw [sh_g_slices_IndexFunc_WireFlip__i_isProduct_1]
  unfold Fits at hl
  simp only [EVS]
  refine (congrArg (fun m : Option PV => m.bind fun r => if r.sc = true then some r else none) (rangeIx l (fun f => !flipP last f) _ hl (fun again i a hb => ?_) (fun again => ?_))).trans ?_
  · have hk := lt_of_some hb
    have hi : idxV (.lst (l.map eFl)) (.int .i64 (i : Int)) = some (eFl a) := idx_map hb
    have g := p_i_isProduct_1 a last
    simp only [eFl] at g
    simp only [lt_d hk, next_w hk hl, hi, eFl, caps1, List.cons_append, List.nil_append, g, EVS]
  · simp only [ge_d, EVS]
    rfl
  · simp only [EVS]
theorem p_g_slices_ContainsFunc_WireFlip__i_isProduct_1 (l : List Flip) (last : Int) (hl : Fits l) : s_g_slices_ContainsFunc_WireFlip__i_isProduct_1 [.lst (l.map eFl), .tup [.agg [pI last]]] = some (pB (!l.all (flipP last))) := by
  show (fun x0 x1 => s_g_slices_ContainsFunc_WireFlip__i_isProduct_1 [x0, x1]) _ _ = _
  rw [sh_g_slices_ContainsFunc_WireFlip__i_isProduct_1]
  simp only [p_g_slices_IndexFunc_WireFlip__i_isProduct_1 l last hl, ixf_ge (fun f => !flipP last f) l 0, Bool.not_not, allK_all, EVS]
theorem spl_1 (a c : PV) : splice [a] 0 [c] = [c] := rfl
theorem p_i_isProduct (p : ProdG) (hp : PrFit p) : s_i_isProduct [ePr p] = some (pB (prodP p)) := by
  have hs := hp.states
  unfold Fits at hs
  have hw : IntKind.i64.wrap ((p.states.length : Int) - 1) = (p.states.length : Int) - 1 := wrap_of (by omega) (by omega)
  have g1 := p_i_within (p.states.length : Int) 1 600
  have g2 := p_g_slices_ContainsFunc_WireFlip__i_isProduct_1 p.flips ((p.states.length : Int) - 1) hp.flips
  show (fun x0 => s_i_isProduct [x0]) _ = _
  rw [sh_i_isProduct]
  unfold prodP
  simp only [ePr, hw, spl_1, g1, EVS]
  cases c1 : inR p.states.length 1 600 <;> cases c2 : decide ((p.flips.length : Int) ≤ 6000) <;> simp only [c1, c2, hw, spl_1, g1, g2, List.drop_zero, Bool.not_not, EVS]
end Go.Proofs.Ytmfplddmccggkaa

namespace Go.Proofs.Ytmfplddmccggkaa
open Go.RowKit
set_option linter.unusedVariables false
set_option linter.unusedSimpArgs false
theorem convB_s (s : List UInt8) (h : s.length ≤ 9223372036854775807) : convB (.str s) = some (.lst (s.map pU)) := by
  unfold convB
  simp only
  rw [if_pos h]
theorem se_int (k k' : IntKind) (m n : Int) : storeEl 0 1 [.int k m] (.int k m) (.int k' n) = some (.int k' n) := rfl
theorem set_map {α : Type} (f : α → PV) (l : List α) (i : Nat) (x : α) : (l.map f).set i (f x) = (l.set i x).map f := by rw [List.map_set]
end Go.Proofs.Ytmfplddmccggkaa

namespace Go.Proofs.Ytmfplddmccggkaa
open Go.RowKit
set_option linter.unusedVariables false
set_option linter.unusedSimpArgs false
/-! WAYS of a product: least distances, the ways back along them. -/
abbrev T3 := Nat × Nat × Nat
def eT3 (v : T3) : PV := .agg [pI (v.1 : Int), pI (v.2.1 : Int), pI (v.2.2 : Int)]
def esT (l : List T3) : List (Nat × Nat) := l.map fun v => (v.1, v.2.2)
def farStep (d : Int) (far : List Int) (v : T3) : List Int := if far.getD v.1 (-1) = d ∧ far.getD v.2.2 (-1) < 0 then far.set v.2.2 (d + 1) else far
theorem far_go {R : Type} (d : Int) (e : List Int → Option R) : ∀ (l : List T3) (k : Nat) (far : List Int), foldGo (fun (far : List Int) (_ : Nat) (v : T3) => .inl (farStep d far v)) e k far l = e (farPass d (esT l) far)
  | [], k, far => rfl
  | v :: l, k, far => by
    show foldGo _ e (k + 1) (farStep d far v) l = _
    rw [far_go d e l]
    rfl
theorem fars_go {R α : Type} (es : List (Nat × Nat)) (e : List Int → Option R) : ∀ (l : List α) (k : Nat) (far : List Int), foldGo (fun (far : List Int) (d : Nat) (_ : α) => .inl (farPass (d : Int) es far)) e k far l = e (farG es l.length k far)
  | [], k, far => rfl
  | v :: l, k, far => by
    show foldGo _ e (k + 1) (farPass (k : Int) es far) l = _
    rw [fars_go es e l]
    rfl
theorem farPass_len (d : Int) : ∀ (r : List (Nat × Nat)) (far : List Int), (farPass d r far).length = far.length
  | [], far => rfl
  | e :: r, far => by
    unfold farPass
    rw [farPass_len d r]
    split <;> simp
theorem getD_int {far : List Int} {k : Nat} (h : k < far.length) : (far.map pI)[k]? = some (pI (far.getD k (-1))) := by
  rw [List.getElem?_map, List.getElem?_eq_getElem h, List.getD_eq_getElem?_getD, List.getElem?_eq_getElem h]; rfl
theorem plc_map {far : List Int} {k : Nat} (h : k < far.length) : plcV (far.map pI) (.int .i64 (k : Int)) = some (.int .i64 (k : Int)) := plc_at (by rw [List.length_map]; exact h)
theorem fillLoop {R : Type} (n : Nat) (e : Option R) (f : (List PV → Option R) → List PV → Option R) (hn : n ≤ 1000000)
    (h1 : ∀ again (row : List Int) (k : Nat), row.length = n → k < n → f again [.lst (row.map pI), pI (Int.ofNat k)] = again [.lst ((row.set k (-1)).map pI), pI (Int.ofNat (k + 1))])
    (h2 : ∀ again, f again [.lst ((List.replicate n (-1)).map pI), pI (Int.ofNat n)] = e) (z : Int) : loopR f 18446744073709551616 [.lst ((List.replicate n z).map pI), pI (Int.ofNat 0)] = e := by
  have key := loopR_go (R := R) (fun q : {k : Nat // k ≤ n} => [.lst ((List.replicate q.1 (-1) ++ List.replicate (n - q.1) z).map pI), pI (Int.ofNat q.1)]) (fun q => n + 1 - q.1) (fun _ => e) f (fun again q ih => ?_) 18446744073709551616 ⟨0, Nat.zero_le _⟩ (by simp only; omega)
  · simpa using key
  · obtain ⟨k, hk⟩ := q
    dsimp only at ih ⊢
    by_cases hlt : k < n
    · rw [h1 again _ k (by simp; omega) hlt]
      have hr : List.replicate (n - k) z = z :: List.replicate (n - (k + 1)) z := by
        rw [show n - k = (n - (k + 1)) + 1 by omega]; rfl
      have e1 : (List.replicate k (-1) ++ List.replicate (n - k) z).set k (-1) = List.replicate (k + 1) (-1) ++ List.replicate (n - (k + 1)) z := by
        rw [List.set_append, if_neg (by simp), List.length_replicate, hr, Nat.sub_self, List.set_cons_zero, List.replicate_succ', List.append_assoc]
        rfl
      rw [e1]
      exact ih ⟨k + 1, hlt⟩ (by simp only; omega)
    · obtain rfl : k = n := by omega
      have := h2 again
      simpa using this
theorem p_r_l4Far (n : Nat) (marks : List PV) (mv : List T3) (hm : marks.length = n) (h1 : 0 < n) (h2 : n ≤ 1000) (hin : ∀ v ∈ mv, v.1 < n ∧ v.2.2 < n) (hl : mv.length ≤ 1000000) :
    s_r_l4Far [.agg [.lst marks, .lst (mv.map eT3)], pI ((0 : Nat) : Int)] = some (.lst ((distN n (esT mv) 0).map pI)) := by
  have hmk := mk_v (TI.mk 1 8 (TD.int .i64) [ZC.int .i64] [] false) n (by omega)
  have hz : zeroPV (TI.mk 1 8 (TD.int .i64) [ZC.int .i64] [] false) = pI 0 := rfl
  rw [hz] at hmk
  have hes : ∀ e ∈ esT mv, e.1 < n ∧ e.2 < n := fun e he => by
    obtain ⟨v, hv, rfl⟩ := List.mem_map.1 he
    exact hin v hv
  have hp0 : plcV ((List.replicate n (-1)).map pI) (.int .i64 ((0 : Nat) : Int)) = some (.int .i64 ((0 : Nat) : Int)) := plc_map (by simp; omega)
  have hg0 : ((List.replicate n (-1)).map pI)[0]? = some (pI (-1)) := by rw [List.getElem?_map, List.getElem?_replicate, if_pos h1]; rfl
  have hs0 : ((List.replicate n (-1)).map pI).set 0 (pI 0) = (((List.replicate n (-1)).set 0 0)).map pI := by rw [← set_map]
  simp only [Int.natCast_zero] at hp0 ⊢
  have ht0 : Int.toNat 0 = 0 := rfl
  have hneg : (Int.negSucc 0) = (-1 : Int) := rfl
  show (fun x0 x1 => s_r_l4Far [x0, x1]) _ _ = _
  rw [sh_r_l4Far]
  have hrp : List.replicate n (pI 0) = (List.replicate n (0 : Int)).map pI := by rw [List.map_replicate]
  simp only [hm, hmk, hrp, EVS]
  refine (fillLoop (R := PV) n (some (.lst ((distN n (esT mv) 0).map pI))) _ (by omega) (fun again row k hr hk => ?_) (fun again => ?_) 0)
  · have p1 := plc_map (far := row) (k := k) (by omega)
    have q1 := getD_int (far := row) (k := k) (by omega)
    have st : (row.map pI).set k (pI (-1)) = (row.set k (-1)).map pI := set_map pI row k (-1)
    simp only [List.length_map, List.length_replicate, lt_d hk, next_w hk (show n ≤ 9223372036854775807 by omega), p1, q1, hneg, se_int, st, EVS]
  · simp only [List.length_map, List.length_replicate, ge_d, hp0, ht0, hg0, se_int, hs0, EVS]
    obtain ⟨f0, hf0⟩ : ∃ f0, (List.replicate n (-1 : Int)).set 0 0 = f0 := ⟨_, rfl⟩
    have hl0 : f0.length = n := by rw [← hf0]; simp
    rw [← farN_eq h1 hes]
    unfold farN
    rw [hf0]
    refine (foldLoop (R := PV) (List.range n) (fun (far : List Int) d => [.lst (far.map pI), pI (Int.ofNat d)]) (fun _ far => far.length = n) (fun (far : List Int) d _ => .inl (farPass (d : Int) (esT mv) far)) (fun far => some (.lst (far.map pI))) _ (by rw [List.length_range]; omega) (fun far d x far' hf hx he => ?_) (fun again far d x hf hx => ?_) (fun again far hf => ?_) hl0).trans ((fars_go _ _ _ _ _).trans (by rw [List.length_range]))
    · cases he; rw [farPass_len]; exact hf
    · have hd : d < n := by have := lt_of_some hx; simpa using this
      have hfl : (List.map pI far).length = n := by rw [List.length_map]; exact hf
      simp only [hfl, lt_d hd, List.length_map, EVS]
      refine (foldLoop (R := PV) mv (fun (far : List Int) k => [.lst (far.map pI), pI (Int.ofNat k)]) (fun _ far => far.length = n) (fun (far : List Int) _ v => .inl (farStep (d : Int) far v)) (fun far => again [.lst (far.map pI), pI (Int.ofNat (d + 1))]) _ (by omega) (fun far k v far' hf hv he => ?_) (fun again' far k v hf hv => ?_) (fun again' far hf => ?_) hf).trans (far_go _ _ _ _ _)
      · cases he; unfold farStep; split <;> simp [hf]
      · have hk := lt_of_some hv
        obtain ⟨l1, l2⟩ := hin v (List.mem_of_getElem? hv)
        have hi : idxV (.lst (mv.map eT3)) (.int .i64 (k : Int)) = some (eT3 v) := idx_map hv
        have p1 := plc_map (far := far) (k := v.1) (by omega)
        have p2 := plc_map (far := far) (k := v.2.2) (by omega)
        have q1 := getD_int (far := far) (k := v.1) (by omega)
        have q2 := getD_int (far := far) (k := v.2.2) (by omega)
        have st : (far.map pI).set v.2.2 (pI ((d : Int) + 1)) = (far.set v.2.2 ((d : Int) + 1)).map pI := set_map pI far _ _
        have hw : IntKind.i64.wrap ((d : Int) + 1) = (d : Int) + 1 := wrap_of (by omega) (by omega)
        unfold farStep
        by_cases c1 : far.getD v.1 (-1) = d
        · by_cases c2 : far.getD v.2.2 (-1) < 0
          · rw [if_pos ⟨c1, c2⟩]
            simp only [lt_d hk, next_w hk (show mv.length ≤ 9223372036854775807 by omega), hi, eT3, p1, p2, q1, q2, Int.toNat_natCast, c1, c2, decide_true, hw, se_int, st, EVS]
          · rw [if_neg fun h => c2 h.2]
            simp only [lt_d hk, next_w hk (show mv.length ≤ 9223372036854775807 by omega), hi, eT3, p1, p2, q1, q2, Int.toNat_natCast, c1, c2, decide_true, decide_false, EVS]
        · rw [if_neg fun h => c1 h.1]
          simp only [lt_d hk, next_w hk (show mv.length ≤ 9223372036854775807 by omega), hi, eT3, p1, p2, q1, q2, Int.toNat_natCast, c1, decide_false, EVS]
      · simp only [ge_d, next_w hd (show n ≤ 9223372036854775807 by omega), EVS]
    · have hfl : (List.map pI far).length = n := by rw [List.length_map]; exact hf
      simp only [List.length_range, hfl, ge_d, EVS]
end Go.Proofs.Ytmfplddmccggkaa

namespace Go.Proofs.Ytmfplddmccggkaa
open Go.RowKit
set_option linter.unusedVariables false
set_option linter.unusedSimpArgs false
/-! SHORTEST WAYS of a product, both sides. -/
def eN (i : Nat) : PV := pI (i : Int)
def mvGo : Nat → List Flip → List T3
  | _, [] => []
  | i, f :: r => (f.from_.toNat, i, f.to.toNat) :: mvGo (i + 1) r
def esF (l : List Flip) : List (Nat × Nat) := l.map fun f => (f.from_.toNat, f.to.toNat)
theorem mvGo_len : ∀ (l : List Flip) (i : Nat), (mvGo i l).length = l.length
  | [], _ => rfl
  | f :: l, i => by simp [mvGo, mvGo_len l]
theorem esT_mv : ∀ (l : List Flip) (i : Nat), esT (mvGo i l) = esF l
  | [], _ => rfl
  | f :: l, i => by
    show (f.from_.toNat, f.to.toNat) :: esT (mvGo (i + 1) l) = _
    rw [esT_mv l]; rfl
theorem mvGo_at : ∀ (l : List Flip) (i j : Nat), (mvGo i l)[j]? = (l[j]?).map fun f => (f.from_.toNat, i + j, f.to.toNat)
  | [], i, j => rfl
  | f :: l, i, 0 => rfl
  | f :: l, i, j + 1 => by
    show (mvGo (i + 1) l)[j]? = _
    rw [mvGo_at l]
    simp only [List.getElem?_cons_succ]
    rw [show i + 1 + j = i + (j + 1) by omega]
theorem mv_fold {R : Type} (e : List T3 → Option R) : ∀ (l : List Flip) (i : Nat) (acc : List T3), foldGo (fun (acc : List T3) (i : Nat) (f : Flip) => .inl (acc ++ [(f.from_.toNat, i, f.to.toNat)])) e i acc l = e (acc ++ mvGo i l)
  | [], i, acc => by simp [foldGo, mvGo]
  | f :: l, i, acc => by
    show foldGo _ e (i + 1) (acc ++ [(f.from_.toNat, i, f.to.toNat)]) l = _
    rw [mv_fold e l, List.append_assoc]
    rfl
theorem es_fold {R : Type} (e : List (Nat × Nat) → Option R) : ∀ (l : List Flip) (i : Nat) (acc : List (Nat × Nat)), foldGo (fun (acc : List (Nat × Nat)) (_ : Nat) (f : Flip) => .inl (acc ++ [(f.from_.toNat, f.to.toNat)])) e i acc l = e (acc ++ esF l)
  | [], i, acc => by simp [foldGo, esF]
  | f :: l, i, acc => by
    show foldGo _ e (i + 1) (acc ++ [(f.from_.toNat, f.to.toNat)]) l = _
    rw [es_fold e l, List.append_assoc]
    rfl
/-- What a valid product gives. -/
structure PrOk (p : ProdG) : Prop where
  one : 1 ≤ p.states.length
  many : p.states.length ≤ 600
  few : p.flips.length ≤ 6000
  fl : ∀ f ∈ p.flips, 0 ≤ f.from_ ∧ f.from_ < p.states.length ∧ 0 ≤ f.to ∧ f.to < p.states.length ∧ 0 ≤ f.wire ∧ f.wire ≤ 23
theorem prodP_ok {p : ProdG} (h : prodP p = true) : PrOk p := by
  unfold prodP inR at h
  simp only [Bool.and_eq_true, decide_eq_true_eq] at h
  obtain ⟨⟨⟨h1, h2⟩, h3⟩, h4⟩ := h
  refine ⟨by omega, by omega, by omega, fun f hf => ?_⟩
  have := List.all_eq_true.1 h4 f hf
  unfold flipP inR at this
  simp only [Bool.and_eq_true, decide_eq_true_eq] at this
  omega
theorem PrOk.es {p : ProdG} (h : PrOk p) : ∀ e ∈ esF p.flips, e.1 < p.states.length ∧ e.2 < p.states.length := fun e he => by
  obtain ⟨f, hf, rfl⟩ := List.mem_map.1 he
  have := h.fl f hf
  dsimp only
  omega
def farF (p : ProdG) : List Int := distN p.states.length (esF p.flips) 0
theorem PrOk.dist {p : ProdG} (h : PrOk p) : IsDist p.states.length (esF p.flips) 0 (farF p) := distN_is (by have := h.one; omega) h.es
def wayK (p : ProdG) (k : Nat) : List Nat := wayG (esF p.flips) (farF p) ((farF p).getD k (-1)).toNat k []
theorem wayG_step {es : List (Nat × Nat)} {far : List Int} {f k i x : Nat} {acc : List Nat} (h0 : 0 < far.getD k (-1)) (hi : es.findIdx? (backQ far k) = some i) (hx : es[i]? = some (x, k)) : wayG es far (f + 1) k acc = wayG es far f x (i :: acc) := by
  rw [wayG, if_neg (by omega), hi]
  dsimp only
  rw [List.getD_eq_getElem?_getD, hx]
  rfl
/-- A scan up to the first that fits. -/
theorem rgo_first {R α : Type} (q : α → Bool) (z : Nat → α → Option R) (e : Option R) : ∀ (l : List α) (k i : Nat) (x : α), l.findIdx? q = some i → l[i]? = some x → rgo (fun k x => if q x = true then some (z k x) else none) e k l = z (k + i) x
  | [], k, i, x, h, _ => by simp at h
  | a :: l, k, i, x, h, hx => by
    unfold rgo
    rw [List.findIdx?_cons] at h
    cases c : q a
    · rw [c] at h
      simp only [Bool.false_eq_true, if_false] at h ⊢
      obtain ⟨j, hj, rfl⟩ := Option.map_eq_some_iff.1 h
      rw [rgo_first q z e l (k + 1) j x hj (by simpa using hx)]
      congr 1
      omega
    · rw [c] at h
      simp only [if_true, Option.some.injEq] at h ⊢
      subst h
      simp at hx
      subst hx
      rfl
theorem ixf_find {α : Type} (q : α → Bool) : ∀ (l : List α) (k i : Nat), l.findIdx? q = some i → ixf q k l = ((k + i : Nat) : Int)
  | [], k, i, h => by simp at h
  | a :: l, k, i, h => by
    rw [List.findIdx?_cons] at h
    unfold ixf
    cases c : q a
    · rw [c] at h
      simp only [Bool.false_eq_true, if_false] at h ⊢
      obtain ⟨j, hj, rfl⟩ := Option.map_eq_some_iff.1 h
      rw [ixf_find q l (k + 1) j hj]
      congr 1
      omega
    · rw [c] at h
      simp only [if_true, Option.some.injEq] at h ⊢
      subst h
      rfl
theorem findIdx_map {α β : Type} (g : α → β) (q : β → Bool) : ∀ l : List α, (l.map g).findIdx? q = l.findIdx? fun x => q (g x)
  | [] => rfl
  | a :: l => by
    rw [List.map_cons, List.findIdx?_cons, List.findIdx?_cons, findIdx_map g q l]
/-- The way back, by a loop that takes one edge a round. -/
theorem back_loop {R : Type} {n : Nat} {es : List (Nat × Nat)} {far : List Int} (hd : IsDist n es 0 far) (hes : ∀ e ∈ es, e.1 < n ∧ e.2 < n) (z : List Nat → Option R) (enc : Nat → List Nat → List PV) (f : (List PV → Option R) → List PV → Option R)
    (h1 : ∀ again (k : Nat) (acc : List Nat) (i x : Nat), k < n → 0 < far.getD k (-1) → k ≠ 0 → acc.length ≤ n → es.findIdx? (backQ far k) = some i → es[i]? = some (x, k) → x < n → far.getD x (-1) = far.getD k (-1) - 1 → f again (enc k acc) = again (enc x (i :: acc)))
    (h2 : ∀ again (acc : List Nat), acc.length ≤ n → f again (enc 0 acc) = z acc) (hn : n ≤ 1000000) (k : Nat) (hk : k < n) (h0 : 0 ≤ far.getD k (-1)) : loopR f 18446744073709551616 (enc k []) = z (wayG es far (far.getD k (-1)).toNat k []) := by
  have key := loopR_go (R := R) (fun q : {q : Nat × List Nat // q.1 < n ∧ 0 ≤ far.getD q.1 (-1) ∧ q.2.length + (far.getD q.1 (-1)).toNat ≤ n} => enc q.1.1 q.1.2) (fun q => (far.getD q.1.1 (-1)).toNat) (fun q => z (wayG es far (far.getD q.1.1 (-1)).toNat q.1.1 q.1.2)) f (fun again q ih => ?_) 18446744073709551616 ⟨(k, []), hk, h0, by have := hd.small k hk; simp only [List.length_nil]; omega⟩ (by have := hd.small k hk; dsimp only; omega)
  · exact key
  · obtain ⟨⟨k, acc⟩, hk, h0, hl⟩ := q
    dsimp only at ih hk h0 hl ⊢
    by_cases c : k = 0
    · subst c
      have e0 : far.getD 0 (-1) = 0 := (hd.zero_iff hk).2 rfl
      rw [h2 again acc (by omega), e0]
      rfl
    · have hp : 0 < far.getD k (-1) := by
        have : far.getD k (-1) ≠ 0 := fun e => c ((hd.zero_iff hk).1 e)
        omega
      obtain ⟨i, x, b1, b2, b3, b4⟩ := hd.back hes hk hp
      rw [h1 again k acc i x hk hp c (by omega) b1 b2 b3 b4]
      obtain ⟨m, hm⟩ : ∃ m, (far.getD k (-1)).toNat = m + 1 := ⟨(far.getD k (-1)).toNat - 1, by omega⟩
      have := ih ⟨(x, i :: acc), b3, by dsimp only; omega, by dsimp only; simp only [List.length_cons]; omega⟩ (by dsimp only; omega)
      dsimp only at this
      rw [this, hm, wayG_step hp b1 b2, show (far.getD x (-1)).toNat = m by omega]
theorem flip_at {p : ProdG} (h : PrOk p) {f : Flip} (hf : f ∈ p.flips) : f.from_ = ((f.from_.toNat : Nat) : Int) ∧ f.to = ((f.to.toNat : Nat) : Int) := by
  have := h.fl f hf
  omega
theorem mk_mv (a b c : PV) : splice (splice (splice [PV.int .i64 0, PV.int .i64 0, PV.int .i64 0] 0 [a]) 1 [b]) 2 [c] = [a, b, c] := rfl
theorem gs0 (a b : PV) : grpSt [.lst [], .lst []] 0 (.agg [a, b]) = some (.agg [a, b]) := rfl
def farK (p : ProdG) (k : Nat) : Int := (farF p).getD k (-1)
theorem p_r_l20Way (p : ProdG) (k : Nat) (h : PrOk p) (hk : k < p.states.length) : s_r_l20Way [ePr p, pI (k : Int)] = some (if 0 ≤ farK p k then .tup [.lst ((wayK p k).map eN), pB true] else .tup [.lst [], pB false]) := by
  have h1 := h.one
  have h2 := h.many
  have h3 := h.few
  have hd := h.dist
  have hmk := mk_v (TI.mk 1 16 TD.str [ZC.str] [] false) p.states.length (by omega)
  show (fun x0 x1 => s_r_l20Way [x0, x1]) _ _ = _
  rw [sh_r_l20Way]
  simp only [ePr, List.length_map, hmk, EVS]
  obtain ⟨marks, hma⟩ : ∃ m, List.replicate p.states.length (zeroPV (TI.mk 1 16 TD.str [ZC.str] [] false)) = m := ⟨_, rfl⟩
  have hml : marks.length = p.states.length := by rw [← hma, List.length_replicate]
  rw [hma]
  clear hma hmk
  simp only [sp2, gs0, EVS]
  have hmg : ∀ (i : Nat) (f : Flip), p.flips[i]? = some f → (mvGo 0 p.flips).take i ++ [(f.from_.toNat, i, f.to.toNat)] = (mvGo 0 p.flips).take (i + 1) := fun i f hf => by
    rw [List.take_add_one, mvGo_at, hf, Nat.zero_add]; rfl
  refine (foldLoop (R := PV) p.flips (fun (acc : List T3) i => [.agg [.lst marks, .lst (acc.map eT3)], pI (Int.ofNat i)]) (fun i acc => acc = (mvGo 0 p.flips).take i) (fun (acc : List T3) i f => .inl (acc ++ [(f.from_.toNat, i, f.to.toNat)])) (fun mv => some (if 0 ≤ farK p k then .tup [.lst ((wayK p k).map eN), pB true] else .tup [.lst [], pB false])) _ (by omega) (fun acc i f acc' hi hf he => ?_) (fun again acc i f hi hf => ?_) (fun again acc hi => ?_) (b := []) rfl).trans (mv_fold _ _ _ _)
  · cases he; rw [hi]; exact hmg i f hf
  · have hl := lt_of_some hf
    have hix : idxV (.lst (p.flips.map eFl)) (.int .i64 (i : Int)) = some (eFl f) := idx_map hf
    obtain ⟨e1, e2⟩ := flip_at h (List.mem_of_getElem? hf)
    have hil : acc.length ≤ p.flips.length := by rw [hi, List.length_take, mvGo_len]; omega
    have hla : acc.length + [PV.agg [pI f.from_, pI (i : Int), pI f.to]].length ≤ 4294967296 ∧ [PV.agg [pI f.from_, pI (i : Int), pI f.to]].all (okEl 3) = true := ⟨by simp; omega, rfl⟩
    have hps : acc.map eT3 ++ [PV.agg [pI f.from_, pI (i : Int), pI f.to]] = (acc ++ [(f.from_.toNat, i, f.to.toNat)]).map eT3 := by
      rw [List.map_append]; simp only [List.map_cons, List.map_nil, eT3]; rw [← e1, ← e2]
    simp only [lt_d hl, next_w hl (show p.flips.length ≤ 9223372036854775807 by omega), hix, eFl, mk_mv, List.length_map, if_pos hla, hps, EVS]
  · have hacc : acc = mvGo 0 p.flips := by rw [hi, List.take_of_length_le]; rw [mvGo_len]; omega
    have hmi : ∀ v ∈ acc, v.1 < p.states.length ∧ v.2.2 < p.states.length := fun v hv => by
      have := h.es (v.1, v.2.2) (by rw [← esT_mv p.flips 0, ← hacc]; exact List.mem_map.2 ⟨v, hv, rfl⟩)
      exact this
    have g1 := p_r_l4Far p.states.length marks acc hml (by omega) (by omega) hmi (by rw [hacc, mvGo_len]; omega)
    have hes : esT acc = esF p.flips := by rw [hacc]; exact esT_mv _ _
    have hal : acc.length ≤ 6000 := by rw [hacc, mvGo_len]; exact h3
    rw [hes] at g1
    have hfl := hd.len
    unfold farF at hfl
    have p1 := plc_map (far := farF p) (k := k) (by rw [hd.len]; exact hk)
    have q1 := getD_int (far := farF p) (k := k) (by rw [hd.len]; exact hk)
    unfold farF at p1 q1
    unfold farK wayK
    simp only [Int.natCast_zero] at g1
    simp only [ge_d, g1, p1, q1, Int.toNat_natCast, EVS]
    have hfd : distN p.states.length (esF p.flips) 0 = farF p := rfl
    rw [hfd]
    by_cases c0 : (farF p).getD k (-1) < 0
    · rw [if_neg (show ¬ (0 ≤ (farF p).getD k (-1)) by omega)]
      simp only [c0, EVS]
    · rw [if_pos (show 0 ≤ (farF p).getD k (-1) by omega)]
      simp only [c0, EVS]
      refine back_loop (R := PV) hd h.es (fun l => some (PV.tup [PV.lst (l.map eN), pB true])) (fun (k : Nat) (acc : List Nat) => [pI (k : Int), .lst (acc.map eN)]) _ (fun again k out i x hk hp hk0 hl b1 b2 b3 b4 => ?_) (fun again out hl => ?_) (by omega) k hk (by omega)
      · have hkn : decide ((k : Int) = 0) = false := by simp only [decide_eq_false_iff_not]; omega
        have hv : acc[i]? = some (x, i, k) := by
          rw [hacc, mvGo_at]
          unfold esF at b2
          rw [List.getElem?_map, Option.map_eq_some_iff] at b2
          obtain ⟨f, hf, he⟩ := b2
          cases he
          rw [hf, Nat.zero_add]; rfl
        have hq : acc.findIdx? (fun v => backQ (farF p) k (v.1, v.2.2)) = some i := by
          rw [← findIdx_map (fun v : T3 => (v.1, v.2.2))]
          have : acc.map (fun v : T3 => (v.1, v.2.2)) = esF p.flips := hes
          rw [this]
          exact b1
        simp only [hkn, List.length_map, EVS]
        refine (range1 (R := PV) acc (fun j v => if backQ (farF p) k (v.1, v.2.2) = true then some (again [pI ((v.1 : Nat) : Int), .lst ((v.2.1 :: out).map eN)]) else none) (again [pI (k : Int), .lst (out.map eN)]) _ (by omega) (fun again' j v hv => ?_) (fun again' => ?_)).trans ((rgo_first _ _ _ _ _ _ _ hq hv).trans rfl)
        · have hj := lt_of_some hv
          have hi : idxV (.lst (acc.map eT3)) (.int .i64 (j : Int)) = some (eT3 v) := idx_map hv
          obtain ⟨l1, l2⟩ := hmi v (List.mem_of_getElem? hv)
          have p1 := plc_map (far := farF p) (k := v.1) (by rw [hd.len]; exact l1)
          have q1 := getD_int (far := farF p) (k := v.1) (by rw [hd.len]; exact l1)
          have p2 := plc_map (far := farF p) (k := k) (by rw [hd.len]; exact hk)
          have q2 := getD_int (far := farF p) (k := k) (by rw [hd.len]; exact hk)
          have hw : IntKind.i64.wrap ((farF p).getD k (-1) - 1) = (farF p).getD k (-1) - 1 := wrap_of (by omega) (by have := hd.small k hk; omega)
          have hla : [pI (v.2.1 : Int)].length + out.length ≤ 4294967296 ∧ (out.map eN).all (okEl 1) = true := ⟨by simp; omega, by simp [eN, okEl]; intros; rfl⟩
          unfold backQ
          dsimp only
          have hi1 : decide ((v.2.2 : Int) = (k : Int)) = decide (v.2.2 = k) := by rw [decide_eq_decide]; omega
          by_cases c1 : v.2.2 = k
          · by_cases c2 : 0 ≤ (farF p).getD v.1 (-1)
            · by_cases c3 : (farF p).getD v.1 (-1) = (farF p).getD k (-1) - 1
              · have hps : PV.int .i64 (v.2.1 : Int) :: out.map eN = (v.2.1 :: out).map eN := rfl
                have c3' : decide ((farF p).getD v.1 (-1) = (farF p).getD k (-1) - 1) = true := decide_eq_true c3
                simp only [lt_d hj, next_w hj (show acc.length ≤ 9223372036854775807 by omega), hi, eT3, hi1, c1, c2, c3', p1, q1, p2, q2, hw, Int.toNat_natCast, decide_true, Bool.and_self, and_self, if_true, List.cons_append, List.nil_append, if_pos hla, EVS]
                rfl
              · simp only [lt_d hj, next_w hj (show acc.length ≤ 9223372036854775807 by omega), hi, eT3, hi1, c1, c2, c3, p1, q1, p2, q2, hw, Int.toNat_natCast, decide_true, decide_false, Bool.and_self, Bool.and_false, Bool.false_eq_true, if_false, EVS]
            · have c3 : (farF p).getD v.1 (-1) ≠ (farF p).getD k (-1) - 1 := by omega
              simp only [lt_d hj, next_w hj (show acc.length ≤ 9223372036854775807 by omega), hi, eT3, hi1, c1, c2, c3, p1, q1, p2, q2, hw, Int.toNat_natCast, decide_true, decide_false, Bool.and_self, Bool.and_false, Bool.false_eq_true, if_false, EVS]
          · simp only [lt_d hj, next_w hj (show acc.length ≤ 9223372036854775807 by omega), hi, eT3, hi1, c1, p1, q1, p2, q2, hw, Int.toNat_natCast, decide_true, decide_false, Bool.false_and, Bool.false_eq_true, if_false, EVS]
        · simp only [ge_d, EVS]
      · have hkn : decide (((0 : Nat) : Int) = 0) = true := rfl
        simp only [EVS]
end Go.Proofs.Ytmfplddmccggkaa

namespace Go.Proofs.Ytmfplddmccggkaa
open Go.RowKit
set_option linter.unusedVariables false
set_option linter.unusedSimpArgs false
/-! LEAST DISTANCES: the program's function, plainly. -/
theorem p_i_distances (n s : Nat) (es : List (Nat × Nat)) (hn : n ≤ 1000) (hs : s < n) (hl : es.length ≤ 100000) (hes : ∀ e ∈ es, e.1 < n ∧ e.2 < n) : s_i_distances [pI (n : Int), .lst (es.map pSt), pI (s : Int)] = some (.lst ((distN n es s).map pI)) := by
  have hc : (0 : Int) ≤ (n : Int) ∧ (n : Int) ≤ 1000 ∧ (0 : Int) ≤ (s : Int) ∧ (s : Int) < (n : Int) ∧ es.length ≤ 100000 ∧ (es.all fun e => decide (e.1 < (n : Int).toNat ∧ e.2 < (n : Int).toNat)) = true := by
    refine ⟨by omega, by omega, by omega, by omega, hl, List.all_eq_true.2 fun e he => ?_⟩
    rw [Int.toNat_natCast]
    exact decide_eq_true (hes e he)
  show (match stsOf (es.map pSt) with
    | some es => if (0 : Int) ≤ (n : Int) ∧ (n : Int) ≤ 1000 ∧ (0 : Int) ≤ (s : Int) ∧ (s : Int) < (n : Int) ∧ es.length ≤ 100000 ∧ (es.all fun e => decide (e.1 < (n : Int).toNat ∧ e.2 < (n : Int).toNat)) = true then some (PV.lst ((distN (n : Int).toNat es (s : Int).toNat).map pI)) else none
    | none => none) = _
  rw [stsOf_map]
  show (if _ then _ else _) = _
  rw [if_pos hc, Int.toNat_natCast, Int.toNat_natCast]
end Go.Proofs.Ytmfplddmccggkaa

namespace Go.Proofs.Ytmfplddmccggkaa
open Go.RowKit
set_option linter.unusedVariables false
set_option linter.unusedSimpArgs false
/-! SHORTEST WAYS of the program, and the law's plain forms. -/
theorem mk_st2 (a b : PV) : splice (splice [PV.int .i64 0, PV.int .i64 0] 0 [a]) 1 [b] = [a, b] := rfl
theorem caps2 (a b : List PV) : capsOf 2 (.tup [.agg a, .agg b]) = some [.agg a, .agg b] := by simp [capsOf, PV.parts, PV.isU]
theorem p_i_shortest_1 (e : Nat × Nat) (k : Nat) (far : List Int) (n : Nat) (hl : far.length = n) (he : e.1 < n) (hk : k < n) (hb : -1 ≤ far.getD k (-1) ∧ far.getD k (-1) ≤ 1000000) : s_i_shortest_1 [pSt e, .agg [pI (k : Int)], .agg [.lst (far.map pI)]] = some (pB (backQ far k e)) := by
  have p1 : idxV (.lst (far.map pI)) (.int .i64 (e.1 : Int)) = some (pI (far.getD e.1 (-1))) := idxV_at (getD_int (by omega))
  have p2 : idxV (.lst (far.map pI)) (.int .i64 (k : Int)) = some (pI (far.getD k (-1))) := idxV_at (getD_int (by omega))
  have hw : IntKind.i64.wrap (far.getD k (-1) - 1) = far.getD k (-1) - 1 := wrap_of (by omega) (by omega)
  have hi1 : decide ((e.2 : Int) = (k : Int)) = decide (e.2 = k) := by rw [decide_eq_decide]; omega
  show (fun x0 x1 x2 => s_i_shortest_1 [x0, x1, x2]) _ _ _ = _
  rw [sh_i_shortest_1]
  have hpe : pSt e = .agg [pI (e.1 : Int), pI (e.2 : Int)] := rfl
  unfold backQ
  cases c : decide (e.2 = k) <;> simp only [hpe, hi1, c, p1, p2, hw, EVS]
theorem p_g_slices_IndexFunc_step__i_shortest_1 (l : List (Nat × Nat)) (k : Nat) (far : List Int) (n : Nat) (hf : far.length = n) (hl : l.length ≤ 1000000) (he : ∀ e ∈ l, e.1 < n) (hk : k < n) (hb : -1 ≤ far.getD k (-1) ∧ far.getD k (-1) ≤ 1000000) : s_g_slices_IndexFunc_step__i_shortest_1 [.lst (l.map pSt), .tup [.agg [pI (k : Int)], .agg [.lst (far.map pI)]]] = some (pI (ixf (backQ far k) 0 l)) := by
  show (fun x0 x1 => s_g_slices_IndexFunc_step__i_shortest_1 [x0, x1]) _ _ = _
  rw [sh_g_slices_IndexFunc_step__i_shortest_1]
  simp only [EVS]
  refine (congrArg (fun m : Option PV => m.bind fun r => if r.sc = true then some r else none) (rangeIx l (backQ far k) _ (by omega) (fun again j e hx => ?_) (fun again => ?_))).trans ?_
  · have hj := lt_of_some hx
    have hi : idxV (.lst (l.map pSt)) (.int .i64 (j : Int)) = some (pSt e) := idx_map hx
    have g := p_i_shortest_1 e k far n hf (he e (List.mem_of_getElem? hx)) hk hb
    have hpe : pSt e = .agg [pI (e.1 : Int), pI (e.2 : Int)] := rfl
    rw [hpe] at g hi
    cases c : backQ far k e <;> simp only [lt_d hj, next_w hj (show l.length ≤ 9223372036854775807 by omega), hi, caps2, g, c, List.append_nil, List.cons_append, List.nil_append, Bool.false_eq_true, if_false, if_true, EVS]
  · simp only [ge_d, EVS]
    rfl
  · simp only [EVS]
theorem p_i_shortest (n : Nat) (es : List (Nat × Nat)) (k : Nat) (h1 : 0 < n) (h2 : n ≤ 1000) (hes : ∀ e ∈ es, e.1 < n ∧ e.2 < n) (hl : es.length ≤ 100000) (hk : k < n) :
    s_i_shortest [pI (n : Int), .lst (es.map pSt), pI (k : Int)] = some (if 0 ≤ (distN n es 0).getD k (-1) then .tup [.lst ((wayG es (distN n es 0) ((distN n es 0).getD k (-1)).toNat k []).map eN), pB true] else .tup [.lst [], pB false]) := by
  have hd := distN_is h1 hes
  have g1 := p_i_distances n 0 es h2 h1 hl hes
  obtain ⟨far, hfar⟩ : ∃ far, distN n es 0 = far := ⟨_, rfl⟩
  rw [hfar] at hd g1 ⊢
  have p1 := plc_map (far := far) (k := k) (by rw [hd.len]; exact hk)
  have q1 := getD_int (far := far) (k := k) (by rw [hd.len]; exact hk)
  simp only [Int.natCast_zero] at g1
  show (fun x0 x1 x2 => s_i_shortest [x0, x1, x2]) _ _ _ = _
  rw [sh_i_shortest]
  simp only [g1, p1, q1, Int.toNat_natCast, EVS]
  by_cases c0 : far.getD k (-1) < 0
  · rw [if_neg (show ¬ (0 ≤ far.getD k (-1)) by omega)]
    simp only [c0, EVS]
  · rw [if_pos (show 0 ≤ far.getD k (-1) by omega)]
    simp only [c0, EVS]
    refine back_loop (R := PV) hd hes (fun l => some (PV.tup [PV.lst (l.map eN), pB true])) (fun (k : Nat) (acc : List Nat) => [.lst (acc.reverse.map eN), .agg [pI (k : Int)]]) _ (fun again k out i x hk hp hk0 hl' b1 b2 b3 b4 => ?_) (fun again out hl' => ?_) (by omega) k hk (by omega)
    · have p1 := plc_map (far := far) (k := k) (by rw [hd.len]; exact hk)
      have q1 := getD_int (far := far) (k := k) (by rw [hd.len]; exact hk)
      have hgt : decide (0 < far.getD k (-1)) = true := decide_eq_true hp
      have hsm := hd.small k hk
      have g2 := p_g_slices_IndexFunc_step__i_shortest_1 es k far n hd.len (by omega) (fun e he => (hes e he).1) hk ⟨by omega, by omega⟩
      rw [ixf_find _ _ 0 _ b1, Nat.zero_add] at g2
      have hi : idxV (.lst (es.map pSt)) (.int .i64 (i : Int)) = some (pSt (x, k)) := idx_map b2
      have hpe : pSt (x, k) = .agg [pI (x : Int), pI (k : Int)] := rfl
      have hla : out.length + [pI (i : Int)].length ≤ 4294967296 ∧ [pI (i : Int)].all (okEl 1) = true := ⟨by simp; omega, rfl⟩
      have hps : out.reverse.map eN ++ [pI (i : Int)] = (i :: out).reverse.map eN := by simp [eN]
      simp only [hgt, p1, q1, Int.toNat_natCast, List.drop_zero, g2, hi, hpe, List.length_reverse, if_pos hla, hps, spl_1, EVS]
    · have hk0 : 0 < n := h1
      have p1 := plc_map (far := far) (k := 0) (by rw [hd.len]; exact hk0)
      have q1 := getD_int (far := far) (k := 0) (by rw [hd.len]; exact hk0)
      have e0 : far.getD 0 (-1) = 0 := (hd.zero_iff hk0).2 rfl
      rw [e0] at q1
      simp only [Int.natCast_zero] at p1
      have g4 : s_g_slices_Reverse_int [.lst (out.reverse.map eN)] = some (.lst (out.map eN)) := by
        have hm : ∀ l : List Nat, l.map eN = (l.map fun i : Nat => (i : Int)).map pI := fun l => by rw [List.map_map]; rfl
        rw [hm, hm]
        show ipInts _ _ = _
        unfold ipInts
        simp only
        rw [intsOf_map]
        simp only [obs]
        rw [if_pos (by simp; omega)]
        simp
      have hgt : decide ((0 : Int) < 0) = false := rfl
      have ht0 : Int.toNat 0 = 0 := rfl
      simp only [p1, q1, ht0, hgt, g4, EVS]
theorem wayG_mem {es : List (Nat × Nat)} {far : List Int} : ∀ (f k : Nat) (acc : List Nat), ∀ x ∈ wayG es far f k acc, x ∈ acc ∨ x < es.length
  | 0, k, acc, x, hx => .inl hx
  | f + 1, k, acc, x, hx => by
    unfold wayG at hx
    split at hx
    · exact .inl hx
    · split at hx
      · rename_i i hi
        rcases wayG_mem f _ _ x hx with h | h
        · rcases List.mem_cons.1 h with rfl | h
          · exact .inr (List.findIdx?_eq_some_iff_getElem.1 hi).1
          · exact .inl h
        · exact .inr h
      · exact .inl hx
theorem wayG_len {es : List (Nat × Nat)} {far : List Int} : ∀ (f k : Nat) (acc : List Nat), (wayG es far f k acc).length ≤ acc.length + f
  | 0, k, acc => Nat.le_refl _
  | f + 1, k, acc => by
    unfold wayG
    split
    · omega
    · split
      · refine Nat.le_trans (wayG_len f _ _) ?_
        simp only [List.length_cons]
        omega
      · omega
theorem wayK_mem {p : ProdG} {k : Nat} : ∀ x ∈ wayK p k, x < p.flips.length := fun x hx => by
  rcases wayG_mem _ _ _ x hx with h | h
  · cases h
  · unfold esF at h; simpa using h
theorem wayK_len {p : ProdG} {k : Nat} (h : PrOk p) (hk : k < p.states.length) : (wayK p k).length ≤ 600 := by
  have h1 := wayG_len (es := esF p.flips) (far := farF p) ((farF p).getD k (-1)).toNat k []
  have h2 := h.dist.small k hk
  have h3 := h.many
  unfold wayK
  simp only [List.length_nil] at h1
  omega
def flipOf (p : ProdG) (i : Nat) : Flip := p.flips.getD i ⟨0, 0, 0⟩
theorem flip_get {p : ProdG} {i : Nat} (h : i < p.flips.length) : p.flips[i]? = some (flipOf p i) := by
  unfold flipOf
  rw [List.getD_eq_getElem?_getD, List.getElem?_eq_getElem h]
  rfl
theorem way_fold {R : Type} (p : ProdG) (e : List Flip → Option R) : ∀ (l : List Nat) (i : Nat) (acc : List Flip), foldGo (fun (acc : List Flip) (_ : Nat) (i : Nat) => .inl (acc ++ [flipOf p i])) e i acc l = e (acc ++ l.map (flipOf p))
  | [], i, acc => by simp [foldGo]
  | f :: l, i, acc => by
    show foldGo _ e (i + 1) (acc ++ [flipOf p f]) l = _
    rw [way_fold p e l, List.append_assoc]
    rfl
theorem p_i_flipsTo (p : ProdG) (k : Nat) (h : PrOk p) (hk : k < p.states.length) : s_i_flipsTo [ePr p, pI (k : Int)] = some (if 0 ≤ farK p k then .tup [.lst (((wayK p k).map (flipOf p)).map eFl), pB true] else .tup [.lst [], pB false]) := by
  have h1 := h.one
  have h2 := h.many
  have h3 := h.few
  show (fun x0 x1 => s_i_flipsTo [x0, x1]) _ _ = _
  rw [sh_i_flipsTo]
  simp only [ePr, List.length_map, EVS]
  refine (foldLoop (R := PV) p.flips (fun (acc : List (Nat × Nat)) i => [.lst (acc.map pSt), pI (Int.ofNat i)]) (fun i acc => acc = (esF p.flips).take i) (fun (acc : List (Nat × Nat)) _ f => .inl (acc ++ [(f.from_.toNat, f.to.toNat)])) (fun mv => some (if 0 ≤ farK p k then .tup [.lst (((wayK p k).map (flipOf p)).map eFl), pB true] else .tup [.lst [], pB false])) _ (by omega) (fun acc i f acc' hi hf he => ?_) (fun again acc i f hi hf => ?_) (fun again acc hi => ?_) (b := []) rfl).trans (es_fold _ _ _ _)
  · cases he
    rw [hi, List.take_add_one]
    unfold esF
    rw [List.getElem?_map, hf]
    rfl
  · have hl := lt_of_some hf
    have hix : idxV (.lst (p.flips.map eFl)) (.int .i64 (i : Int)) = some (eFl f) := idx_map hf
    obtain ⟨e1, e2⟩ := flip_at h (List.mem_of_getElem? hf)
    have hil : acc.length ≤ p.flips.length := by rw [hi, List.length_take]; unfold esF; rw [List.length_map]; omega
    have hla : acc.length + [PV.agg [pI f.from_, pI f.to]].length ≤ 4294967296 ∧ [PV.agg [pI f.from_, pI f.to]].all (okEl 2) = true := ⟨by simp; omega, rfl⟩
    have hps : acc.map pSt ++ [PV.agg [pI f.from_, pI f.to]] = (acc ++ [(f.from_.toNat, f.to.toNat)]).map pSt := by
      rw [List.map_append]; simp only [List.map_cons, List.map_nil, pSt]; rw [← e1, ← e2]
    simp only [lt_d hl, next_w hl (show p.flips.length ≤ 9223372036854775807 by omega), hix, eFl, mk_st2, List.length_map, if_pos hla, hps, EVS]
  · have hacc : acc = esF p.flips := by rw [hi, List.take_of_length_le]; unfold esF; rw [List.length_map]; omega
    have g1 := p_i_shortest p.states.length (esF p.flips) k (by omega) (by omega) h.es (by unfold esF; rw [List.length_map]; omega) hk
    have hfd : distN p.states.length (esF p.flips) 0 = farF p := rfl
    rw [hfd] at g1
    subst hacc
    unfold farK
    by_cases c0 : 0 ≤ (farF p).getD k (-1)
    · rw [if_pos c0] at g1 ⊢
      have hw : wayG (esF p.flips) (farF p) ((farF p).getD k (-1)).toNat k [] = wayK p k := rfl
      rw [hw] at g1
      have hwl := wayK_len h hk
      simp only [ge_d, g1, List.length_map, EVS]
      refine (foldLoop (R := PV) (wayK p k) (fun (acc : List Flip) i => [.lst (acc.map eFl), pI (Int.ofNat i)]) (fun i acc => acc.length = i) (fun (acc : List Flip) _ i => .inl (acc ++ [flipOf p i])) (fun l => some (.tup [.lst (l.map eFl), pB true])) _ (by omega) (fun acc i x acc' hi hf he => ?_) (fun again acc i x hi hf => ?_) (fun again acc hi => ?_) (b := []) rfl).trans (way_fold _ _ _ _ _)
      · cases he; simp [hi]
      · have hl := lt_of_some hf
        have p1 : plcV ((wayK p k).map eN) (.int .i64 (i : Int)) = some (.int .i64 (i : Int)) := plc_at (by rw [List.length_map]; exact hl)
        have q1 : ((wayK p k).map eN)[i]? = some (pI (x : Int)) := by rw [List.getElem?_map, hf]; rfl
        have hix : idxV (.lst (p.flips.map eFl)) (.int .i64 (x : Int)) = some (eFl (flipOf p x)) := idx_map (flip_get (wayK_mem x (List.mem_of_getElem? hf)))
        have hla : acc.length + [eFl (flipOf p x)].length ≤ 4294967296 ∧ [eFl (flipOf p x)].all (okEl 3) = true := ⟨by simp; omega, rfl⟩
        have hps : acc.map eFl ++ [eFl (flipOf p x)] = (acc ++ [flipOf p x]).map eFl := by simp
        simp only [eFl] at hla hps hix
        simp only [lt_d hl, next_w hl (show (wayK p k).length ≤ 9223372036854775807 by omega), p1, q1, hix, Int.toNat_natCast, List.length_map, eFl, if_pos hla, hps, EVS]
      · simp only [ge_d, EVS]
    · rw [if_neg c0] at g1 ⊢
      simp only [ge_d, g1, List.length_map, EVS]
      refine (loopR_go (R := PV) (fun _ : Unit => [.lst [], pI 0]) (fun _ => 0) (fun _ => some (.tup [.lst [], pB false])) _ (fun again _ _ => ?_) 18446744073709551616 () (by omega))
      simp only [List.length_nil, EVS]
      rfl
end Go.Proofs.Ytmfplddmccggkaa

namespace Go.Proofs.Ytmfplddmccggkaa
open Go.RowKit
set_option linter.unusedVariables false
set_option linter.unusedSimpArgs false
/-! ShortestFlips: both plain forms. -/
def sfOk (p : ProdG) (k : Int) : Bool := prodP p && inR k 0 ((p.states.length : Int) - 1)
def sfP (p : ProdG) (k : Int) : List Int × Bool := if sfOk p k = true ∧ 0 ≤ farK p k.toNat then ((wayK p k.toNat).map fun i => (flipOf p i).wire, true) else ([], false)
theorem wire_fold {R : Type} (p : ProdG) (e : List Int → Option R) : ∀ (l : List Nat) (i : Nat) (acc : List Int), foldGo (fun (acc : List Int) (_ : Nat) (i : Nat) => .inl (acc ++ [(flipOf p i).wire])) e i acc l = e (acc ++ l.map fun i => (flipOf p i).wire)
  | [], i, acc => by simp [foldGo]
  | f :: l, i, acc => by
    show foldGo _ e (i + 1) (acc ++ [(flipOf p f).wire]) l = _
    rw [wire_fold p e l, List.append_assoc]
    rfl
theorem sfOk_at {p : ProdG} {k : Int} (h : sfOk p k = true) : PrOk p ∧ ∃ m : Nat, k = m ∧ m < p.states.length := by
  unfold sfOk inR at h
  simp only [Bool.and_eq_true, decide_eq_true_eq] at h
  exact ⟨prodP_ok h.1, k.toNat, by omega, by omega⟩
theorem at_r_ShortestFlips (p : ProdG) (k : Int) (hp : PrFit p) : s_r_ShortestFlips [ePr p, pI k] = some (.tup [.lst ((sfP p k).1.map pI), pB (sfP p k).2]) := by
  have g1 := p_r_l20Good p hp
  have g2 := p_r_l1In k 0 ((p.states.length : Int) - 1)
  have hst := hp.states
  unfold Fits at hst
  have hw : IntKind.i64.wrap ((p.states.length : Int) - 1) = (p.states.length : Int) - 1 := wrap_of (by omega) (by omega)
  show (fun x0 x1 => s_r_ShortestFlips [x0, x1]) _ _ = _
  rw [sh_r_ShortestFlips]
  unfold sfP
  cases hok : sfOk p k
  · rw [if_neg (by simp)]
    unfold sfOk inR at hok
    simp only [ePr] at g1 ⊢
    cases c1 : prodP p
    · rw [c1] at g1; simp only [pv_t3, g1, EVS]; rfl
    · rw [c1] at g1 hok
      rw [Bool.true_and] at hok
      rw [hok] at g2
      simp only [pv_t3, List.length_map, hw, g1, g2, EVS]; rfl
  · obtain ⟨h, m, rfl, hm⟩ := sfOk_at hok
    unfold sfOk inR at hok
    simp only [Bool.and_eq_true, decide_eq_true_eq] at hok
    have c1 := hok.1
    have c2 : (decide ((0 : Int) ≤ (m : Int)) && decide ((m : Int) ≤ (p.states.length : Int) - 1)) = true := by simp; omega
    rw [c1] at g1
    rw [c2] at g2
    have g3 := p_r_l20Way p m h hm
    have hwl := wayK_len h hm
    rw [Int.toNat_natCast]
    simp only [ePr] at g1 g3 ⊢
    by_cases c0 : 0 ≤ farK p m
    · rw [if_pos c0] at g3
      rw [if_pos ⟨trivial, c0⟩]
      simp only [pv_t3, List.length_map, hw, g1, g2, g3, EVS]
      refine (foldLoop (R := PV) (wayK p m) (fun (acc : List Int) i => [.lst (acc.map pI), pI (Int.ofNat i)]) (fun i acc => acc.length = i) (fun (acc : List Int) _ i => .inl (acc ++ [(flipOf p i).wire])) (fun l => some (.tup [.lst (l.map pI), pB true])) _ (by omega) (fun acc i x acc' hi hf he => ?_) (fun again acc i x hi hf => ?_) (fun again acc hi => ?_) (b := []) rfl).trans (wire_fold _ _ _ _ _)
      · cases he; simp [hi]
      · have hl := lt_of_some hf
        have p1 : plcV ((wayK p m).map eN) (.int .i64 (i : Int)) = some (.int .i64 (i : Int)) := plc_at (by rw [List.length_map]; exact hl)
        have q1 : ((wayK p m).map eN)[i]? = some (pI (x : Int)) := by rw [List.getElem?_map, hf]; rfl
        have hix : idxV (.lst (p.flips.map eFl)) (.int .i64 (x : Int)) = some (eFl (flipOf p x)) := idx_map (flip_get (wayK_mem x (List.mem_of_getElem? hf)))
        have hla : acc.length + [pI (flipOf p x).wire].length ≤ 4294967296 ∧ [pI (flipOf p x).wire].all (okEl 1) = true := ⟨by simp; omega, rfl⟩
        have hps : acc.map pI ++ [pI (flipOf p x).wire] = (acc ++ [(flipOf p x).wire]).map pI := by simp
        simp only [eFl] at hix
        simp only [lt_d hl, next_w hl (show (wayK p m).length ≤ 9223372036854775807 by omega), p1, q1, hix, Int.toNat_natCast, List.length_map, List.drop_succ_cons, List.drop_zero, if_pos hla, hps, EVS]
      · simp only [ge_d, EVS]
    · rw [if_neg c0] at g3
      rw [if_neg (fun h => c0 h.2)]
      simp only [pv_t3, List.length_map, hw, g1, g2, g3, EVS]
      rfl
theorem flwire_fold {R : Type} (e : List Int → Option R) : ∀ (l : List Flip) (i : Nat) (acc : List Int), foldGo (fun (acc : List Int) (_ : Nat) (f : Flip) => .inl (acc ++ [f.wire])) e i acc l = e (acc ++ l.map Flip.wire)
  | [], i, acc => by simp [foldGo]
  | f :: l, i, acc => by
    show foldGo _ e (i + 1) (acc ++ [f.wire]) l = _
    rw [flwire_fold e l, List.append_assoc]
    rfl
theorem at_i_ShortestFlips (p : ProdG) (k : Int) (hp : PrFit p) : s_i_ShortestFlips [ePr p, pI k] = some (.tup [.lst ((sfP p k).1.map pI), pB (sfP p k).2]) := by
  have g1 := p_i_isProduct p hp
  have g2 := p_i_within k 0 ((p.states.length : Int) - 1)
  have hst := hp.states
  unfold Fits at hst
  have hw : IntKind.i64.wrap ((p.states.length : Int) - 1) = (p.states.length : Int) - 1 := wrap_of (by omega) (by omega)
  show (fun x0 x1 => s_i_ShortestFlips [x0, x1]) _ _ = _
  rw [sh_i_ShortestFlips]
  unfold sfP
  cases hok : sfOk p k
  · rw [if_neg (by simp)]
    unfold sfOk at hok
    simp only [ePr] at g1 ⊢
    cases c1 : prodP p
    · rw [c1] at g1; simp only [pv_t3, g1, EVS]; rfl
    · rw [c1] at g1 hok
      rw [Bool.true_and] at hok
      rw [hok] at g2
      simp only [pv_t3, List.length_map, hw, g1, g2, EVS]; rfl
  · obtain ⟨h, m, rfl, hm⟩ := sfOk_at hok
    unfold sfOk at hok
    simp only [Bool.and_eq_true] at hok
    have c1 := hok.1
    rw [c1] at g1
    rw [hok.2] at g2
    have g3 := p_i_flipsTo p m h hm
    have hwl := wayK_len h hm
    rw [Int.toNat_natCast]
    simp only [ePr] at g1 g3 ⊢
    by_cases c0 : 0 ≤ farK p m
    · rw [if_pos c0] at g3
      rw [if_pos ⟨trivial, c0⟩]
      obtain ⟨L, hL⟩ : ∃ L, (wayK p m).map (flipOf p) = L := ⟨_, rfl⟩
      have hLl : L.length ≤ 600 := by rw [← hL, List.length_map]; exact hwl
      have hLw : ((wayK p m).map fun i => (flipOf p i).wire) = L.map Flip.wire := by rw [← hL, List.map_map]; rfl
      rw [hL] at g3
      rw [hLw]
      simp only [pv_t3, List.length_map, hw, g1, g2, g3, EVS]
      refine (foldLoop (R := PV) L (fun (acc : List Int) i => [.lst (acc.map pI), pI (Int.ofNat i)]) (fun i acc => acc.length = i) (fun (acc : List Int) _ f => .inl (acc ++ [f.wire])) (fun l => some (.tup [.lst (l.map pI), pB true])) _ (by omega) (fun acc i x acc' hi hf he => ?_) (fun again acc i x hi hf => ?_) (fun again acc hi => ?_) (b := []) rfl).trans (flwire_fold _ _ _ _)
      · cases he; simp [hi]
      · have hl := lt_of_some hf
        have p1 : plcV (L.map eFl) (.int .i64 (i : Int)) = some (.int .i64 (i : Int)) := plc_at (by rw [List.length_map]; exact hl)
        have q1 : (L.map eFl)[i]? = some (eFl x) := by rw [List.getElem?_map, hf]; rfl
        have hla : acc.length + [pI x.wire].length ≤ 4294967296 ∧ [pI x.wire].all (okEl 1) = true := ⟨by simp; omega, rfl⟩
        have hps : acc.map pI ++ [pI x.wire] = (acc ++ [x.wire]).map pI := by simp
        simp only [eFl] at q1
        simp only [lt_d hl, next_w hl (show L.length ≤ 9223372036854775807 by omega), p1, q1, eFl, Int.toNat_natCast, List.length_map, if_pos hla, hps, EVS]
      · simp only [ge_d, EVS]
    · rw [if_neg c0] at g3
      rw [if_neg (fun h => c0 h.2)]
      simp only [pv_t3, List.length_map, hw, g1, g2, g3, EVS]
      rfl
theorem sfP_len (p : ProdG) (k : Int) : (sfP p k).1.length ≤ 600 := by
  unfold sfP
  split
  · rename_i h
    obtain ⟨hp, m, rfl, hm⟩ := sfOk_at h.1
    rw [List.length_map, Int.toNat_natCast]
    exact wayK_len hp hm
  · simp
theorem sfP_in (p : ProdG) (k : Int) : ∀ x ∈ (sfP p k).1, 0 ≤ x ∧ x ≤ 23 := by
  unfold sfP
  split
  · rename_i h
    obtain ⟨hp, m, rfl, hm⟩ := sfOk_at h.1
    intro x hx
    obtain ⟨i, hi, rfl⟩ := List.mem_map.1 hx
    have hf := flip_get (p := p) (wayK_mem i hi)
    have := hp.fl _ (List.mem_of_getElem? hf)
    omega
  · intro x hx; simp at hx
end Go.Proofs.Ytmfplddmccggkaa

namespace Go.Proofs.Ytmfplddmccggkaa
open Go.RowKit
set_option linter.unusedVariables false
set_option linter.unusedSimpArgs false
def BdSignal (m : Nat) (a : List UInt8 × Int) : Prop := (a.1).length ≤ m
theorem sz_Signal (a : List UInt8 × Int) (l : Int) (hb : BdSignal 9223372036854775807 a) (h0 : 0 ≤ l) (h1 : l ≤ 1048576) : SzOk (s_w_szSignal [eSig a, pI l]) l (BdSignal 1048576 a) := by
  have b0 := hb
  unfold BdSignal at b0
  unfold BdSignal
  show SzOk ((fun x0 x1 => s_w_szSignal [x0, x1]) _ _) _ _
  rw [sh_w_szSignal]
  simp only [eSig, EVS]
  have w0 : IntKind.i64.wrap (l - (a.1.length : Int)) = (l - (a.1.length : Int)) := wrap_of (by omega) (by omega)
  simp only [w0, EVS]
  by_cases c0 : (l - (a.1.length : Int)) < 0
  · simp only [c0, EVS]; exact SzOk.neg h0
  simp only [c0, EVS]
  have q0 : 0 ≤ (l - (a.1.length : Int)) ∧ (l - (a.1.length : Int)) ≤ l := by omega
  exact SzOk.pos (by omega) (by omega)
theorem to_Signal (a : List UInt8 × Int) (hb : BdSignal 1048576 a) : s_w_toSignal [eSig a] = some (eSig a) := by
  have b0 := hb
  unfold BdSignal at b0
  show (fun x0 => s_w_toSignal [x0]) _ = _
  rw [sh_w_toSignal]
  simp only [eSig, EVS]
theorem eq_Signal (a : List UInt8 × Int) (hb : BdSignal 9223372036854775807 a) : s_w_eqSignal [eSig a, eSig a] = some (pB true) := by
  have b0 := hb
  unfold BdSignal at b0
  show (fun x0 x1 => s_w_eqSignal [x0, x1]) _ _ = _
  rw [sh_w_eqSignal]
  simp only [eSig, beq_self_eq_true, EVS]
theorem sz_SignalS (xs : List (List UInt8 × Int)) (l : Int) (hb : ((xs).length ≤ 9223372036854775807 ∧ ∀ x ∈ xs, BdSignal 9223372036854775807 x)) (h0 : 0 ≤ l) (h1 : l ≤ 1048576) : SzOk (s_w_szSignalS [.lst (xs.map eSig), pI l]) l (((xs).length ≤ 1048576 ∧ ∀ x ∈ xs, BdSignal 1048576 x)) := by
  have hx : xs.length ≤ 9223372036854775807 := hb.1
  show SzOk ((fun x0 x1 => s_w_szSignalS [x0, x1]) _ _) _ _
  rw [sh_w_szSignalS]
  have w1 : IntKind.i64.wrap (l - (xs.length : Int)) = l - (xs.length : Int) := wrap_of (by omega) (by omega)
  simp only [w1, List.length_map, EVS]
  by_cases c : l - (xs.length : Int) < 0
  · simp only [c, EVS]; exact SzOk.neg h0
  · simp only [c, EVS]
    refine (SzOk.sc (szLoop xs (fun x => BdSignal 1048576 x) _ hx (fun again k x l' hk h2 h3 => ?_) (fun again l' => ?_) (by omega) (by omega))).mono (by omega) (fun h => ⟨by omega, h⟩)
    · have hi : idxV (.lst (xs.map eSig)) (.int .i64 (k : Int)) = some ((eSig x)) := idx_map hk
      obtain ⟨r, g1, g2, g3⟩ := sz_Signal x l' (hb.2 x (List.mem_of_getElem? hk)) h2 h3
      refine ⟨r, g2, g3, ?_⟩
      simp only [eSig] at g1 hi
      simp only [lt_d (lt_of_some hk), next_w (lt_of_some hk) hx, hi, g1, EVS]
      by_cases c2 : r < 0 <;> simp only [c2, EVS]
    · simp only [ge_d, EVS]
theorem to_SignalS (xs : List (List UInt8 × Int)) (hb : ((xs).length ≤ 1048576 ∧ ∀ x ∈ xs, BdSignal 1048576 x)) : s_w_toSignalS [.lst (xs.map eSig)] = some (.lst (xs.map eSig)) := by
  have hx : xs.length ≤ 1048576 := hb.1
  show (fun x0 => s_w_toSignalS [x0]) _ = _
  rw [sh_w_toSignalS]
  simp only [mk_v _ _ (show xs.length ≤ 4294967296 by omega), List.length_map, EVS]
  refine toLoop xs eSig 2 _ _ (by omega) ?_ (fun _ => ?_) (fun _ => ?_) (fun again k x row el hk hl he hs => ?_) (fun again row => ?_)
  · rfl
  · rfl
  · exact ⟨fun _ => ⟨_, rfl⟩, fun _ => ⟨_, rfl⟩⟩
  · have hi : idxV (.lst (xs.map eSig)) (.int .i64 (k : Int)) = some ((eSig x)) := idx_map hk
    have hkr : k < row.length := by rw [hl]; exact lt_of_some hk
    have g1 := to_Signal x (hb.2 x (List.mem_of_getElem? hk))
    simp only [eSig] at g1 hi hs
    simp only [eSig, lt_d (lt_of_some hk), next_w (lt_of_some hk) (show xs.length ≤ 9223372036854775807 by omega), hi, g1, plc_at hkr, he, hs, EVS]
  · simp only [ge_d, EVS]
theorem eq_SignalS (xs : List (List UInt8 × Int)) (hb : ((xs).length ≤ 9223372036854775807 ∧ ∀ x ∈ xs, BdSignal 9223372036854775807 x)) : s_w_eqSignalS [.lst (xs.map eSig), .lst (xs.map eSig)] = some (pB true) := by
  have hx : xs.length ≤ 9223372036854775807 := hb.1
  show (fun x0 x1 => s_w_eqSignalS [x0, x1]) _ _ = _
  rw [sh_w_eqSignalS]
  simp only [List.length_map, EVS]
  refine (congrArg (fun m : Option PV => m.bind fun r => if r.sc = true then some r else none) (rangeAll (R := PV) xs (fun _ _ => true) (some (pB false)) (some (pB true)) _ hx (fun again k x hk => ?_) (fun again => ?_))).trans ?_
  · have hi : idxV (.lst (xs.map eSig)) (.int .i64 (k : Int)) = some ((eSig x)) := idx_map hk
    have g1 := eq_Signal x (hb.2 x (List.mem_of_getElem? hk))
    simp only [eSig] at g1 hi
    simp only [lt_d (lt_of_some hk), next_w (lt_of_some hk) hx, hi, g1, EVS]
  · simp only [ge_d, EVS]
  · rw [show allK (fun (_ : Nat) (_ : List UInt8 × Int) => true) 0 xs = true from allK_true xs 0]; rfl
theorem to_Pin (a : Int × Bool) : s_w_toPin [ePin a] = some (ePin a) := by
  show (fun x0 => s_w_toPin [x0]) _ = _
  rw [sh_w_toPin]
  simp only [ePin, EVS]
theorem eq_Pin (a : Int × Bool) : s_w_eqPin [ePin a, ePin a] = some (pB true) := by
  show (fun x0 x1 => s_w_eqPin [x0, x1]) _ _ = _
  rw [sh_w_eqPin]
  simp only [ePin, beq_self_eq_true, EVS]
theorem sz_PinS (xs : List (Int × Bool)) (l : Int) (hb : (xs).length ≤ 9223372036854775807) (h0 : 0 ≤ l) (h1 : l ≤ 1048576) : SzOk (s_w_szPinS [.lst (xs.map ePin), pI l]) l ((xs).length ≤ 1048576) := by
  have hx : xs.length ≤ 9223372036854775807 := hb
  show SzOk ((fun x0 x1 => s_w_szPinS [x0, x1]) _ _) _ _
  rw [sh_w_szPinS]
  have w1 : IntKind.i64.wrap (l - (xs.length : Int)) = l - (xs.length : Int) := wrap_of (by omega) (by omega)
  simp only [w1, List.length_map, EVS]
  by_cases c : l - (xs.length : Int) < 0
  · simp only [c, EVS]; exact SzOk.neg h0
  · simp only [c, EVS]; exact SzOk.pos (by omega) (by omega)
theorem to_PinS (xs : List (Int × Bool)) (hb : (xs).length ≤ 1048576) : s_w_toPinS [.lst (xs.map ePin)] = some (.lst (xs.map ePin)) := by
  have hx : xs.length ≤ 1048576 := hb
  show (fun x0 => s_w_toPinS [x0]) _ = _
  rw [sh_w_toPinS]
  simp only [mk_v _ _ (show xs.length ≤ 4294967296 by omega), List.length_map, EVS]
  refine toLoop xs ePin 2 _ _ (by omega) ?_ (fun _ => ?_) (fun _ => ?_) (fun again k x row el hk hl he hs => ?_) (fun again row => ?_)
  · rfl
  · rfl
  · exact ⟨fun _ => ⟨_, rfl⟩, fun _ => ⟨_, rfl⟩⟩
  · have hi : idxV (.lst (xs.map ePin)) (.int .i64 (k : Int)) = some ((ePin x)) := idx_map hk
    have hkr : k < row.length := by rw [hl]; exact lt_of_some hk
    have g1 := to_Pin x
    simp only [ePin] at g1 hi hs
    simp only [ePin, lt_d (lt_of_some hk), next_w (lt_of_some hk) (show xs.length ≤ 9223372036854775807 by omega), hi, g1, plc_at hkr, he, hs, EVS]
  · simp only [ge_d, EVS]
theorem eq_PinS (xs : List (Int × Bool)) (hb : (xs).length ≤ 9223372036854775807) : s_w_eqPinS [.lst (xs.map ePin), .lst (xs.map ePin)] = some (pB true) := by
  have hx : xs.length ≤ 9223372036854775807 := hb
  show (fun x0 x1 => s_w_eqPinS [x0, x1]) _ _ = _
  rw [sh_w_eqPinS]
  simp only [List.length_map, EVS]
  refine (congrArg (fun m : Option PV => m.bind fun r => if r.sc = true then some r else none) (rangeAll (R := PV) xs (fun _ _ => true) (some (pB false)) (some (pB true)) _ hx (fun again k x hk => ?_) (fun again => ?_))).trans ?_
  · have hi : idxV (.lst (xs.map ePin)) (.int .i64 (k : Int)) = some ((ePin x)) := idx_map hk
    have g1 := eq_Pin x
    simp only [ePin] at g1 hi
    simp only [lt_d (lt_of_some hk), next_w (lt_of_some hk) hx, hi, g1, EVS]
  · simp only [ge_d, EVS]
  · rw [show allK (fun (_ : Nat) (_ : Int × Bool) => true) 0 xs = true from allK_true xs 0]; rfl
theorem sz_StringS (xs : List (List UInt8)) (l : Int) (hb : ((xs).length ≤ 9223372036854775807 ∧ ∀ x ∈ xs, (x).length ≤ 9223372036854775807)) (h0 : 0 ≤ l) (h1 : l ≤ 1048576) : SzOk (s_w_szStringS [.lst (xs.map PV.str), pI l]) l (((xs).length ≤ 1048576 ∧ ∀ x ∈ xs, (x).length ≤ 1048576)) := by
  have hx : xs.length ≤ 9223372036854775807 := hb.1
  show SzOk ((fun x0 x1 => s_w_szStringS [x0, x1]) _ _) _ _
  rw [sh_w_szStringS]
  have w1 : IntKind.i64.wrap (l - (xs.length : Int)) = l - (xs.length : Int) := wrap_of (by omega) (by omega)
  simp only [w1, List.length_map, EVS]
  by_cases c : l - (xs.length : Int) < 0
  · simp only [c, EVS]; exact SzOk.neg h0
  · simp only [c, EVS]
    refine (SzOk.sc (szLoop xs (fun x => (x).length ≤ 1048576) _ hx (fun again k x l' hk h2 h3 => ?_) (fun again l' => ?_) (by omega) (by omega))).mono (by omega) (fun h => ⟨by omega, h⟩)
    · have hi : idxV (.lst (xs.map PV.str)) (.int .i64 (k : Int)) = some ((.str x)) := idx_map hk
      have hxl := hb.2 x (List.mem_of_getElem? hk)
      have w2 : IntKind.i64.wrap (l' - (x.length : Int)) = l' - (x.length : Int) := wrap_of (by omega) (by omega)
      refine ⟨l' - (x.length : Int), by omega, fun h => by omega, ?_⟩
      simp only [lt_d (lt_of_some hk), next_w (lt_of_some hk) hx, hi, w2, EVS]
      by_cases c2 : l' - (x.length : Int) < 0 <;> simp only [c2, EVS]
    · simp only [ge_d, EVS]
theorem to_StringS (xs : List (List UInt8)) (hb : ((xs).length ≤ 1048576 ∧ ∀ x ∈ xs, (x).length ≤ 1048576)) : s_w_toStringS [.lst (xs.map PV.str)] = some (.lst (xs.map PV.str)) := by
  have hx : xs.length ≤ 1048576 := hb.1
  show (fun x0 => s_w_toStringS [x0]) _ = _
  rw [sh_w_toStringS]
  simp only [mk_v _ _ (show xs.length ≤ 4294967296 by omega), List.length_map, EVS]
  refine toLoop xs PV.str 1 _ _ (by omega) ?_ (fun _ => ?_) (fun _ => ?_) (fun again k x row el hk hl he hs => ?_) (fun again row => ?_)
  · rfl
  · rfl
  · constructor <;> (rintro ⟨l, h⟩; cases h)
  · have hi : idxV (.lst (xs.map PV.str)) (.int .i64 (k : Int)) = some ((.str x)) := idx_map hk
    have hkr : k < row.length := by rw [hl]; exact lt_of_some hk
    simp only [lt_d (lt_of_some hk), next_w (lt_of_some hk) (show xs.length ≤ 9223372036854775807 by omega), hi, plc_at hkr, he, hs, EVS]
  · simp only [ge_d, EVS]
theorem eq_StringS (xs : List (List UInt8)) (hb : ((xs).length ≤ 9223372036854775807 ∧ ∀ x ∈ xs, (x).length ≤ 9223372036854775807)) : s_w_eqStringS [.lst (xs.map PV.str), .lst (xs.map PV.str)] = some (pB true) := by
  have hx : xs.length ≤ 9223372036854775807 := hb.1
  show (fun x0 x1 => s_w_eqStringS [x0, x1]) _ _ = _
  rw [sh_w_eqStringS]
  simp only [List.length_map, EVS]
  refine (congrArg (fun m : Option PV => m.bind fun r => if r.sc = true then some r else none) (rangeAll (R := PV) xs (fun _ _ => true) (some (pB false)) (some (pB true)) _ hx (fun again k x hk => ?_) (fun again => ?_))).trans ?_
  · have hi : idxV (.lst (xs.map PV.str)) (.int .i64 (k : Int)) = some ((.str x)) := idx_map hk
    simp only [lt_d (lt_of_some hk), next_w (lt_of_some hk) hx, hi, beq_self_eq_true, EVS]
  · simp only [ge_d, EVS]
  · rw [show allK (fun (_ : Nat) (_ : List UInt8) => true) 0 xs = true from allK_true xs 0]; rfl
def BdWire (m : Nat) (a : PWire) : Prop := (a.name).length ≤ m ∧ (a.ins).length ≤ m ∧ ((a.cover).length ≤ m ∧ ∀ x ∈ a.cover, (x).length ≤ m)
theorem sz_Wire (a : PWire) (l : Int) (hb : BdWire 9223372036854775807 a) (h0 : 0 ≤ l) (h1 : l ≤ 1048576) : SzOk (s_w_szWire [eWire a, pI l]) l (BdWire 1048576 a) := by
  obtain ⟨b0, b1, b2⟩ := hb
  unfold BdWire
  show SzOk ((fun x0 x1 => s_w_szWire [x0, x1]) _ _) _ _
  rw [sh_w_szWire]
  simp only [eWire, EVS]
  have w0 : IntKind.i64.wrap (l - (a.name.length : Int)) = (l - (a.name.length : Int)) := wrap_of (by omega) (by omega)
  simp only [w0, EVS]
  by_cases c0 : (l - (a.name.length : Int)) < 0
  · simp only [c0, EVS]; exact SzOk.neg h0
  simp only [c0, EVS]
  have q0 : 0 ≤ (l - (a.name.length : Int)) ∧ (l - (a.name.length : Int)) ≤ l := by omega
  obtain ⟨r1, g1, y1, z1⟩ := sz_PinS a.ins (l - (a.name.length : Int)) b1 (by omega) (by omega)
  try simp only [g1, EVS]
  by_cases c1 : r1 < 0
  · simp only [g1, c1, EVS]; exact SzOk.neg h0
  try simp only [g1, c1, EVS]
  have q1 : 0 ≤ r1 ∧ r1 ≤ l := by omega
  obtain ⟨r2, g2, y2, z2⟩ := sz_StringS a.cover r1 b2 (by omega) (by omega)
  try simp only [g2, EVS]
  by_cases c2 : r2 < 0
  · simp only [g2, c2, EVS]; exact SzOk.neg h0
  try simp only [g2, c2, EVS]
  have q2 : 0 ≤ r2 ∧ r2 ≤ l := by omega
  exact SzOk.pos (by omega) ⟨(by omega), (z1 (by omega)), (z2 (by omega))⟩
theorem to_Wire (a : PWire) (hb : BdWire 1048576 a) : s_w_toWire [eWire a] = some (eWire a) := by
  obtain ⟨b0, b1, b2⟩ := hb
  have g0 := to_PinS a.ins b1
  have g1 := to_StringS a.cover b2
  show (fun x0 => s_w_toWire [x0]) _ = _
  rw [sh_w_toWire]
  simp only [eWire, g0, g1, EVS]
theorem eq_Wire (a : PWire) (hb : BdWire 9223372036854775807 a) : s_w_eqWire [eWire a, eWire a] = some (pB true) := by
  obtain ⟨b0, b1, b2⟩ := hb
  have g0 := eq_PinS a.ins b1
  have g1 := eq_StringS a.cover b2
  show (fun x0 x1 => s_w_eqWire [x0, x1]) _ _ = _
  rw [sh_w_eqWire]
  simp only [eWire, g0, g1, beq_self_eq_true, EVS]
theorem sz_WireS (xs : List (PWire)) (l : Int) (hb : ((xs).length ≤ 9223372036854775807 ∧ ∀ x ∈ xs, BdWire 9223372036854775807 x)) (h0 : 0 ≤ l) (h1 : l ≤ 1048576) : SzOk (s_w_szWireS [.lst (xs.map eWire), pI l]) l (((xs).length ≤ 1048576 ∧ ∀ x ∈ xs, BdWire 1048576 x)) := by
  have hx : xs.length ≤ 9223372036854775807 := hb.1
  show SzOk ((fun x0 x1 => s_w_szWireS [x0, x1]) _ _) _ _
  rw [sh_w_szWireS]
  have w1 : IntKind.i64.wrap (l - (xs.length : Int)) = l - (xs.length : Int) := wrap_of (by omega) (by omega)
  simp only [w1, List.length_map, EVS]
  by_cases c : l - (xs.length : Int) < 0
  · simp only [c, EVS]; exact SzOk.neg h0
  · simp only [c, EVS]
    refine (SzOk.sc (szLoop xs (fun x => BdWire 1048576 x) _ hx (fun again k x l' hk h2 h3 => ?_) (fun again l' => ?_) (by omega) (by omega))).mono (by omega) (fun h => ⟨by omega, h⟩)
    · have hi : idxV (.lst (xs.map eWire)) (.int .i64 (k : Int)) = some ((eWire x)) := idx_map hk
      obtain ⟨r, g1, g2, g3⟩ := sz_Wire x l' (hb.2 x (List.mem_of_getElem? hk)) h2 h3
      refine ⟨r, g2, g3, ?_⟩
      simp only [eWire] at g1 hi
      simp only [lt_d (lt_of_some hk), next_w (lt_of_some hk) hx, hi, g1, EVS]
      by_cases c2 : r < 0 <;> simp only [c2, EVS]
    · simp only [ge_d, EVS]
theorem to_WireS (xs : List (PWire)) (hb : ((xs).length ≤ 1048576 ∧ ∀ x ∈ xs, BdWire 1048576 x)) : s_w_toWireS [.lst (xs.map eWire)] = some (.lst (xs.map eWire)) := by
  have hx : xs.length ≤ 1048576 := hb.1
  show (fun x0 => s_w_toWireS [x0]) _ = _
  rw [sh_w_toWireS]
  simp only [mk_v _ _ (show xs.length ≤ 4294967296 by omega), List.length_map, EVS]
  refine toLoop xs eWire 4 _ _ (by omega) ?_ (fun _ => ?_) (fun _ => ?_) (fun again k x row el hk hl he hs => ?_) (fun again row => ?_)
  · rfl
  · rfl
  · exact ⟨fun _ => ⟨_, rfl⟩, fun _ => ⟨_, rfl⟩⟩
  · have hi : idxV (.lst (xs.map eWire)) (.int .i64 (k : Int)) = some ((eWire x)) := idx_map hk
    have hkr : k < row.length := by rw [hl]; exact lt_of_some hk
    have g1 := to_Wire x (hb.2 x (List.mem_of_getElem? hk))
    simp only [eWire] at g1 hi hs
    simp only [eWire, lt_d (lt_of_some hk), next_w (lt_of_some hk) (show xs.length ≤ 9223372036854775807 by omega), hi, g1, plc_at hkr, he, hs, EVS]
  · simp only [ge_d, EVS]
theorem eq_WireS (xs : List (PWire)) (hb : ((xs).length ≤ 9223372036854775807 ∧ ∀ x ∈ xs, BdWire 9223372036854775807 x)) : s_w_eqWireS [.lst (xs.map eWire), .lst (xs.map eWire)] = some (pB true) := by
  have hx : xs.length ≤ 9223372036854775807 := hb.1
  show (fun x0 x1 => s_w_eqWireS [x0, x1]) _ _ = _
  rw [sh_w_eqWireS]
  simp only [List.length_map, EVS]
  refine (congrArg (fun m : Option PV => m.bind fun r => if r.sc = true then some r else none) (rangeAll (R := PV) xs (fun _ _ => true) (some (pB false)) (some (pB true)) _ hx (fun again k x hk => ?_) (fun again => ?_))).trans ?_
  · have hi : idxV (.lst (xs.map eWire)) (.int .i64 (k : Int)) = some ((eWire x)) := idx_map hk
    have g1 := eq_Wire x (hb.2 x (List.mem_of_getElem? hk))
    simp only [eWire] at g1 hi
    simp only [lt_d (lt_of_some hk), next_w (lt_of_some hk) hx, hi, g1, EVS]
  · simp only [ge_d, EVS]
  · rw [show allK (fun (_ : Nat) (_ : PWire) => true) 0 xs = true from allK_true xs 0]; rfl
def BdNetlist (m : Nat) (a : PNet) : Prop := ((a.signals).length ≤ m ∧ ∀ x ∈ a.signals, BdSignal m x) ∧ ((a.wires).length ≤ m ∧ ∀ x ∈ a.wires, BdWire m x)
theorem sz_Netlist (a : PNet) (l : Int) (hb : BdNetlist 9223372036854775807 a) (h0 : 0 ≤ l) (h1 : l ≤ 1048576) : SzOk (s_w_szNetlist [eNet a, pI l]) l (BdNetlist 1048576 a) := by
  obtain ⟨b0, b1⟩ := hb
  unfold BdNetlist
  show SzOk ((fun x0 x1 => s_w_szNetlist [x0, x1]) _ _) _ _
  rw [sh_w_szNetlist]
  simp only [eNet, EVS]
  obtain ⟨r0, g0, y0, z0⟩ := sz_SignalS a.signals l b0 (by omega) (by omega)
  try simp only [g0, EVS]
  by_cases c0 : r0 < 0
  · simp only [g0, c0, EVS]; exact SzOk.neg h0
  try simp only [g0, c0, EVS]
  have q0 : 0 ≤ r0 ∧ r0 ≤ l := by omega
  obtain ⟨r1, g1, y1, z1⟩ := sz_WireS a.wires r0 b1 (by omega) (by omega)
  try simp only [g1, EVS]
  by_cases c1 : r1 < 0
  · simp only [g1, c1, EVS]; exact SzOk.neg h0
  try simp only [g1, c1, EVS]
  have q1 : 0 ≤ r1 ∧ r1 ≤ l := by omega
  exact SzOk.pos (by omega) ⟨(z0 (by omega)), (z1 (by omega))⟩
theorem to_Netlist (a : PNet) (hb : BdNetlist 1048576 a) : s_w_toNetlist [eNet a] = some (eNet a) := by
  obtain ⟨b0, b1⟩ := hb
  have g0 := to_SignalS a.signals b0
  have g1 := to_WireS a.wires b1
  show (fun x0 => s_w_toNetlist [x0]) _ = _
  rw [sh_w_toNetlist]
  simp only [eNet, g0, g1, EVS]
theorem eq_Netlist (a : PNet) (hb : BdNetlist 9223372036854775807 a) : s_w_eqNetlist [eNet a, eNet a] = some (pB true) := by
  obtain ⟨b0, b1⟩ := hb
  have g0 := eq_SignalS a.signals b0
  have g1 := eq_WireS a.wires b1
  show (fun x0 x1 => s_w_eqNetlist [x0, x1]) _ _ = _
  rw [sh_w_eqNetlist]
  simp only [eNet, g0, g1, beq_self_eq_true, EVS]
end Go.Proofs.Ytmfplddmccggkaa

namespace Go.Proofs.Ytmfplddmccggkaa
open Go.RowKit
set_option linter.unusedVariables false
set_option linter.unusedSimpArgs false
theorem PNet.fit_of {n : PNet} (h : BdNetlist 9223372036854775807 n) : n.Fit := by
  obtain ⟨⟨h1, h2⟩, h3, h4⟩ := h
  exact ⟨h1, fun s hs => h2 s hs, h3, fun w hw => ⟨(h4 w hw).1, (h4 w hw).2.1, (h4 w hw).2.2.1, (h4 w hw).2.2.2⟩⟩
end Go.Proofs.Ytmfplddmccggkaa

namespace Go.Proofs.Ytmfplddmccggkaa
open Go.RowKit
set_option linter.unusedVariables false
set_option linter.unusedSimpArgs false
def mostP : Int → List PWire → Int
  | m, [] => m
  | m, w :: r => mostP (if m < (w.ins.length : Int) then (w.ins.length : Int) else m) r
theorem fold_most : ∀ (l : List PWire) (k : Nat) (m : Int), foldGo (R := PV) (fun (m : Int) _ (w : PWire) => .inl (if m < (w.ins.length : Int) then (w.ins.length : Int) else m)) (fun m => some (pI m)) k m l = some (pI (mostP m l))
  | [], k, m => rfl
  | w :: r, k, m => by
    unfold foldGo mostP
    exact fold_most r (k + 1) _
theorem fold_most2 : ∀ (l : List PWire) (k : Nat) (m : Int), foldGo (R := PV) (fun (m : Int) _ (w : PWire) => .inl (if m < (w.ins.length : Int) then (w.ins.length : Int) else m)) (fun m => some (.tup [pI m, pB true])) k m l = some (.tup [pI (mostP m l), pB true])
  | [], k, m => rfl
  | w :: r, k, m => by
    unfold foldGo mostP
    exact fold_most2 r (k + 1) _
end Go.Proofs.Ytmfplddmccggkaa

namespace Go.Proofs.Ytmfplddmccggkaa
open Go.RowKit
set_option linter.unusedVariables false
set_option linter.unusedSimpArgs false
def nextAt (n : PNet) (v : List UInt8) (k : Nat) : Bool := match n.wires[k]? with | some w => nextP n v k w | none => false
def settleGo (n : PNet) : Nat → Nat → List UInt8 → List UInt8
  | 0, _, v => v
  | c + 1, k, v => settleGo n c (k + 1) (v.set k (bitU (nextAt n v k)))
def settleP (n : PNet) (code : List UInt8) : List UInt8 := settleGo n (n.wires.length - n.signals.length) n.signals.length (code ++ List.replicate (n.wires.length - n.signals.length) 48)
theorem netP_size {n : PNet} (h : netP n = true) : n.signals.length ≤ n.wires.length ∧ n.wires.length ≤ 24 := by
  unfold netP at h
  simp only [Bool.and_eq_true, Bool.not_eq_true', decide_eq_false_iff_not] at h
  omega
theorem at_next {n : PNet} {v : List UInt8} {k : Nat} (hn : n.Fit) (hv : netP n = true) (hb : bitsP v n.wires.length = true) (hk : k < n.wires.length) : At n v k n.wires[k] ∧ nextP n v k n.wires[k] = nextAt n v k := by
  have hl := (bitsP_iff.1 hb).2
  refine ⟨at_of n v k hn (by unfold Fits; have := (netP_size hv).2; omega) (by unfold valuesP; rw [hv, hb]; rfl) hk, ?_⟩
  unfold nextAt
  rw [List.getElem?_eq_getElem hk]
end Go.Proofs.Ytmfplddmccggkaa

namespace Go.Proofs.Ytmfplddmccggkaa
open Go.RowKit
set_option linter.unusedVariables false
set_option linter.unusedSimpArgs false
/-! FORMATTED FLIPS, both sides. -/
def sgnB (v : List UInt8) (k : Nat) : UInt8 := if (match v[k]? with | some b => decide ((b.toNat : Int) = 49) | none => false) = true then 43 else 45
def nameAt (n : PNet) (k : Nat) : List UInt8 := match n.wires[k]? with | some w => w.name | none => []
def wordAt (n : PNet) (v : List UInt8) (k : Nat) : List UInt8 := nameAt n k ++ [sgnB v k]
theorem join_snoc (sep : List UInt8) (l : List (List UInt8)) (x : List UInt8) : Lib.join (l ++ [x]) sep = match l with | [] => x | _ => Lib.join l sep ++ sep ++ x := by
  cases l with
  | nil => simp [Lib.join_one]
  | cons a r =>
    simp only [List.cons_append, Lib.join_cons, Lib.joinTail, List.map_append, List.flatten_append, List.map_cons, List.map_nil, List.flatten_cons, List.flatten_nil, List.append_nil, List.append_assoc]
theorem join_le (l : List (List UInt8)) (h : ∀ x ∈ l, x.length ≤ 7) : (Lib.join l [32]).length ≤ 8 * l.length := by
  cases l with
  | nil => simp [Lib.join_nil]
  | cons a r =>
    rw [Lib.join_cons]
    have h1 := h a List.mem_cons_self
    have h2 : (Lib.joinTail [32] r).length ≤ 8 * r.length := by
      have hr : ∀ x ∈ r, x.length ≤ 7 := fun x hx => h x (List.mem_cons_of_mem _ hx)
      clear h
      induction r with
      | nil => simp [Lib.joinTail]
      | cons b r ih =>
        have := ih fun x hx => hr x (List.mem_cons_of_mem _ hx)
        have hb := hr b List.mem_cons_self
        unfold Lib.joinTail at this ⊢
        simp only [List.map_cons, List.flatten_cons, List.length_append, List.length_cons, List.length_nil] at this ⊢
        omega
    simp only [List.length_append, List.length_cons]
    omega
theorem allK_get {α : Type} (q : Nat → α → Bool) : ∀ (l : List α) (j i : Nat) (x : α), allK q j l = true → l[i]? = some x → q (j + i) x = true
  | [], j, i, x, h, hx => by simp at hx
  | a :: l, j, 0, x, h, hx => by
    unfold allK at h
    rw [Bool.and_eq_true] at h
    simp at hx
    subst hx
    exact h.1
  | a :: l, j, i + 1, x, h, hx => by
    unfold allK at h
    rw [Bool.and_eq_true] at h
    have := allK_get q l (j + 1) i x h.2 (by simpa using hx)
    rw [show j + (i + 1) = j + 1 + i by omega]
    exact this
theorem name_len {n : PNet} (hv : netP n = true) (k : Nat) : (nameAt n k).length ≤ 6 := by
  unfold nameAt
  cases hw : n.wires[k]? with
  | none => simp
  | some w =>
    unfold netP at hv
    simp only [Bool.and_eq_true] at hv
    have := allK_get _ _ _ _ _ hv.2 hw
    unfold netWireOk wireP isNameP at this
    simp only [Bool.and_eq_true, decide_eq_true_eq] at this
    show w.name.length ≤ 6
    omega
theorem word_len {n : PNet} (hv : netP n = true) (v : List UInt8) (k : Nat) : (wordAt n v k).length ≤ 7 := by
  have := name_len hv k
  unfold wordAt
  rw [List.length_append, List.length_singleton]
  omega
theorem p_r_l20Name (n : PNet) (k : Nat) (v : List UInt8) (hv : netP n = true) (hk : k < n.wires.length) (hl : v.length = n.wires.length) : s_r_l20Name [eNet n, pI (k : Int), .str v] = some (.str (wordAt n v k)) := by
  have hb : byteV (.str v) (.int .i64 (k : Int)) = some (pU v[k]) := byteV_at (List.getElem?_eq_getElem (by omega))
  have hw : idxV (.lst (n.wires.map eWire)) (.int .i64 (k : Int)) = some (eWire n.wires[k]) := idx_map (List.getElem?_eq_getElem hk)
  have hn : nameAt n k = n.wires[k].name := by unfold nameAt; rw [List.getElem?_eq_getElem hk]
  have hnl := name_len hv k
  rw [hn] at hnl
  have ha : ∀ b : UInt8, binV .add TD.str (.str n.wires[k].name) (.str [b]) = some (.str (n.wires[k].name ++ [b])) := fun b => bs_add (by simp; omega)
  show (fun x0 x1 x2 => s_r_l20Name [x0, x1, x2]) _ _ _ = _
  rw [sh_r_l20Name]
  unfold wordAt sgnB
  rw [hn, List.getElem?_eq_getElem (show k < v.length by omega)]
  cases c : decide ((v[k].toNat : Int) = 49) <;> simp only [eNet, hb, hw, c, eWire, List.drop_zero, ha, EVS] <;> rfl
def toSt (p : ProdG) (f : Flip) : PSt := p.states.getD f.to.toNat ⟨0, []⟩
def okF (n : PNet) (p : ProdG) (f : Flip) : Bool := !decide ((n.wires.length : Int) ≤ f.wire) && bitsP (toSt p f).values n.wires.length
def wordF (n : PNet) (p : ProdG) (f : Flip) : List UInt8 := wordAt n (toSt p f).values f.wire.toNat
theorem toSt_get {p : ProdG} (h : PrOk p) {f : Flip} (hf : f ∈ p.flips) : p.states[f.to.toNat]? = some (toSt p f) := by
  have := h.fl f hf
  unfold toSt
  rw [List.getD_eq_getElem?_getD, List.getElem?_eq_getElem (by omega)]
  rfl
def ffOk (n : PNet) (p : ProdG) (k : Int) : Bool := netP n && sfOk p k
def ffP (n : PNet) (p : ProdG) (k : Int) : List UInt8 × Bool :=
  if ffOk n p k = true ∧ 0 ≤ farK p k.toNat ∧ (((wayK p k.toNat).map (flipOf p)).all (okF n p)) = true then (Lib.join (((wayK p k.toNat).map (flipOf p)).map (wordF n p)) [32], true) else ([], false)
theorem ff_fold {R α : Type} (ok : α → Bool) (wd : α → List UInt8) (z : Option R) (e : List (List UInt8) → Option R) : ∀ (l : List α) (i : Nat) (acc : List (List UInt8)), foldGo (fun (acc : List (List UInt8)) (_ : Nat) (f : α) => if ok f = true then .inl (acc ++ [wd f]) else .inr z) e i acc l = if (l.all ok) = true then e (acc ++ l.map wd) else z
  | [], i, acc => by simp [foldGo]
  | f :: l, i, acc => by
    unfold foldGo
    cases c : ok f
    · simp [c]
    · simp only [if_true]
      rw [ff_fold ok wd z e l]
      simp [c, List.append_assoc]
theorem ffOk_at {n : PNet} {p : ProdG} {k : Int} (h : ffOk n p k = true) : netP n = true ∧ PrOk p ∧ ∃ m : Nat, k = m ∧ m < p.states.length := by
  unfold ffOk at h
  rw [Bool.and_eq_true] at h
  exact ⟨h.1, sfOk_at h.2⟩
theorem at_i_FormatFlips (n : PNet) (p : ProdG) (k : Int) (hn : n.Fit) (hp : PrFit p) : s_i_FormatFlips [eNet n, ePr p, pI k] = some (.tup [.str (ffP n p k).1, pB (ffP n p k).2]) := by
  have g0 := p_i_IsValidNetlist n hn
  rw [← net_eq] at g0
  have g1 := p_i_isProduct p hp
  have g2 := p_i_within k 0 ((p.states.length : Int) - 1)
  have hst := hp.states
  unfold Fits at hst
  have hw : IntKind.i64.wrap ((p.states.length : Int) - 1) = (p.states.length : Int) - 1 := wrap_of (by omega) (by omega)
  show (fun x0 x1 x2 => s_i_FormatFlips [x0, x1, x2]) _ _ _ = _
  rw [sh_i_FormatFlips]
  unfold ffP
  cases hok : ffOk n p k
  · rw [if_neg (by simp)]
    unfold ffOk sfOk at hok
    simp only [ePr, eNet] at g0 g1 ⊢
    cases c0 : netP n
    · rw [c0] at g0; simp only [pv_t2, pv_t3, g0, EVS]; rfl
    cases c1 : prodP p
    · rw [c0] at g0; rw [c1] at g1; simp only [pv_t2, pv_t3, g0, g1, EVS]; rfl
    · rw [c0] at g0
      rw [c1] at g1
      rw [c0, c1, Bool.true_and, Bool.true_and] at hok
      rw [hok] at g2
      simp only [pv_t2, pv_t3, List.length_map, hw, g0, g1, g2, EVS]; rfl
  · obtain ⟨c0, h, m, rfl, hm⟩ := ffOk_at hok
    unfold ffOk sfOk at hok
    simp only [Bool.and_eq_true] at hok
    rw [c0] at g0
    rw [hok.2.1] at g1
    rw [hok.2.2] at g2
    have g3 := p_i_flipsTo p m h hm
    have hwl := wayK_len h hm
    have hn24 := (netP_size c0).2
    rw [Int.toNat_natCast]
    simp only [ePr, eNet] at g0 g1 g3 ⊢
    by_cases cf : 0 ≤ farK p m
    · rw [if_pos cf] at g3
      obtain ⟨L, hL⟩ : ∃ L, (wayK p m).map (flipOf p) = L := ⟨_, rfl⟩
      have hLl : L.length ≤ 600 := by rw [← hL, List.length_map]; exact hwl
      have hLm : ∀ f ∈ L, f ∈ p.flips := fun f hf => by
        rw [← hL] at hf
        obtain ⟨i, hi, rfl⟩ := List.mem_map.1 hf
        exact List.mem_of_getElem? (flip_get (wayK_mem i hi))
      rw [hL] at g3 ⊢
      simp only [pv_t2, pv_t3, List.length_map, hw, g0, g1, g2, g3, EVS]
      refine (congrArg (fun m : Option PV => m.bind fun r => if r.sc = true then some r else none) ((foldLoop (R := PV) L (fun (acc : List (List UInt8)) i => [.lst (acc.map PV.str), pI (Int.ofNat i)]) (fun i acc => acc.length = i ∧ ∀ x ∈ acc, x.length ≤ 7) (fun (acc : List (List UInt8)) _ f => if okF n p f = true then .inl (acc ++ [wordF n p f]) else .inr (some (.tup [.str [], pB false]))) (fun l => some (.tup [.str (Lib.join l [32]), pB true])) _ (by omega) (fun acc i x acc' hi hf he => ?_) (fun again acc i x hi hf => ?_) (fun again acc hi => ?_) (b := []) ⟨rfl, by simp⟩).trans (ff_fold _ _ _ _ _ _ _))).trans ?_
      · split at he
        · cases he
          refine ⟨by simp [hi.1], fun y hy => ?_⟩
          rcases List.mem_append.1 hy with hy | hy
          · exact hi.2 y hy
          · rw [List.mem_singleton] at hy; subst hy; exact word_len c0 _ _
        · cases he
      · have hl := lt_of_some hf
        have hfm := hLm x (List.mem_of_getElem? hf)
        obtain ⟨b1, b2, b3, b4, b5, b6⟩ := h.fl x hfm
        obtain ⟨t, ht⟩ : ∃ t : Nat, x.to = t := ⟨x.to.toNat, by omega⟩
        obtain ⟨wi, hwi⟩ : ∃ t : Nat, x.wire = t := ⟨x.wire.toNat, by omega⟩
        have hts := toSt_get h hfm
        rw [ht, Int.toNat_natCast] at hts
        have p1 : plcV (L.map eFl) (.int .i64 (i : Int)) = some (.int .i64 (i : Int)) := plc_at (by rw [List.length_map]; exact hl)
        have q1 : (L.map eFl)[i]? = some (eFl x) := by rw [List.getElem?_map, hf]; rfl
        have hix : idxV (.lst (p.states.map ePs)) (.int .i64 (t : Int)) = some (ePs (toSt p x)) := idx_map hts
        have g4 := p_i_isBits (toSt p x).values n.wires.length (hp.each _ (List.mem_of_getElem? hts))
        simp only [eFl] at q1
        simp only [ePs] at hix
        unfold okF
        cases c5 : decide ((n.wires.length : Int) ≤ x.wire)
        · cases c6 : bitsP (toSt p x).values n.wires.length
          · simp only [lt_d hl, p1, q1, eFl, ePs, Int.toNat_natCast, List.length_map, List.drop_succ_cons, List.drop_zero, ht, hix, c5, g4, c6, Bool.false_eq_true, if_false, EVS]
          · have hvl := (bitsP_iff.1 c6).2
            have hwlt : wi < n.wires.length := by simp only [decide_eq_false_iff_not] at c5; omega
            have hb : byteV (.str (toSt p x).values) (.int .i64 (wi : Int)) = some (pU ((toSt p x).values[wi]'(by omega))) := byteV_at (List.getElem?_eq_getElem (by omega))
            have hwr : idxV (.lst (n.wires.map eWire)) (.int .i64 (wi : Int)) = some (eWire n.wires[wi]) := idx_map (List.getElem?_eq_getElem hwlt)
            have hnm : nameAt n wi = n.wires[wi].name := by unfold nameAt; rw [List.getElem?_eq_getElem hwlt]
            have hnl := name_len c0 wi
            rw [hnm] at hnl
            have ha : ∀ b : UInt8, binV .add TD.str (.str n.wires[wi].name) (.str [b]) = some (.str (n.wires[wi].name ++ [b])) := fun b => bs_add (by simp; omega)
            have hla : acc.length + [PV.str (wordF n p x)].length ≤ 4294967296 ∧ [PV.str (wordF n p x)].all (okEl 1) = true := ⟨by simp; omega, rfl⟩
            have hps : acc.map PV.str ++ [PV.str (wordF n p x)] = (acc ++ [wordF n p x]).map PV.str := by simp
            have hwf : wordF n p x = n.wires[wi].name ++ [if decide ((((toSt p x).values[wi]'(by omega)).toNat : Int) = 49) = true then 43 else 45] := by
              unfold wordF wordAt sgnB
              rw [hwi, Int.toNat_natCast, hnm, List.getElem?_eq_getElem (show wi < (toSt p x).values.length by omega)]
            rw [hwf] at hla hps ⊢
            simp only [hwi] at q1 c5
            cases c7 : decide ((((toSt p x).values[wi]'(by omega)).toNat : Int) = 49) <;> simp only [c7, Bool.false_eq_true, if_false, if_true] at hla hps <;>
              simp only [lt_d hl, next_w hl (show L.length ≤ 9223372036854775807 by omega), p1, q1, eFl, ePs, eWire, Int.toNat_natCast, List.length_map, List.drop_succ_cons, List.drop_zero, ht, hwi, hix, c5, g4, c6, c7, hb, hwr, ha, if_pos hla, hps, Bool.false_eq_true, if_false, if_true, EVS] <;> exact (congrArg (fun m : Option PV => m.bind fun x => again [x, PV.int IntKind.i64 ((i + 1 : Nat) : Int)]) (if_pos hla)).trans (congrArg (fun l => again [.lst l, pI ((i + 1 : Nat) : Int)]) hps)
        · simp only [lt_d hl, p1, q1, eFl, ePs, Int.toNat_natCast, List.length_map, List.drop_succ_cons, List.drop_zero, ht, hix, c5, Bool.false_eq_true, if_false, EVS]
      · have hs : s_g_strings_Join [.lst (acc.map PV.str), .str [32]] = some (.str (Lib.join acc [32])) := by
          have hj := join_le acc hi.2
          show (match strsOf (acc.map PV.str) with
            | some xs => if xs.length ≤ 140737488355328 ∧ (Lib.join xs [32]).length ≤ 140737488355328 then some (PV.str (Lib.join xs [32])) else none
            | none => none) = _
          rw [strsOf_map]
          show (if _ then _ else _) = _
          rw [if_pos ⟨by omega, by omega⟩]
        simp only [ge_d, EVS]
        exact congrArg (Option.map fun x => PV.tup [x, pB true]) hs
      · cases hall : L.all (okF n p)
        · simp only [cf, Bool.false_eq_true, if_false, and_false, true_and]; rfl
        · simp only [cf, if_true, and_self, List.nil_append]; rfl
    · rw [if_neg cf] at g3
      rw [if_neg (fun h => cf h.2.1)]
      simp only [pv_t2, pv_t3, List.length_map, hw, g0, g1, g2, g3, EVS]
      have hs : s_g_strings_Join [.lst [], .str [32]] = some (.str []) := by
        exact if_pos (e := (none : Option PV)) (show ([] : List (List UInt8)).length ≤ 140737488355328 ∧ (Lib.join [] [32]).length ≤ 140737488355328 from ⟨by simp, by simp [Lib.join_nil]⟩)
      refine (congrArg (fun m : Option PV => m.bind fun r => if r.sc = true then some r else none) (loopR_go (R := PV) (fun _ : Unit => [.lst [], pI 0]) (fun _ => 0) (fun _ => some (.tup [.str [], pB false])) _ (fun again _ _ => ?_) 18446744073709551616 () (by omega))).trans rfl
      simp only [List.length_nil, show decide ((((0 : Nat) : Int)) < ((0 : Nat) : Int)) = false from rfl, show decide ((0 : Int) < 0) = false from rfl, EVS]
      exact congrArg (Option.map fun x => PV.tup [x, pB false]) hs
theorem at_r_FormatFlips (n : PNet) (p : ProdG) (k : Int) (hn : n.Fit) (hp : PrFit p) : s_r_FormatFlips [eNet n, ePr p, pI k] = some (.tup [.str (ffP n p k).1, pB (ffP n p k).2]) := by
  have g0 := p_r_l19Good n hn
  have g1 := p_r_l20Good p hp
  have g2 := p_r_l1In k 0 ((p.states.length : Int) - 1)
  have hst := hp.states
  unfold Fits at hst
  have hw : IntKind.i64.wrap ((p.states.length : Int) - 1) = (p.states.length : Int) - 1 := wrap_of (by omega) (by omega)
  show (fun x0 x1 x2 => s_r_FormatFlips [x0, x1, x2]) _ _ _ = _
  rw [sh_r_FormatFlips]
  unfold ffP
  cases hok : ffOk n p k
  · rw [if_neg (by simp)]
    unfold ffOk sfOk inR at hok
    simp only [ePr, eNet] at g0 g1 ⊢
    cases c0 : netP n
    · rw [c0] at g0; simp only [pv_t2, pv_t3, g0, EVS]; rfl
    cases c1 : prodP p
    · rw [c0] at g0; rw [c1] at g1; simp only [pv_t2, pv_t3, g0, g1, EVS]; rfl
    · rw [c0] at g0
      rw [c1] at g1
      rw [c0, c1, Bool.true_and, Bool.true_and] at hok
      rw [hok] at g2
      simp only [pv_t2, pv_t3, List.length_map, hw, g0, g1, g2, EVS]; rfl
  · obtain ⟨c0, h, m, rfl, hm⟩ := ffOk_at hok
    unfold ffOk sfOk inR at hok
    rw [Bool.and_eq_true, Bool.and_eq_true] at hok
    rw [c0] at g0
    rw [hok.2.1] at g1
    rw [hok.2.2] at g2
    have g3 := p_r_l20Way p m h hm
    have hwl := wayK_len h hm
    have hn24 := (netP_size c0).2
    rw [Int.toNat_natCast]
    simp only [ePr] at g1 g3 ⊢
    have g0' := g0
    simp only [eNet] at g0'
    by_cases cf : 0 ≤ farK p m
    · rw [if_pos cf] at g3
      simp only [eNet, pv_t2, pv_t3, List.length_map, hw, g0', g1, g2, g3, EVS]
      refine (congrArg (fun m : Option PV => m.bind fun r => if r.sc = true then some r else none) ((foldLoop (R := PV) (wayK p m) (fun (acc : List (List UInt8)) i => [.str (Lib.join acc [32]), pI (Int.ofNat i)]) (fun i acc => acc.length = i ∧ ∀ x ∈ acc, x.length ≤ 7) (fun (acc : List (List UInt8)) _ f => if okF n p (flipOf p f) = true then .inl (acc ++ [wordF n p (flipOf p f)]) else .inr (some (.tup [.str [], pB false]))) (fun l => some (.tup [.str (Lib.join l [32]), pB true])) _ (by omega) (fun acc i x acc' hi hf he => ?_) (fun again acc i j hi hf => ?_) (fun again acc hi => ?_) (b := []) ⟨rfl, by simp⟩).trans (ff_fold (fun f => okF n p (flipOf p f)) (fun f => wordF n p (flipOf p f)) _ _ _ _ _))).trans ?_
      · split at he
        · cases he
          refine ⟨by simp [hi.1], fun y hy => ?_⟩
          rcases List.mem_append.1 hy with hy | hy
          · exact hi.2 y hy
          · rw [List.mem_singleton] at hy; subst hy; exact word_len c0 _ _
        · cases he
      · have hl := lt_of_some hf
        have hjl := wayK_mem j (List.mem_of_getElem? hf)
        have hfg := flip_get hjl
        obtain ⟨x, hx⟩ : ∃ x, flipOf p j = x := ⟨_, rfl⟩
        rw [hx] at hfg ⊢
        have hfm : x ∈ p.flips := List.mem_of_getElem? hfg
        obtain ⟨b1, b2, b3, b4, b5, b6⟩ := h.fl x hfm
        obtain ⟨t, ht⟩ : ∃ t : Nat, x.to = t := ⟨x.to.toNat, by omega⟩
        obtain ⟨wi, hwi⟩ : ∃ t : Nat, x.wire = t := ⟨x.wire.toNat, by omega⟩
        have hts := toSt_get h hfm
        rw [ht, Int.toNat_natCast] at hts
        have p1 : plcV ((wayK p m).map eN) (.int .i64 (i : Int)) = some (.int .i64 (i : Int)) := plc_at (by rw [List.length_map]; exact hl)
        have q1 : ((wayK p m).map eN)[i]? = some (pI (j : Int)) := by rw [List.getElem?_map, hf]; rfl
        have hfx : idxV (.lst (p.flips.map eFl)) (.int .i64 (j : Int)) = some (eFl x) := idx_map hfg
        have hix : idxV (.lst (p.states.map ePs)) (.int .i64 (t : Int)) = some (ePs (toSt p x)) := idx_map hts
        have g4 := p_r_l5Code (toSt p x).values n.wires.length (hp.each _ (List.mem_of_getElem? hts))
        simp only [eFl] at hfx
        simp only [ePs] at hix
        unfold okF
        cases c5 : decide ((n.wires.length : Int) ≤ x.wire)
        · cases c6 : bitsP (toSt p x).values n.wires.length
          · simp only [lt_d hl, p1, q1, hfx, Int.toNat_natCast, List.length_map, List.drop_succ_cons, List.drop_zero, ht, hix, c5, g4, c6, Bool.false_eq_true, if_false, EVS]
          · have hvl := (bitsP_iff.1 c6).2
            have hwlt : wi < n.wires.length := by simp only [decide_eq_false_iff_not] at c5; omega
            have g5 := p_r_l20Name n wi (toSt p x).values c0 hwlt hvl
            simp only [eNet] at g5
            have hwf : wordF n p x = wordAt n (toSt p x).values wi := by unfold wordF; rw [hwi, Int.toNat_natCast]
            have hjn := join_snoc [32] acc (wordF n p x)
            have hjl := join_le acc hi.2
            have hwl2 := word_len c0 (toSt p x).values wi
            rw [hwf] at hjn ⊢
            simp only [hwi] at hfx c5
            cases acc with
            | nil =>
              have hi0 : i = 0 := hi.1.symm
              subst hi0
              have ha : binV .add TD.str (.str []) (.str (wordAt n (toSt p x).values wi)) = some (.str (wordAt n (toSt p x).values wi)) := bs_add (by simp; omega)
              have hgt : decide ((0 : Int) < (0 : Int)) = false := rfl
              simp only [Int.natCast_zero] at p1
              have hnx := next_w hl (show (wayK p m).length ≤ 9223372036854775807 by omega)
              have hl0 := lt_d hl
              simp only [Int.natCast_zero] at hl0 hnx
              simp only [hl0, hnx, p1, q1, hfx, Int.toNat_zero, List.length_map, List.drop_succ_cons, List.drop_zero, pv_t2, ht, hwi, hix, c5, g4, c6, g5, hgt, Lib.join_nil, ha, List.nil_append, Lib.join_one, Bool.false_eq_true, if_false, if_true, EVS]
            | cons a r =>
              have hgt : decide ((0 : Int) < (i : Int)) = true := by have := hi.1; simp only [List.length_cons] at this; simp only [decide_eq_true_eq]; omega
              dsimp only at hjn
              have hi1 := hi.1
              have ha1 : binV .add TD.str (.str (Lib.join (a :: r) [32])) (.str [UInt8.ofBitVec (BitVec.ofFin (Fin.mk 32 (by decide)))]) = some (.str (Lib.join (a :: r) [32] ++ [32])) := bs_add (by simp only [List.length_cons, List.length_nil] at hjl hi1 ⊢; omega)
              have ha2 : binV .add TD.str (.str (Lib.join (a :: r) [32] ++ [32])) (.str (wordAt n (toSt p x).values wi)) = some (.str (Lib.join (a :: r) [32] ++ [32] ++ wordAt n (toSt p x).values wi)) := bs_add (by simp only [List.length_append, List.length_cons, List.length_nil] at hjl hi1 ⊢; omega)
              simp only [lt_d hl, next_w hl (show (wayK p m).length ≤ 9223372036854775807 by omega), p1, q1, hfx, Int.toNat_natCast, List.length_map, List.drop_succ_cons, List.drop_zero, pv_t2, ht, hwi, hix, c5, g4, c6, g5, hgt, ha1, ha2, hjn, Bool.false_eq_true, if_false, if_true, EVS]
        · simp only [lt_d hl, p1, q1, hfx, Int.toNat_natCast, List.length_map, List.drop_succ_cons, List.drop_zero, ht, hix, c5, Bool.false_eq_true, if_false, EVS]
      · simp only [ge_d, EVS]
      · have hall : (((wayK p m).map (flipOf p)).all (okF n p)) = (wayK p m).all fun f => okF n p (flipOf p f) := by rw [List.all_map]; rfl
        have hmm : (((wayK p m).map (flipOf p)).map (wordF n p)) = (wayK p m).map fun f => wordF n p (flipOf p f) := by rw [List.map_map]; rfl
        rw [hall, hmm]
        cases hall : (wayK p m).all fun f => okF n p (flipOf p f)
        · simp only [cf, Bool.false_eq_true, if_false, and_false, true_and]; rfl
        · simp only [cf, if_true, and_self, List.nil_append]; rfl
    · rw [if_neg cf] at g3
      rw [if_neg (fun h => cf h.2.1)]
      simp only [eNet, pv_t2, pv_t3, List.length_map, hw, g0', g1, g2, g3, EVS]
      rfl
end Go.Proofs.Ytmfplddmccggkaa

namespace Go.Proofs.Ytmfplddmccggkaa
open Go.RowKit
set_option linter.unusedVariables false
set_option linter.unusedSimpArgs false
def BdProductState (m : Nat) (a : PSt) : Prop := (a.values).length ≤ m
theorem sz_ProductState (a : PSt) (l : Int) (hb : BdProductState 9223372036854775807 a) (h0 : 0 ≤ l) (h1 : l ≤ 1048576) : SzOk (s_w_szProductState [ePs a, pI l]) l (BdProductState 1048576 a) := by
  have b0 := hb
  unfold BdProductState at b0
  unfold BdProductState
  show SzOk ((fun x0 x1 => s_w_szProductState [x0, x1]) _ _) _ _
  rw [sh_w_szProductState]
  simp only [ePs, EVS]
  have w0 : IntKind.i64.wrap (l - (a.values.length : Int)) = (l - (a.values.length : Int)) := wrap_of (by omega) (by omega)
  simp only [w0, EVS]
  by_cases c0 : (l - (a.values.length : Int)) < 0
  · simp only [c0, EVS]; exact SzOk.neg h0
  simp only [c0, EVS]
  have q0 : 0 ≤ (l - (a.values.length : Int)) ∧ (l - (a.values.length : Int)) ≤ l := by omega
  exact SzOk.pos (by omega) (by omega)
theorem to_ProductState (a : PSt) (hb : BdProductState 1048576 a) : s_w_toProductState [ePs a] = some (ePs a) := by
  have b0 := hb
  unfold BdProductState at b0
  show (fun x0 => s_w_toProductState [x0]) _ = _
  rw [sh_w_toProductState]
  simp only [ePs, EVS]
theorem eq_ProductState (a : PSt) (hb : BdProductState 9223372036854775807 a) : s_w_eqProductState [ePs a, ePs a] = some (pB true) := by
  have b0 := hb
  unfold BdProductState at b0
  show (fun x0 x1 => s_w_eqProductState [x0, x1]) _ _ = _
  rw [sh_w_eqProductState]
  simp only [ePs, beq_self_eq_true, EVS]
theorem sz_ProductStateS (xs : List (PSt)) (l : Int) (hb : ((xs).length ≤ 9223372036854775807 ∧ ∀ x ∈ xs, BdProductState 9223372036854775807 x)) (h0 : 0 ≤ l) (h1 : l ≤ 1048576) : SzOk (s_w_szProductStateS [.lst (xs.map ePs), pI l]) l (((xs).length ≤ 1048576 ∧ ∀ x ∈ xs, BdProductState 1048576 x)) := by
  have hx : xs.length ≤ 9223372036854775807 := hb.1
  show SzOk ((fun x0 x1 => s_w_szProductStateS [x0, x1]) _ _) _ _
  rw [sh_w_szProductStateS]
  have w1 : IntKind.i64.wrap (l - (xs.length : Int)) = l - (xs.length : Int) := wrap_of (by omega) (by omega)
  simp only [w1, List.length_map, EVS]
  by_cases c : l - (xs.length : Int) < 0
  · simp only [c, EVS]; exact SzOk.neg h0
  · simp only [c, EVS]
    refine (SzOk.sc (szLoop xs (fun x => BdProductState 1048576 x) _ hx (fun again k x l' hk h2 h3 => ?_) (fun again l' => ?_) (by omega) (by omega))).mono (by omega) (fun h => ⟨by omega, h⟩)
    · have hi : idxV (.lst (xs.map ePs)) (.int .i64 (k : Int)) = some ((ePs x)) := idx_map hk
      obtain ⟨r, g1, g2, g3⟩ := sz_ProductState x l' (hb.2 x (List.mem_of_getElem? hk)) h2 h3
      refine ⟨r, g2, g3, ?_⟩
      simp only [ePs] at g1 hi
      simp only [lt_d (lt_of_some hk), next_w (lt_of_some hk) hx, hi, g1, EVS]
      by_cases c2 : r < 0 <;> simp only [c2, EVS]
    · simp only [ge_d, EVS]
theorem to_ProductStateS (xs : List (PSt)) (hb : ((xs).length ≤ 1048576 ∧ ∀ x ∈ xs, BdProductState 1048576 x)) : s_w_toProductStateS [.lst (xs.map ePs)] = some (.lst (xs.map ePs)) := by
  have hx : xs.length ≤ 1048576 := hb.1
  show (fun x0 => s_w_toProductStateS [x0]) _ = _
  rw [sh_w_toProductStateS]
  simp only [mk_v _ _ (show xs.length ≤ 4294967296 by omega), List.length_map, EVS]
  refine toLoop xs ePs 2 _ _ (by omega) ?_ (fun _ => ?_) (fun _ => ?_) (fun again k x row el hk hl he hs => ?_) (fun again row => ?_)
  · rfl
  · rfl
  · exact ⟨fun _ => ⟨_, rfl⟩, fun _ => ⟨_, rfl⟩⟩
  · have hi : idxV (.lst (xs.map ePs)) (.int .i64 (k : Int)) = some ((ePs x)) := idx_map hk
    have hkr : k < row.length := by rw [hl]; exact lt_of_some hk
    have g1 := to_ProductState x (hb.2 x (List.mem_of_getElem? hk))
    simp only [ePs] at g1 hi hs
    simp only [ePs, lt_d (lt_of_some hk), next_w (lt_of_some hk) (show xs.length ≤ 9223372036854775807 by omega), hi, g1, plc_at hkr, he, hs, EVS]
  · simp only [ge_d, EVS]
theorem eq_ProductStateS (xs : List (PSt)) (hb : ((xs).length ≤ 9223372036854775807 ∧ ∀ x ∈ xs, BdProductState 9223372036854775807 x)) : s_w_eqProductStateS [.lst (xs.map ePs), .lst (xs.map ePs)] = some (pB true) := by
  have hx : xs.length ≤ 9223372036854775807 := hb.1
  show (fun x0 x1 => s_w_eqProductStateS [x0, x1]) _ _ = _
  rw [sh_w_eqProductStateS]
  simp only [List.length_map, EVS]
  refine (congrArg (fun m : Option PV => m.bind fun r => if r.sc = true then some r else none) (rangeAll (R := PV) xs (fun _ _ => true) (some (pB false)) (some (pB true)) _ hx (fun again k x hk => ?_) (fun again => ?_))).trans ?_
  · have hi : idxV (.lst (xs.map ePs)) (.int .i64 (k : Int)) = some ((ePs x)) := idx_map hk
    have g1 := eq_ProductState x (hb.2 x (List.mem_of_getElem? hk))
    simp only [ePs] at g1 hi
    simp only [lt_d (lt_of_some hk), next_w (lt_of_some hk) hx, hi, g1, EVS]
  · simp only [ge_d, EVS]
  · rw [show allK (fun (_ : Nat) (_ : PSt) => true) 0 xs = true from allK_true xs 0]; rfl
theorem to_WireFlip (a : Flip) : s_w_toWireFlip [eFl a] = some (eFl a) := by
  show (fun x0 => s_w_toWireFlip [x0]) _ = _
  rw [sh_w_toWireFlip]
  simp only [eFl, EVS]
theorem eq_WireFlip (a : Flip) : s_w_eqWireFlip [eFl a, eFl a] = some (pB true) := by
  show (fun x0 x1 => s_w_eqWireFlip [x0, x1]) _ _ = _
  rw [sh_w_eqWireFlip]
  simp only [eFl, beq_self_eq_true, EVS]
theorem sz_WireFlipS (xs : List (Flip)) (l : Int) (hb : (xs).length ≤ 9223372036854775807) (h0 : 0 ≤ l) (h1 : l ≤ 1048576) : SzOk (s_w_szWireFlipS [.lst (xs.map eFl), pI l]) l ((xs).length ≤ 1048576) := by
  have hx : xs.length ≤ 9223372036854775807 := hb
  show SzOk ((fun x0 x1 => s_w_szWireFlipS [x0, x1]) _ _) _ _
  rw [sh_w_szWireFlipS]
  have w1 : IntKind.i64.wrap (l - (xs.length : Int)) = l - (xs.length : Int) := wrap_of (by omega) (by omega)
  simp only [w1, List.length_map, EVS]
  by_cases c : l - (xs.length : Int) < 0
  · simp only [c, EVS]; exact SzOk.neg h0
  · simp only [c, EVS]; exact SzOk.pos (by omega) (by omega)
theorem to_WireFlipS (xs : List (Flip)) (hb : (xs).length ≤ 1048576) : s_w_toWireFlipS [.lst (xs.map eFl)] = some (.lst (xs.map eFl)) := by
  have hx : xs.length ≤ 1048576 := hb
  show (fun x0 => s_w_toWireFlipS [x0]) _ = _
  rw [sh_w_toWireFlipS]
  simp only [mk_v _ _ (show xs.length ≤ 4294967296 by omega), List.length_map, EVS]
  refine toLoop xs eFl 3 _ _ (by omega) ?_ (fun _ => ?_) (fun _ => ?_) (fun again k x row el hk hl he hs => ?_) (fun again row => ?_)
  · rfl
  · rfl
  · exact ⟨fun _ => ⟨_, rfl⟩, fun _ => ⟨_, rfl⟩⟩
  · have hi : idxV (.lst (xs.map eFl)) (.int .i64 (k : Int)) = some ((eFl x)) := idx_map hk
    have hkr : k < row.length := by rw [hl]; exact lt_of_some hk
    have g1 := to_WireFlip x
    simp only [eFl] at g1 hi hs
    simp only [eFl, lt_d (lt_of_some hk), next_w (lt_of_some hk) (show xs.length ≤ 9223372036854775807 by omega), hi, g1, plc_at hkr, he, hs, EVS]
  · simp only [ge_d, EVS]
theorem eq_WireFlipS (xs : List (Flip)) (hb : (xs).length ≤ 9223372036854775807) : s_w_eqWireFlipS [.lst (xs.map eFl), .lst (xs.map eFl)] = some (pB true) := by
  have hx : xs.length ≤ 9223372036854775807 := hb
  show (fun x0 x1 => s_w_eqWireFlipS [x0, x1]) _ _ = _
  rw [sh_w_eqWireFlipS]
  simp only [List.length_map, EVS]
  refine (congrArg (fun m : Option PV => m.bind fun r => if r.sc = true then some r else none) (rangeAll (R := PV) xs (fun _ _ => true) (some (pB false)) (some (pB true)) _ hx (fun again k x hk => ?_) (fun again => ?_))).trans ?_
  · have hi : idxV (.lst (xs.map eFl)) (.int .i64 (k : Int)) = some ((eFl x)) := idx_map hk
    have g1 := eq_WireFlip x
    simp only [eFl] at g1 hi
    simp only [lt_d (lt_of_some hk), next_w (lt_of_some hk) hx, hi, g1, EVS]
  · simp only [ge_d, EVS]
  · rw [show allK (fun (_ : Nat) (_ : Flip) => true) 0 xs = true from allK_true xs 0]; rfl
def BdProduct (m : Nat) (a : ProdG) : Prop := ((a.states).length ≤ m ∧ ∀ x ∈ a.states, BdProductState m x) ∧ (a.flips).length ≤ m ∧ (a.extra).length ≤ m
theorem sz_Product (a : ProdG) (l : Int) (hb : BdProduct 9223372036854775807 a) (h0 : 0 ≤ l) (h1 : l ≤ 1048576) : SzOk (s_w_szProduct [ePr a, pI l]) l (BdProduct 1048576 a) := by
  obtain ⟨b0, b1, b2⟩ := hb
  unfold BdProduct
  show SzOk ((fun x0 x1 => s_w_szProduct [x0, x1]) _ _) _ _
  rw [sh_w_szProduct]
  simp only [ePr, EVS]
  obtain ⟨r0, g0, y0, z0⟩ := sz_ProductStateS a.states l b0 (by omega) (by omega)
  try simp only [g0, EVS]
  by_cases c0 : r0 < 0
  · simp only [g0, c0, EVS]; exact SzOk.neg h0
  try simp only [g0, c0, EVS]
  have q0 : 0 ≤ r0 ∧ r0 ≤ l := by omega
  obtain ⟨r1, g1, y1, z1⟩ := sz_WireFlipS a.flips r0 b1 (by omega) (by omega)
  try simp only [g1, EVS]
  by_cases c1 : r1 < 0
  · simp only [g1, c1, EVS]; exact SzOk.neg h0
  try simp only [g1, c1, EVS]
  have q1 : 0 ≤ r1 ∧ r1 ≤ l := by omega
  obtain ⟨r2, g2, y2, z2⟩ := sz_WireFlipS a.extra r1 b2 (by omega) (by omega)
  try simp only [g2, EVS]
  by_cases c2 : r2 < 0
  · simp only [g2, c2, EVS]; exact SzOk.neg h0
  try simp only [g2, c2, EVS]
  have q2 : 0 ≤ r2 ∧ r2 ≤ l := by omega
  exact SzOk.pos (by omega) ⟨(z0 (by omega)), (z1 (by omega)), (z2 (by omega))⟩
theorem to_Product (a : ProdG) (hb : BdProduct 1048576 a) : s_w_toProduct [ePr a] = some (ePr a) := by
  obtain ⟨b0, b1, b2⟩ := hb
  have g0 := to_ProductStateS a.states b0
  have g1 := to_WireFlipS a.flips b1
  have g2 := to_WireFlipS a.extra b2
  show (fun x0 => s_w_toProduct [x0]) _ = _
  rw [sh_w_toProduct]
  simp only [ePr, g0, g1, g2, EVS]
theorem eq_Product (a : ProdG) (hb : BdProduct 9223372036854775807 a) : s_w_eqProduct [ePr a, ePr a] = some (pB true) := by
  obtain ⟨b0, b1, b2⟩ := hb
  have g0 := eq_ProductStateS a.states b0
  have g1 := eq_WireFlipS a.flips b1
  have g2 := eq_WireFlipS a.extra b2
  show (fun x0 x1 => s_w_eqProduct [x0, x1]) _ _ = _
  rw [sh_w_eqProduct]
  simp only [ePr, g0, g1, g2, beq_self_eq_true, EVS]
end Go.Proofs.Ytmfplddmccggkaa

namespace Go.Proofs.Ytmfplddmccggkaa
open Go.RowKit
set_option linter.unusedVariables false
set_option linter.unusedSimpArgs false
theorem ProdG.fit_of {p : ProdG} (h : BdProduct 9223372036854775807 p) : PrFit p := by
  obtain ⟨⟨h1, h2⟩, h3, h4⟩ := h
  exact ⟨h1, fun b hb => h2 b hb, h3⟩
theorem law_FormatFlips (n : PNet) (p : ProdG) (k : Int) (hn : BdNetlist 9223372036854775807 n) (hp : BdProduct 9223372036854775807 p) : s_w_FnExactFormatFlips [eNet n, ePr p, pI k] = some (pB true) := by
  have a1 := at_r_FormatFlips n p k (PNet.fit_of hn) (ProdG.fit_of hp)
  have a2 := at_i_FormatFlips n p k (PNet.fit_of hn) (ProdG.fit_of hp)
  have a3 := eq_Netlist n hn
  have b3 := eq_Product p hp
  obtain ⟨r, a4, hr, az⟩ := sz_Netlist n 1048576 hn (by omega) (by omega)
  simp only [ePr, eNet] at a1 a2 a3 a4 b3
  show (fun x0 x1 x2 => s_w_FnExactFormatFlips [x0, x1, x2]) _ _ _ = _
  rw [sh_w_FnExactFormatFlips]
  simp only [ePr, eNet, pv_t2, pv_t3, a4, EVS]
  by_cases c1 : r < 0 <;> simp only [c1, EVS]
  have a5 := to_Netlist n (az (by omega))
  obtain ⟨r2, b4, _, bz⟩ := sz_Product p r hp (by omega) (by omega)
  simp only [ePr] at b4
  simp only [b4, EVS]
  by_cases c2 : r2 < 0 <;> simp only [c2, EVS]
  have b5 := to_Product p (bz (by omega))
  simp only [ePr, eNet] at a5 b5
  simp only [pv_t2, pv_t3, a1, a2, a3, b3, a5, b5, beq_self_eq_true, EVS]
  try rfl
end Go.Proofs.Ytmfplddmccggkaa
