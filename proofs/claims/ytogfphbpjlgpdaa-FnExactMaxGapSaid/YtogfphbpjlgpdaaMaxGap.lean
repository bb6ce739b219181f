/-
  FnExactMaxGap: for every row of timed firings the program's MaxGap gives what the reference's gives.
-/
import Derived.Test.YtogfphbpjlgpdaaRows
import Derived.Test.YtogfphbpjlgpdaaData
import Derived.Test.YtogfphbpjlgpdaaGap
import Derived.Test.YtogfphbpjlgpdaaLawTF
namespace Go.Proofs.Ytogfphbpjlgpdaa
open Go.RowKit
set_option linter.unusedVariables false

set_option maxHeartbeats 1000000 in
theorem law_MaxGap (A : Option Addr) (c : Nat) (l : List TF) (w : World) (hn : l.length ≤ 9223372036854775807) (hr : RA shTF w A l) :
    Calls Try.prog 3 #[.slice A l.length c] w fun e w' => e = .returned (.bool true) ∧ Below w.heap.size w w' := by
  by_cases hbig : (1048576 : Int) < l.length
  · have hs : szRes l.length 1048576 = -1 := by unfold szRes; rw [if_pos hbig]
    have HS := hide hs; clear hs
    go_enter Try.func3, Try.ntmps3
    go_wp2_with fail
    refine (szTimedFiringS A _ c 1048576 _ hn (by omega) (by omega)).mono ?_
    rintro e w' ⟨rfl, rfl⟩
    rw [HS.out]
    go_wp2
    go_ret
    exact ⟨rfl, by (repeat' (first | (with_reducible exact Below.refl _ _) | (with_reducible assumption) | (with_reducible refine below_drewN' ?_ _) | (with_reducible refine Below.drew ?_) | (with_reducible refine Below.alloc ?_ ?_ _) | (with_reducible refine Below.setCell ?_ ?_ _) | go_size))⟩
  · have hs : szRes l.length 1048576 = 1048576 - l.length := by unfold szRes; rw [if_neg hbig]
    have HS := hide hs; clear hs
    have hl : l.length ≤ 1048576 := by omega
    go_enter Try.func3, Try.ntmps3
    go_wp2_with fail
    refine (szTimedFiringS A _ c 1048576 _ hn (by omega) (by omega)).mono ?_
    rintro e w' ⟨rfl, rfl⟩
    rw [HS.out]
    go_wp2_with fail
    refine (toTimedFiringS A c l _ hl hr).mono ?_
    rintro e w1 ⟨A1, rfl, hr1, hb1⟩
    go_wp2_with fail
    refine (spec_MaxGap A1 _ l _ hl (hr1.mono fun b hb => hb.2)).mono ?_
    rintro e w2 ⟨rfl, hb2⟩
    have hb2' := hb1.trans (hb2.mono hb1.size)
    go_wp2_with fail
    refine (toTimedFiringS A c l _ hl (hr.to hb2')).mono ?_
    rintro e w3 ⟨A3, rfl, hr3, hb3⟩
    have hb3' := hb2'.trans (hb3.mono hb2'.size)
    go_wp2_with fail
    have ha3 : RA shTF w3 A3 l := hr3.mono fun b hb => hb.2
    refine (impl_MaxGap A3 _ l _ hl ha3).mono ?_
    rintro e w4 ⟨rfl, hb4⟩
    have hb4' := hb3'.trans (hb4.mono hb3'.size)
    go_wp2_with fail
    refine (toTimedFiringS A c l _ hl (hr.to hb4')).mono ?_
    rintro e w5 ⟨A5, rfl, hr5, hb5⟩
    have hb5' := hb4'.trans (hb5.mono hb4'.size)
    go_wp2_with fail
    refine (eqTimedFiringS A3 A5 _ _ l _ hl ((ha3.to hb4).to hb5) (hr5.mono fun b hb => hb.2)).mono ?_
    rintro e w6 ⟨rfl, hb6⟩
    have hb6' := hb5'.trans (hb6.mono hb5'.size)
    go_wp2
    go_ret
    exact ⟨rfl, by (repeat' (first | (with_reducible exact Below.refl _ _) | (with_reducible assumption) | (with_reducible refine below_drewN' ?_ _) | (with_reducible refine Below.drew ?_) | (with_reducible refine Below.alloc ?_ ?_ _) | (with_reducible refine Below.setCell ?_ ?_ _) | go_size))⟩
end Go.Proofs.Ytogfphbpjlgpdaa
