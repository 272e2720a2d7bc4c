-- Written by a program (the kit's print.py, called over functions of which some are replaced), then cut: Lean checks it.
import Derived.Test.YtdfgehjhecmojaaPSx0
import Derived.Test.YtdfgehjhecmojaaPSx3
import Derived.Test.YtdfgehjhecmojaaPSx4
import Derived.Test.YtdfgehjhecmojaaPSx7
namespace Go.Proofs.Ytdfgehjhecmojaa.PS
open Go.RowKit Go.Proofs.YtdfgehjhecmojaaW.PrintWords Go.Proofs.YtdfgehjhecmojaaW.PrintLast Go.Proofs.YtdfgehjhecmojaaW.PrintMore
attribute [local go_sem] max2_int min2_int max_two min_two max_three min_three max_four min_four   -- for this text's walks alone
set_option linter.unusedVariables false
set_option linter.unusedSimpArgs false

/-! ### placketlaw05_ScalarTotal: function 6 -/
def placketlaw05_ScalarTotal.j0 : Nat → Bool → Int → Int → ByteArray → Int → Int → ByteArray → Int → Int → ByteArray → Option (Bool)
  | 0, _, _, _, _, _, _, _, _, _, _ => none
  | k + 1, x26, x222000, x222001, x222002, x223000, x223001, x223002, x224000, x224001, x224002 => if x26 = true then ((placketlaw05_live.f k).bind fun t228 => (some t228)) else ((scalar_Order.f x222000 x222001 x222002 x223000 x223001 x223002).bind fun t229 => ((scalar_Order.f x223000 x223001 x223002 x224000 x224001 x224002).bind fun t230 => ((scalar_Order.f x222000 x222001 x222002 x224000 x224001 x224002).bind fun t231 => (if t229 ≥ (-1) then (if t229 ≤ 1 then ((scalar_Order.f x223000 x223001 x223002 x222000 x222001 x222002).bind fun t232 => (if t232 = (wrap64 (-t229)) then ((scalar_Same.f x222000 x222001 x222002 x223000 x223001 x223002).bind fun t233 => (if ((t229 == 0) == t233) = true then (if t229 > 0 then (some true) else (if t230 > 0 then (some true) else (if t231 ≤ 0 then (if t231 < 0 then (some true) else (if t229 = 0 then (some (t230 == 0)) else (some false))) else (some false)))) else (some false))) else (some false))) else (some false)) else (some false)))))
def placketlaw05_ScalarTotal.f (k : Nat) (a0_0 : Int) (a0_1 : Int) (a0_2 : ByteArray) (a1_0 : Int) (a1_1 : Int) (a1_2 : ByteArray) (a2_0 : Int) (a2_1 : Int) (a2_2 : ByteArray) : Option (Bool) := (placketlaw05_live.f k).bind fun t224 => (if t224 = true then ((placketlaw05_short.f a0_0 a0_1 a0_2).bind fun t225 => (if t225 = true then ((placketlaw05_short.f a1_0 a1_1 a1_2).bind fun t226 => (if t226 = true then ((placketlaw05_short.f a2_0 a2_1 a2_2).bind fun t227 => (placketlaw05_ScalarTotal.j0 k (!t227) a0_0 a0_1 a0_2 a1_0 a1_1 a1_2 a2_0 a2_1 a2_2)) else (placketlaw05_ScalarTotal.j0 k true a0_0 a0_1 a0_2 a1_0 a1_1 a1_2 a2_0 a2_1 a2_2))) else (placketlaw05_ScalarTotal.j0 k true a0_0 a0_1 a0_2 a1_0 a1_1 a1_2 a2_0 a2_1 a2_2))) else (placketlaw05_ScalarTotal.j0 k true a0_0 a0_1 a0_2 a1_0 a1_1 a1_2 a2_0 a2_1 a2_2))
theorem placketlaw05_ScalarTotal.mono_l : ∀ k, (∀ y0 y1 y2 y3 y4 y5 y6 y7 y8 y9, LeO (placketlaw05_ScalarTotal.j0 k y0 y1 y2 y3 y4 y5 y6 y7 y8 y9) (placketlaw05_ScalarTotal.j0 (k + 1) y0 y1 y2 y3 y4 y5 y6 y7 y8 y9))
  | 0 => fun _ _ _ _ _ _ _ _ _ _ r h => by simp [placketlaw05_ScalarTotal.j0] at h
  | k + 1 => by
    have ih0 := placketlaw05_ScalarTotal.mono_l k
    · intro y0 y1 y2 y3 y4 y5 y6 y7 y8 y9
      unfold placketlaw05_ScalarTotal.j0
      repeat' first
      | (with_reducible exact ih0 _ _ _ _ _ _ _ _ _ _)
      | (with_reducible exact placketlaw05_live.mono _)
      | (with_reducible exact LeO.refl _)
      | (with_reducible exact LeO.none _)
      | (with_reducible refine LeO.ite ?_ ?_)
      | (with_reducible refine LeO.bind ?_ (fun _ => ?_))
      | exact ih0 _ _ _ _ _ _ _ _ _ _
      | exact placketlaw05_live.mono _
      | exact LeO.none _
      | refine LeO.ite ?_ ?_
      | refine LeO.bind ?_ (fun _ => ?_)
theorem placketlaw05_ScalarTotal.mono : ∀ a0 a1 a2 a3 a4 a5 a6 a7 a8 k, LeO (placketlaw05_ScalarTotal.f k a0 a1 a2 a3 a4 a5 a6 a7 a8) (placketlaw05_ScalarTotal.f (k + 1) a0 a1 a2 a3 a4 a5 a6 a7 a8) := by
  intro a0 a1 a2 a3 a4 a5 a6 a7 a8 k
  have ih0 := placketlaw05_ScalarTotal.mono_l k
  unfold placketlaw05_ScalarTotal.f
  repeat' first
      | (with_reducible exact ih0 _ _ _ _ _ _ _ _ _ _)
      | (with_reducible exact placketlaw05_live.mono _)
      | (with_reducible exact LeO.refl _)
      | (with_reducible exact LeO.none _)
      | (with_reducible refine LeO.ite ?_ ?_)
      | (with_reducible refine LeO.bind ?_ (fun _ => ?_))
      | exact ih0 _ _ _ _ _ _ _ _ _ _
      | exact placketlaw05_live.mono _
      | exact LeO.none _
      | refine LeO.ite ?_ ?_
      | refine LeO.bind ?_ (fun _ => ?_)
def placketlaw05_ScalarTotal.T3 : Bool × List (List Nat × List Nat) := (true, [([], []), ([], []), ([0, 1], [0, 1]), ([], []), ([], []), ([3, 4, 2], [3, 4]), ([], []), ([], []), ([6, 7, 5], [6, 7]), ([2, 8, 0, 1, 2], [2]), ([5, 9, 0, 1, 2, 3, 4, 5, 9], [5]), ([8, 10, 0, 1, 2, 3, 4, 5, 6, 7, 8, 9, 10], [8])])
def placketlaw05_ScalarTotal.B3 : List Nat := [0, 0, 3, 0, 0, 31, 0, 0, 255, 511, 1023, 2047]
theorem placketlaw05_ScalarTotal.tab3 : rtab .any (opsOf Try.f6 3) = placketlaw05_ScalarTotal.T3 := by kernel_rfl
theorem placketlaw05_ScalarTotal.bits3 : waitsOk placketlaw05_ScalarTotal.T3.2 placketlaw05_ScalarTotal.B3 = true := by kernel_rfl

end Go.Proofs.Ytdfgehjhecmojaa.PS
