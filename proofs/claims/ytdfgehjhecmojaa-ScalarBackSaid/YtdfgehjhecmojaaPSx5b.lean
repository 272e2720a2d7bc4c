-- Written by a program (the kit's print.py, called over functions of which some are replaced), then cut: Lean checks it.
import Derived.Test.YtdfgehjhecmojaaPSx0
import Derived.Test.YtdfgehjhecmojaaPSx2
import Derived.Test.YtdfgehjhecmojaaPSx4
import Derived.Test.YtdfgehjhecmojaaPSx5a
import Derived.Test.YtdfgehjhecmojaaOwnplacketref05Covered
namespace Go.Proofs.Ytdfgehjhecmojaa.PS
open Go.RowKit Go.Proofs.YtdfgehjhecmojaaW.PrintWords Go.Proofs.YtdfgehjhecmojaaW.PrintLast Go.Proofs.YtdfgehjhecmojaaW.PrintMore
attribute [local go_sem] max2_int min2_int max_two min_two max_three min_three max_four min_four   -- for this text's walks alone
set_option linter.unusedVariables false
set_option linter.unusedSimpArgs false


/-! ### placketref05_Key: function 15 -/
def placketref05_Key.f (k : Nat) (a0_0 : Int) (a0_1 : Int) (a0_2 : ByteArray) : Option (ByteArray) := (placketref05_Check.f k a0_0 a0_1 a0_2).bind fun t172 => (if t172 = 0 then (if a0_0 = 0 then (some (⟨#[1]⟩ : ByteArray)) else (if a0_0 = 1 then ((some (([(a0_1) % 256] : List Int) : List Int)).bind fun y173 => (if 1 + (strOfNums y173).size ≤ 9223372036854775807 then (some ((⟨#[2]⟩ : ByteArray) ++ (strOfNums y173))) else (none))) else (if a0_0 = 2 then ((placketref01_Bytes.f k a0_1).bind fun t176 => (if 1 + t176.size ≤ 9223372036854775807 then (some ((⟨#[3]⟩ : ByteArray) ++ t176)) else (none))) else ((placketref05_Covered.f k a0_2).bind fun t177 => (if 1 + t177.size ≤ 9223372036854775807 then (if ((⟨#[4]⟩ : ByteArray) ++ t177).size + 2 ≤ 9223372036854775807 then (some (((⟨#[4]⟩ : ByteArray) ++ t177) ++ (⟨#[0, 0]⟩ : ByteArray))) else (none)) else (none)))))) else (some (⟨#[]⟩ : ByteArray)))
theorem placketref05_Key.mono : ∀ a0 a1 a2 k, LeO (placketref05_Key.f k a0 a1 a2) (placketref05_Key.f (k + 1) a0 a1 a2) := by
  intro a0 a1 a2 k
  unfold placketref05_Key.f
  repeat' first
      | (with_reducible exact placketref01_Bytes.mono _ _)
      | (with_reducible exact placketref05_Check.mono _ _ _ _)
      | (with_reducible exact placketref05_Covered.mono _ _)
      | (with_reducible exact LeO.refl _)
      | (with_reducible exact LeO.none _)
      | (with_reducible refine LeO.ite ?_ ?_)
      | (with_reducible refine LeO.bind ?_ (fun _ => ?_))
      | exact placketref01_Bytes.mono _ _
      | exact placketref05_Check.mono _ _ _ _
      | exact placketref05_Covered.mono _ _
      | exact LeO.none _
      | refine LeO.ite ?_ ?_
      | refine LeO.bind ?_ (fun _ => ?_)

end Go.Proofs.Ytdfgehjhecmojaa.PS
