/- Laws of the maps' code and of the words it uses, gathered out of the printed and own texts; no conditions. -/
import Derived.Test.YtnegblckbomgdaaDoorHsPAx2a
import Derived.WalkLawsBesides
import Derived.Outline
set_option linter.unusedVariables false
set_option linter.unusedSimpArgs false
namespace Go.Proofs.YtnegblckbomgdaaDoor.PA
open Go Go.RowKit Go.Proofs.YtnegblckbomgdaaDoorW.PrintWords Go.Proofs.YtnegblckbomgdaaDoorW.PrintLast Go.Proofs.YtnegblckbomgdaaDoorW.PrintMore
theorem less_self (l : List UInt8) : Op.bytesLess l l = false := by
  induction l with
  | nil => rfl
  | cons c l ih => simp [Op.bytesLess, ih]
theorem less_three (l : List UInt8) : ∀ m, Op.bytesLess l m = false → Op.bytesLess m l = false → l = m := by
  induction l with
  | nil => intro m h1 _; cases m with
    | nil => rfl
    | cons d m => simp [Op.bytesLess] at h1
  | cons c l ih =>
    intro m h1 h2
    cases m with
    | nil => simp [Op.bytesLess] at h2
    | cons d m =>
      simp only [Op.bytesLess, Bool.or_eq_false_iff, decide_eq_false_iff_not, Bool.and_eq_false_iff] at h1 h2
      have hcd : c = d := by
        have e1 := h1.1
        have e2 := h2.1
        rw [UInt8.lt_iff_toNat_lt] at e1 e2
        exact UInt8.toNat_inj.1 (by omega)
      subst hcd
      have i1 : Op.bytesLess l m = false := h1.2.resolve_left (by simp)
      have i2 : Op.bytesLess m l = false := h2.2.resolve_left (by simp)
      rw [ih m i1 i2]
set_option maxHeartbeats 8000000 in
set_option maxRecDepth 100000 in
theorem quote_Order.calls (a0 : ByteArray) (a1 : ByteArray) (r : Int) (w : World) (h : quote_Order.f a0 a1 = some r) :
    Calls Tryd.prog 90 #[.string a0, .string a1] w fun e w' => e = .returned (.int .i64 r) ∧ Drawn0 w w' := by
  unfold quote_Order.f at h
  cases h1 : Op.bytesLess a0.toList a1.toList with
  | true =>
    rw [if_pos h1] at h
    obtain rfl := Option.some.inj h
    clear h
    go_enter Tryd.func90, Tryd.ntmps90
    go_wp2
    go_ret
    exact ⟨rfl, by repeat (first | exact Drawn0.refl _ | apply Drawn0.step)⟩
  | false =>
    rw [if_neg (by simp [h1])] at h
    cases h2 : Op.bytesLess a1.toList a0.toList with
    | true =>
      rw [if_pos h2] at h
      obtain rfl := Option.some.inj h
      clear h
      have h3 : (a0.toList == a1.toList) = false := beq_false_of_ne (fun e => by rw [e, less_self] at h2; cases h2)
      go_enter Tryd.func90, Tryd.ntmps90
      go_wp2
      go_ret
      exact ⟨rfl, by repeat (first | exact Drawn0.refl _ | apply Drawn0.step)⟩
    | false =>
      rw [if_neg (by simp [h2])] at h
      obtain rfl := Option.some.inj h
      clear h
      have h3 : (a0.toList == a1.toList) = true := by rw [less_three _ _ h1 h2]; exact beq_self_eq_true _
      go_enter Tryd.func90, Tryd.ntmps90
      go_wp2
      go_ret
      exact ⟨rfl, by repeat (first | exact Drawn0.refl _ | apply Drawn0.step)⟩
end Go.Proofs.YtnegblckbomgdaaDoor.PA
