/- Proved: steps with unlike words from one sum are unlike, so are those with one word from unlike sums, and ends of unlike sums: the walk of the law MixApart over the printed functions of MixSteps, for every input. Conditions: none beyond the statement's own. -/
import Derived.Test.YtlkfomgfcjjkeaaPMixStepsx1
import Derived.Test.YtlkfomgfcjjkeaaU64
import Derived.WalkKit
import Derived.LoopTactic
import Derived.Lib.Hide
import Derived.Outline
set_option linter.unusedVariables false
set_option linter.unusedSimpArgs false
namespace Go.Proofs.Ytlkfomgfcjjkeaa.OwnMixApart
open Go Go.RowKit Go.Proofs.Ytlkfomgfcjjkeaa.PMixSteps Go.Proofs.YtlkfomgfcjjkeaaW.PrintWords Go.Proofs.YtlkfomgfcjjkeaaW.PrintLast Go.Proofs.Ytlkfomgfcjjkeaa.U64

/-! the sums' words -/
def c1 : BitVec 64 := 11400714819323198485#64
def c2 : BitVec 64 := 15485907386658061715#64
def rot (t : BitVec 64) : BitVec 64 := t <<< 31 ||| t >>> 33
def stepB (h x : BitVec 64) : BitVec 64 := rot ((h ^^^ x) * c1) + c2
def endB (h : BitVec 64) : BitVec 64 := ((h ^^^ h >>> 32) * c2) ^^^ ((h ^^^ h >>> 32) * c2) >>> 32

theorem hc1 : (11400714819323198485 : Int) = U c1 := by decide +kernel
theorem hc2 : (15485907386658061715 : Int) = U c2 := by decide +kernel
theorem hand : Go.bits .and .u64 (IntKind.u64.wrap (31)) 63 = 31 := by decide +kernel
theorem hsub : IntKind.u64.wrap (64 - 31) = 33 := by decide +kernel

theorem rot31 (x : BitVec 64) : bits_RotateLeft64.f (U x) 31 = some (U (rot x)) := by
  unfold bits_RotateLeft64.f
  rw [hand, hsub, if_pos (by decide), if_pos (by decide)]
  rw [show (31 : Int) = ((31 : Nat) : Int) from rfl, show (33 : Int) = ((33 : Nat) : Int) from rfl, shl_U _ _ (by decide), shr_U _ _ (by decide), or_U]; rfl

theorem step_eq (h x : BitVec 64) : mix_Step.f (U h) (U x) = some (U (stepB h x)) := by
  unfold mix_Step.f
  rw [xor_U, hc1, mul_U, rot31]; simp only [Option.bind_some]
  rw [hc2, add_U]; rfl

theorem div32 (h : BitVec 64) : U h / (4294967296 : Int) = U (h >>> 32) := by
  have e := div_U h 32
  rwa [show ((2 ^ 32 : Nat) : Int) = (4294967296 : Int) by decide] at e

theorem end_eq (h : BitVec 64) : mix_End.f (U h) = some (U (endB h)) := by
  unfold mix_End.f
  rw [div32, xor_U, hc2, mul_U, div32, xor_U]; rfl

theorem live_true : placketlaw03_live.f = some true := by decide +kernel

theorem rot_back (t : BitVec 64) : rot t >>> 31 ||| rot t <<< 33 = t := by
  apply BitVec.eq_of_getLsbD_eq
  intro i hi
  unfold rot
  simp only [BitVec.getLsbD_or, BitVec.getLsbD_ushiftRight, BitVec.getLsbD_shiftLeft]
  by_cases h : i < 33
  · rw [show decide (31 + i < 64) = true by simp; omega, show decide (31 + i < 31) = false by simp, show 31 + i - 31 = i by omega,
      show decide (i < 33) = true by simpa using h, show t.getLsbD (33 + (31 + i)) = false from BitVec.getLsbD_of_ge _ _ (by omega)]
    simp
  · rw [show decide (31 + i < 64) = false by simp; omega, show t.getLsbD (33 + (31 + i)) = false from BitVec.getLsbD_of_ge _ _ (by omega),
      show decide (i < 64) = true by simpa using hi, show decide (i < 33) = false by simpa using h, show decide (i - 33 < 64) = true by simp; omega,
      show decide (i - 33 < 31) = true by simp; omega, show 33 + (i - 33) = i by omega]
    simp

theorem rot_inj {s t : BitVec 64} (h : rot s = rot t) : s = t := by
  rw [← rot_back s, ← rot_back t, h]

theorem mul_inj {c d s t : BitVec 64} (hcd : c * d = 1#64) (h : s * c = t * c) : s = t := by
  have e : ∀ x : BitVec 64, x * c * d = x := fun x => by rw [BitVec.mul_assoc, hcd, BitVec.mul_one]
  rw [← e s, ← e t, h]

theorem inv1 : c1 * 17428512612931826493#64 = 1#64 := by decide +kernel
theorem inv2 : c2 * 14982988110149298331#64 = 1#64 := by decide +kernel

theorem add_inj {c s t : BitVec 64} (h : s + c = t + c) : s = t := by
  have e : ∀ x : BitVec 64, x + c - c = x := fun x => by rw [BitVec.add_sub_cancel]
  rw [← e s, ← e t, h]
theorem xor_inj {h x y : BitVec 64} (e : h ^^^ x = h ^^^ y) : x = y := by
  have g : ∀ z : BitVec 64, h ^^^ (h ^^^ z) = z := fun z => by rw [← BitVec.xor_assoc, BitVec.xor_self, BitVec.zero_xor]
  rw [← g x, ← g y, e]

theorem step_inj {h x y : BitVec 64} (e : stepB h x = stepB h y) : x = y := xor_inj (mul_inj inv1 (rot_inj (add_inj e)))
theorem step_comm (h x : BitVec 64) : stepB h x = stepB x h := by unfold stepB; rw [BitVec.xor_comm]

theorem fold_back (g : BitVec 64) : (g ^^^ g >>> 32) ^^^ (g ^^^ g >>> 32) >>> 32 = g := by
  apply BitVec.eq_of_getLsbD_eq
  intro i hi
  simp only [BitVec.getLsbD_xor, BitVec.getLsbD_ushiftRight]
  rw [show g.getLsbD (32 + (32 + i)) = false from BitVec.getLsbD_of_ge _ _ (by omega)]
  cases g.getLsbD i <;> cases g.getLsbD (32 + i) <;> rfl

theorem fold_inj {g h : BitVec 64} (e : g ^^^ g >>> 32 = h ^^^ h >>> 32) : g = h := by
  rw [← fold_back g, ← fold_back h, e]

theorem end_inj {g h : BitVec 64} (e : endB g = endB h) : g = h := fold_inj (mul_inj inv2 (fold_inj e))

theorem beq_iff {p q r s : BitVec 64} (h : p = q ↔ r = s) : ((U p == U q) == (U r == U s)) = true := by
  have : (U p = U q) ↔ (U r = U s) := by rw [U_inj, U_inj]; exact h
  by_cases e : U r = U s
  · rw [this.2 e, e]; simp
  · have := mt this.1 e
    rw [beq_false_of_ne this, beq_false_of_ne e]; rfl

theorem live_c (w : World) : Calls Try.prog 9 #[] w fun e w' => e = .returned (.bool true) ∧ Drawn0 w w' := placketlaw03_live.calls true w live_true
theorem step_c (h x : BitVec 64) (w : World) : Calls Try.prog 10 #[.int .u64 (U h), .int .u64 (U x)] w fun e w' => e = .returned (.int .u64 (U (stepB h x))) ∧ Drawn0 w w' := mix_Step.calls _ _ _ w (step_eq h x)
theorem end_c (h : BitVec 64) (w : World) : Calls Try.prog 12 #[.int .u64 (U h)] w fun e w' => e = .returned (.int .u64 (U (endB h))) ∧ Drawn0 w w' := mix_End.calls _ _ w (end_eq h)

set_option maxHeartbeats 8000000 in
set_option maxRecDepth 100000 in
theorem apart_walk (g h x y : BitVec 64) (w : World) : Calls Try.prog 5 #[.int .u64 (U g), .int .u64 (U h), .int .u64 (U x), .int .u64 (U y)] w fun e w' => e = .returned (.bool true) ∧ Drawn0 w w' := by
  have a1 : ((U (stepB h x) == U (stepB h y)) == (U x == U y)) = true := beq_iff ⟨step_inj, fun e => by rw [e]⟩
  have a2 : decide ((U (stepB h x) == U (stepB h y)) = (U x == U y)) = true := by simpa using a1
  have b1 : ((U (stepB g x) == U (stepB h x)) == (U g == U h)) = true := beq_iff ⟨fun e => step_inj (h := x) (by rw [step_comm x, step_comm x]; exact e), fun e => by rw [e]⟩
  have b2 : decide ((U (stepB g x) == U (stepB h x)) = (U g == U h)) = true := by simpa using b1
  have c1 : ((U (endB g) == U (endB h)) == (U g == U h)) = true := beq_iff ⟨end_inj, fun e => by rw [e]⟩
  have c2 : decide ((U (endB g) == U (endB h)) = (U g == U h)) = true := by simpa using c1
  generalize hp1 : U (stepB h x) = p1 at *
  generalize hp2 : U (stepB h y) = p2 at *
  generalize hp3 : U (stepB g x) = p3 at *
  generalize hp4 : U (endB g) = p4 at *
  generalize hp5 : U (endB h) = p5 at *
  have S1 : ∀ w, Calls Try.prog 10 #[.int .u64 (U h), .int .u64 (U x)] w fun e w' => e = .returned (.int .u64 p1) ∧ Drawn0 w w' := hp1 ▸ step_c h x
  have S2 : ∀ w, Calls Try.prog 10 #[.int .u64 (U h), .int .u64 (U y)] w fun e w' => e = .returned (.int .u64 p2) ∧ Drawn0 w w' := hp2 ▸ step_c h y
  have S3 : ∀ w, Calls Try.prog 10 #[.int .u64 (U g), .int .u64 (U x)] w fun e w' => e = .returned (.int .u64 p3) ∧ Drawn0 w w' := hp3 ▸ step_c g x
  have S4 : ∀ w, Calls Try.prog 12 #[.int .u64 (U g)] w fun e w' => e = .returned (.int .u64 p4) ∧ Drawn0 w w' := hp4 ▸ end_c g
  have S5 : ∀ w, Calls Try.prog 12 #[.int .u64 (U h)] w fun e w' => e = .returned (.int .u64 p5) ∧ Drawn0 w w' := hp5 ▸ end_c h
  clear hp1 hp2 hp3 hp4 hp5
  generalize hG : U g = G at *
  generalize hH : U h = H at *
  generalize hX : U x = X at *
  generalize hY : U y = Y at *
  clear hG hH hX hY
  go_enter Try.func5, Try.ntmps5
  go_wp2_with (first | (go_at_call 9; (with_reducible refine (live_c _).mono ?_); rintro e w' ⟨rfl, ⟨nd, rfl⟩⟩) | (go_at_call 10; (with_reducible refine (S1 _).mono ?_); rintro e w' ⟨rfl, ⟨nd, rfl⟩⟩) | (go_at_call 10; (with_reducible refine (S2 _).mono ?_); rintro e w' ⟨rfl, ⟨nd, rfl⟩⟩) | (go_at_call 10; (with_reducible refine (S3 _).mono ?_); rintro e w' ⟨rfl, ⟨nd, rfl⟩⟩) | (go_at_call 12; (with_reducible refine (S4 _).mono ?_); rintro e w' ⟨rfl, ⟨nd, rfl⟩⟩) | (go_at_call 12; (with_reducible refine (S5 _).mono ?_); rintro e w' ⟨rfl, ⟨nd, rfl⟩⟩))
  go_ret
  exact ⟨by first | rfl | (simp; done) | (simp [*]; done), by repeat (first | exact Drawn0.refl _ | apply Drawn0.step)⟩

theorem walk (a0 a1 a2 a3 : Int) (w : World) (w0 : (Lit.int .u64 a0).wf = true) (w1 : (Lit.int .u64 a1).wf = true) (w2 : (Lit.int .u64 a2).wf = true) (w3 : (Lit.int .u64 a3).wf = true) :
    Calls Try.prog 5 #[.int .u64 a0, .int .u64 a1, .int .u64 a2, .int .u64 a3] w fun e w' => e = .returned (.bool true) ∧ Below w.heap.size w w' := by
  obtain ⟨g, rfl⟩ := wf_U w0
  obtain ⟨h, rfl⟩ := wf_U w1
  obtain ⟨x, rfl⟩ := wf_U w2
  obtain ⟨y, rfl⟩ := wf_U w3
  exact (apart_walk g h x y w).mono fun e w' ⟨he, hd⟩ => ⟨he, hd.below⟩

end Go.Proofs.Ytlkfomgfcjjkeaa.OwnMixApart
