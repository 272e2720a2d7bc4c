/- Proved: steps and ends from any sums are the document's, for every input of the law MixSteps. Conditions: none beyond the statement's own. -/
import Derived.Test.YtlkfomgfcjjkeaaPMixStepsx1
import Derived.Test.YtlkfomgfcjjkeaaU64
namespace Go.Proofs.Ytlkfomgfcjjkeaa.Pure
open Go Go.RowKit Go.Proofs.Ytlkfomgfcjjkeaa.PMixSteps Go.Proofs.YtlkfomgfcjjkeaaW.PrintWords Go.Proofs.YtlkfomgfcjjkeaaW.PrintLast Go.Proofs.Ytlkfomgfcjjkeaa.U64

/-! the sums' words -/
def c1 : BitVec 64 := 11400714819323198485#64
def c2 : BitVec 64 := 15485907386658061715#64
def rot (t : BitVec 64) : BitVec 64 := t <<< 31 ||| t >>> 33
def stepB (h x : BitVec 64) : BitVec 64 := rot ((h ^^^ x) * c1) + c2
def endB (h : BitVec 64) : BitVec 64 := ((h ^^^ h >>> 32) * c2) ^^^ ((h ^^^ h >>> 32) * c2) >>> 32

theorem hc1 : (11400714819323198485 : Int) = U c1 := by decide +kernel
theorem hc2 : (15485907386658061715 : Int) = U c2 := by decide +kernel
theorem hand : Go.bits .and .u64 (IntKind.u64.wrap (31)) 63 = 31 := by decide +kernel
theorem hsub : IntKind.u64.wrap (64 - 31) = 33 := by decide +kernel

theorem rot31 (x : BitVec 64) : bits_RotateLeft64.f (U x) 31 = some (U (rot x)) := by
  unfold bits_RotateLeft64.f
  rw [hand, hsub, if_pos (by decide), if_pos (by decide)]
  rw [show (31 : Int) = ((31 : Nat) : Int) from rfl, show (33 : Int) = ((33 : Nat) : Int) from rfl, shl_U _ _ (by decide), shr_U _ _ (by decide), or_U]; rfl

theorem step_eq (h x : BitVec 64) : mix_Step.f (U h) (U x) = some (U (stepB h x)) := by
  unfold mix_Step.f
  rw [xor_U, hc1, mul_U, rot31]; simp only [Option.bind_some]
  rw [hc2, add_U]; rfl

theorem div32 (h : BitVec 64) : U h / (4294967296 : Int) = U (h >>> 32) := by
  have e := div_U h 32
  rwa [show ((2 ^ 32 : Nat) : Int) = (4294967296 : Int) by decide] at e

theorem end_eq (h : BitVec 64) : mix_End.f (U h) = some (U (endB h)) := by
  unfold mix_End.f
  rw [div32, xor_U, hc2, mul_U, div32, xor_U]; rfl

theorem live_true : placketlaw03_live.f = some true := by decide +kernel

theorem div33 (h : BitVec 64) : U h / (8589934592 : Int) = U (h >>> 33) := by
  have e := div_U h 33
  rwa [show ((2 ^ 33 : Nat) : Int) = (8589934592 : Int) by decide] at e
theorem mul31 (h : BitVec 64) : IntKind.u64.wrap (U h * (2147483648 : Int)) = U (h <<< 31) := by
  have e := shl_mul_U h 31
  rwa [show ((2 ^ 31 : Nat) : Int) = (2147483648 : Int) by decide] at e
theorem rstep_eq (h x : BitVec 64) : placketref03_Step.f (U h) (U x) = some (U (stepB h x)) := by
  unfold placketref03_Step.f
  rw [xor_U, hc1, mul_U, mul31, div33, or_U, hc2, add_U]; rfl

theorem rend_eq (h : BitVec 64) : placketref03_End.f (U h) = some (U (endB h)) := by
  unfold placketref03_End.f
  rw [div32, xor_U, hc2, mul_U, div32, xor_U]; rfl

theorem mixSteps_of (p q r s : Int) (hp : p = q) (hr : r = s) (a0 a1 : Int) (h1 : mix_Step.f a0 a1 = some p) (h2 : placketref03_Step.f a0 a1 = some q) (h3 : mix_End.f a0 = some r) (h4 : placketref03_End.f a0 = some s) :
    placketlaw03_MixSteps.f a0 a1 = some true := by
  unfold placketlaw03_MixSteps.f
  rw [live_true, h1, h2, h3, h4]
  simp only [Option.bind_some, if_true]
  rw [if_pos hp, hr, beq_self_eq_true]
theorem MixSteps : placketlaw03_MixSteps.Pure := by
  intro a0 a1 h0 h1
  obtain ⟨h, rfl⟩ := wf_U h0
  obtain ⟨x, rfl⟩ := wf_U h1
  exact mixSteps_of _ _ _ _ rfl rfl _ _ (step_eq h x) (rstep_eq h x) (end_eq h) (rend_eq h)

end Go.Proofs.Ytlkfomgfcjjkeaa.Pure
