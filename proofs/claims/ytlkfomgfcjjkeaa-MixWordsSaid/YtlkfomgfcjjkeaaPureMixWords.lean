/- Proved: the sum of any words (up to 1000 of them; beyond that only that the examples hold) by any seed is the document's, for every input of the law MixWords. Conditions: none beyond the statement's own. -/
import Derived.Test.YtlkfomgfcjjkeaaPMixWordsx1
import Derived.Test.YtlkfomgfcjjkeaaU64
namespace Go.Proofs.Ytlkfomgfcjjkeaa.Pure
open Go Go.RowKit Go.Proofs.Ytlkfomgfcjjkeaa.PMixWords Go.Proofs.YtlkfomgfcjjkeaaW.PrintWords Go.Proofs.YtlkfomgfcjjkeaaW.PrintLast Go.Proofs.Ytlkfomgfcjjkeaa.U64

/-! the sums' words -/
def c1 : BitVec 64 := 11400714819323198485#64
def c2 : BitVec 64 := 15485907386658061715#64
def rot (t : BitVec 64) : BitVec 64 := t <<< 31 ||| t >>> 33
def stepB (h x : BitVec 64) : BitVec 64 := rot ((h ^^^ x) * c1) + c2
def endB (h : BitVec 64) : BitVec 64 := ((h ^^^ h >>> 32) * c2) ^^^ ((h ^^^ h >>> 32) * c2) >>> 32

theorem hc1 : (11400714819323198485 : Int) = U c1 := by decide +kernel
theorem hc2 : (15485907386658061715 : Int) = U c2 := by decide +kernel
theorem hand : Go.bits .and .u64 (IntKind.u64.wrap (31)) 63 = 31 := by decide +kernel
theorem hsub : IntKind.u64.wrap (64 - 31) = 33 := by decide +kernel

theorem rot31 (x : BitVec 64) : bits_RotateLeft64.f (U x) 31 = some (U (rot x)) := by
  unfold bits_RotateLeft64.f
  rw [hand, hsub, if_pos (by decide), if_pos (by decide)]
  rw [show (31 : Int) = ((31 : Nat) : Int) from rfl, show (33 : Int) = ((33 : Nat) : Int) from rfl, shl_U _ _ (by decide), shr_U _ _ (by decide), or_U]; rfl

theorem step_eq (h x : BitVec 64) : mix_Step.f (U h) (U x) = some (U (stepB h x)) := by
  unfold mix_Step.f
  rw [xor_U, hc1, mul_U, rot31]; simp only [Option.bind_some]
  rw [hc2, add_U]; rfl

theorem div32 (h : BitVec 64) : U h / (4294967296 : Int) = U (h >>> 32) := by
  have e := div_U h 32
  rwa [show ((2 ^ 32 : Nat) : Int) = (4294967296 : Int) by decide] at e

theorem end_eq (h : BitVec 64) : mix_End.f (U h) = some (U (endB h)) := by
  unfold mix_End.f
  rw [div32, xor_U, hc2, mul_U, div32, xor_U]; rfl

theorem live_true : placketlaw03_live.f = some true := by decide +kernel

theorem div33 (h : BitVec 64) : U h / (8589934592 : Int) = U (h >>> 33) := by
  have e := div_U h 33
  rwa [show ((2 ^ 33 : Nat) : Int) = (8589934592 : Int) by decide] at e
theorem mul31 (h : BitVec 64) : IntKind.u64.wrap (U h * (2147483648 : Int)) = U (h <<< 31) := by
  have e := shl_mul_U h 31
  rwa [show ((2 ^ 31 : Nat) : Int) = (2147483648 : Int) by decide] at e
theorem rstep_eq (h x : BitVec 64) : placketref03_Step.f (U h) (U x) = some (U (stepB h x)) := by
  unfold placketref03_Step.f
  rw [xor_U, hc1, mul_U, mul31, div33, or_U, hc2, add_U]; rfl

theorem rend_eq (h : BitVec 64) : placketref03_End.f (U h) = some (U (endB h)) := by
  unfold placketref03_End.f
  rw [div32, xor_U, hc2, mul_U, div32, xor_U]; rfl

theorem wrap_small {n : Int} (h0 : 0 ≤ n) (h1 : n < 9223372036854775808) : wrap64 n = n := by unfold wrap64; omega

theorem words_l (l : List Int) (hl : ∀ x ∈ l, (Lit.int .u64 x).wf = true) (hn : l.length * 8 ≤ 140737488351232) (d : Nat) : ∀ (k i : Nat) (b : BitVec 64), i + d = l.length → d < k →
    ∃ r : Int, mix_Words.l0 k l (U b) (l.length : Int) (i : Int) = some r ∧ placketref03_Words.l0 k (U b) l (l.length : Int) (i : Int) = some r := by
  induction d with
  | zero =>
    intro k i b hi hk
    obtain ⟨k, rfl⟩ : ∃ m, k = m + 1 := ⟨k - 1, by omega⟩
    refine ⟨U (endB b), ?_, ?_⟩
    · simp only [mix_Words.l0]; rw [if_neg (by omega), end_eq]; rfl
    · simp only [placketref03_Words.l0]; rw [if_neg (by omega), rend_eq]; rfl
  | succ d ih =>
    intro k i b hi hk
    obtain ⟨k, rfl⟩ : ∃ m, k = m + 1 := ⟨k - 1, by omega⟩
    have hlt : i < l.length := by omega
    have hm : rd l (i : Int) ∈ l := by
      unfold rd
      rw [show ((i : Int)).toNat = i by omega, List.getD_eq_getElem?_getD, List.getElem?_eq_getElem hlt]
      exact List.getElem_mem hlt
    obtain ⟨x, hx⟩ := wf_U (hl _ hm)
    have e : wrap64 ((i : Int) + 1) = ((i + 1 : Nat) : Int) := by rw [wrap_small (by omega) (by omega)]; rfl
    obtain ⟨r, h1, h2⟩ := ih k (i + 1) (stepB b x) (by omega) (by omega)
    refine ⟨r, ?_, ?_⟩
    · simp only [mix_Words.l0]; rw [if_pos (by omega), if_pos (by omega), if_pos (by omega), hx, step_eq]; simp only [Option.bind_some]; rw [e]; exact h1
    · simp only [placketref03_Words.l0]; rw [if_pos (by omega), if_pos (by omega), if_pos (by omega), hx, rstep_eq]; simp only [Option.bind_some]; rw [e]; exact h2

theorem mixWords_of (k : Nat) (a0 : Int) (l : List Int) (r : Int) (h1 : mix_Words.f k a0 l = some r) (h2 : placketref03_Words.f k a0 l = some r) :
    placketlaw03_MixWords.f (k + 1) a0 l = some true := by
  have m1 : mix_Words.f (k + 1) a0 l = some r := mix_Words.mono _ _ _ _ h1
  have m2 : placketref03_Words.f (k + 1) a0 l = some r := placketref03_Words.mono _ _ _ _ h2
  unfold placketlaw03_MixWords.f
  rw [live_true]
  simp only [Option.bind_some, if_true, placketlaw03_MixWords.j0]
  rw [live_true, h1, h2]
  simp only [Option.bind_some, beq_self_eq_true]
  split <;> rfl
theorem MixWords : placketlaw03_MixWords.Pure := by
  intro a0 l h0 _ hn hl
  obtain ⟨h, rfl⟩ := wf_U h0
  obtain ⟨r, h1, h2⟩ := words_l l hl hn l.length (l.length + 1) 0 (stepB h (BitVec.ofInt 64 (l.length : Int))) (by omega) (by omega)
  refine ⟨l.length + 1 + 1, mixWords_of (l.length + 1) _ l r ?_ ?_⟩
  · unfold mix_Words.f; rw [wrap_U, step_eq]; exact h1
  · unfold placketref03_Words.f; rw [wrap_U, rstep_eq]; exact h2

end Go.Proofs.Ytlkfomgfcjjkeaa.Pure
