/- Proved: the lowest bits, and each chunk, of any sum are the document's, for every input of the law MixPieces. Conditions: none beyond the statement's own. -/
import Derived.Test.YtlkfomgfcjjkeaaPMixPiecesx1
import Derived.Test.YtlkfomgfcjjkeaaU64
namespace Go.Proofs.Ytlkfomgfcjjkeaa.Pure
open Go Go.RowKit Go.Proofs.Ytlkfomgfcjjkeaa.PMixPieces Go.Proofs.YtlkfomgfcjjkeaaW.PrintWords Go.Proofs.YtlkfomgfcjjkeaaW.PrintLast Go.Proofs.Ytlkfomgfcjjkeaa.U64

/-! the sums' words -/
def c1 : BitVec 64 := 11400714819323198485#64
def c2 : BitVec 64 := 15485907386658061715#64
def rot (t : BitVec 64) : BitVec 64 := t <<< 31 ||| t >>> 33
def stepB (h x : BitVec 64) : BitVec 64 := rot ((h ^^^ x) * c1) + c2
def endB (h : BitVec 64) : BitVec 64 := ((h ^^^ h >>> 32) * c2) ^^^ ((h ^^^ h >>> 32) * c2) >>> 32

theorem hc1 : (11400714819323198485 : Int) = U c1 := by decide +kernel
theorem hc2 : (15485907386658061715 : Int) = U c2 := by decide +kernel
theorem hand : Go.bits .and .u64 (IntKind.u64.wrap (31)) 63 = 31 := by decide +kernel
theorem hsub : IntKind.u64.wrap (64 - 31) = 33 := by decide +kernel

theorem rot31 (x : BitVec 64) : bits_RotateLeft64.f (U x) 31 = some (U (rot x)) := by
  unfold bits_RotateLeft64.f
  rw [hand, hsub, if_pos (by decide), if_pos (by decide)]
  rw [show (31 : Int) = ((31 : Nat) : Int) from rfl, show (33 : Int) = ((33 : Nat) : Int) from rfl, shl_U _ _ (by decide), shr_U _ _ (by decide), or_U]; rfl

theorem step_eq (h x : BitVec 64) : mix_Step.f (U h) (U x) = some (U (stepB h x)) := by
  unfold mix_Step.f
  rw [xor_U, hc1, mul_U, rot31]; simp only [Option.bind_some]
  rw [hc2, add_U]; rfl

theorem div32 (h : BitVec 64) : U h / (4294967296 : Int) = U (h >>> 32) := by
  have e := div_U h 32
  rwa [show ((2 ^ 32 : Nat) : Int) = (4294967296 : Int) by decide] at e

theorem end_eq (h : BitVec 64) : mix_End.f (U h) = some (U (endB h)) := by
  unfold mix_End.f
  rw [div32, xor_U, hc2, mul_U, div32, xor_U]; rfl

theorem live_true : placketlaw03_live.f = some true := by decide +kernel

/-! the bits of a word -/
theorem U1 : (1 : Int) = U 1#64 := by decide +kernel
theorem U0 : (0 : Int) = U 0#64 := by decide +kernel
theorem U31 : (31 : Int) = U 31#64 := by decide +kernel

theorem ones_bit (n i : Nat) (hn : n < 64) : (1#64 <<< n - 1#64).getLsbD i = decide (i < n) := by
  have hp : 2 ^ n < 2 ^ 64 := Nat.pow_lt_pow_right (by decide) hn
  have hq : 0 < 2 ^ n := Nat.two_pow_pos n
  have e : (1#64 <<< n - 1#64).toNat = 2 ^ n - 1 := by
    rw [BitVec.toNat_sub, BitVec.toNat_shiftLeft, Nat.shiftLeft_eq]
    simp only [BitVec.toNat_ofNat]
    rw [show (1 : Nat) % 2 ^ 64 = 1 by decide, Nat.one_mul, Nat.mod_eq_of_lt hp]
    omega
  rw [BitVec.getLsbD, e, Nat.testBit_two_pow_sub_one]

theorem one_shl_bit (n i : Nat) (hn : n < 64) : (1#64 <<< n).getLsbD i = decide (i = n) := by
  rw [BitVec.getLsbD_shiftLeft, BitVec.getLsbD_one]
  by_cases h : i = n
  · subst h; rw [Nat.sub_self, decide_eq_true hn, decide_eq_false (Nat.lt_irrefl i)]; exact Eq.trans rfl (decide_eq_true (rfl : i = i)).symm
  · rw [decide_eq_false h]
    by_cases h2 : i < n
    · rw [decide_eq_true h2, Bool.not_true, Bool.and_false, Bool.false_and]
    · rw [decide_eq_false (show ¬ i - n = 0 by omega), Bool.and_false, Bool.and_false]

/-- the lowest n bits -/
def low (h : BitVec 64) (n : Int) : BitVec 64 := if n ≤ 0 then 0#64 else if n ≥ 64 then h else h &&& (1#64 <<< n.toNat - 1#64)

theorem low_bit (h : BitVec 64) (n : Int) (i : Nat) : (low h n).getLsbD i = (decide ((i : Int) < n) && h.getLsbD i) := by
  unfold low
  by_cases h0 : n ≤ 0
  · rw [if_pos h0, show decide ((i : Int) < n) = false by simp; omega]; simp
  · rw [if_neg h0]
    by_cases h1 : n ≥ 64
    · rw [if_pos h1]
      by_cases hi : (i : Int) < n
      · simp [hi]
      · rw [BitVec.getLsbD_of_ge _ _ (by omega)]; simp
    · rw [if_neg h1, BitVec.getLsbD_and, ones_bit _ _ (by omega), Bool.and_comm]
      congr 1
      exact decide_eq_decide.mpr (show i < n.toNat ↔ (i : Int) < n by omega)

theorem wrap_nat {n : Int} (h0 : 0 ≤ n) (h1 : n < 18446744073709551616) : IntKind.u64.wrap n = n := by rw [wrap_u64]; omega

theorem narrow_eq (h : BitVec 64) (n : Int) : mix_Narrow.f (U h) n = some (U (low h n)) := by
  unfold mix_Narrow.f low
  by_cases h0 : n ≤ 0
  · rw [if_pos h0, if_pos h0, U0]
  · rw [if_neg h0, if_neg h0]
    by_cases h1 : n ≥ 64
    · rw [if_pos h1, if_pos h1]
    · obtain ⟨m, rfl⟩ : ∃ m : Nat, n = m := ⟨n.toNat, by omega⟩
      rw [if_neg h1, if_neg h1, wrap_nat (by omega) (by omega), if_pos (by omega), U1, shl_U _ _ (by omega), sub_U, and_U]
      rfl

/-- five bits -/
def chunkB (h : BitVec 64) (l : Int) : BitVec 64 := if l < 0 ∨ 12 < l then 0#64 else (h >>> (5 * l).toNat) &&& 31#64

theorem and31 (h : BitVec 64) : (h &&& 31#64).toNat = h.toNat % 32 := by
  rw [BitVec.toNat_and]; exact Nat.and_two_pow_sub_one_eq_mod h.toNat 5
theorem and31_lt (h : BitVec 64) : U (h &&& 31#64) < 32 := by
  unfold U; rw [and31]; omega
theorem chunk_lt (h : BitVec 64) (l : Int) : U (chunkB h l) < 32 := by
  unfold chunkB; split
  · decide
  · exact and31_lt _
theorem wrap_small {n : Int} (h0 : 0 ≤ n) (h1 : n < 9223372036854775808) : wrap64 n = n := by unfold wrap64; omega

theorem chunk_eq (h : BitVec 64) (l : Int) : mix_Chunk.f (U h) l = some (U (chunkB h l)) := by
  unfold mix_Chunk.f chunkB
  by_cases h0 : l < 0
  · rw [if_pos h0, if_pos (Or.inl h0), U0]
  · rw [if_neg h0]
    by_cases h1 : l ≥ 13
    · rw [if_pos h1, if_pos (Or.inr (by omega)), U0]
    · have e : (5 * l) = ((5 * l).toNat : Nat) := by omega
      rw [if_neg h1, if_neg (show ¬ (l < 0 ∨ 12 < l) by omega), wrap_small (by omega) (by omega), wrap_nat (by omega) (by omega), if_pos (by omega), e, shr_U _ _ (by omega), U31, and_U,
        wrap_small (U_nonneg _) (by have := and31_lt (h >>> (5 * l).toNat); omega)]
      rfl

theorem rchunk_eq (h : BitVec 64) (l : Int) : placketref03_Chunk.f (U h) l = some (U (chunkB h l)) := by
  unfold placketref03_Chunk.f chunkB
  by_cases h0 : l < 0
  · rw [if_pos h0, if_pos (Or.inl h0), U0]
  · rw [if_neg h0]
    by_cases h1 : l > 12
    · rw [if_pos h1, if_pos (Or.inr (by omega)), U0]
    · have e : (5 * l) = ((5 * l).toNat : Nat) := by omega
      have g : Int.tmod (U (h >>> (5 * l).toNat)) 32 = U ((h >>> (5 * l).toNat) &&& 31#64) := by
        rw [Int.tmod_eq_emod_of_nonneg (U_nonneg _)]; unfold U; rw [and31]; omega
      rw [if_neg h1, if_neg (show ¬ (l < 0 ∨ 12 < l) by omega), wrap_small (by omega) (by omega), wrap_nat (by omega) (by omega), if_pos (by omega), e, shr_U _ _ (by omega), g,
        wrap_small (U_nonneg _) (by have := and31_lt (h >>> (5 * l).toNat); omega)]
      rfl

theorem rnarrow_l (h : BitVec 64) (n : Int) (d : Nat) : ∀ (k i : Nat) (b : BitVec 64), i + d = 64 → d < k →
    (∀ j, b.getLsbD j = (decide (j < i) && (decide ((j : Int) < n) && h.getLsbD j))) → placketref03_Narrow.l0 k (U h) n (U b) (i : Int) = some (U (low h n)) := by
  induction d with
  | zero =>
    intro k i b hi hk hb
    obtain ⟨k, rfl⟩ : ∃ m, k = m + 1 := ⟨k - 1, by omega⟩
    simp only [placketref03_Narrow.l0]; rw [if_neg (by omega)]
    have : b = low h n := by
      apply BitVec.eq_of_getLsbD_eq
      intro j hj
      rw [hb, low_bit, show decide (j < i) = true by simp; omega]; simp
    rw [this]
  | succ d ih =>
    intro k i b hi hk hb
    obtain ⟨k, rfl⟩ : ∃ m, k = m + 1 := ⟨k - 1, by omega⟩
    simp only [placketref03_Narrow.l0]; rw [if_pos (by omega)]
    have e : wrap64 ((i : Int) + 1) = ((i + 1 : Nat) : Int) := by rw [wrap_small (by omega) (by omega)]; rfl
    by_cases hlt : (i : Int) < n
    · rw [if_pos hlt, wrap_nat (by omega) (by omega), if_pos (by omega), U1, shl_U _ _ (by omega), and_U, or_U, ← U1, e]
      refine ih k (i + 1) _ (by omega) (by omega) fun j => ?_
      rw [BitVec.getLsbD_or, BitVec.getLsbD_and, one_shl_bit _ _ (by omega), hb]
      by_cases h1 : j = i
      · subst h1; simp [hlt]
      · have : (j < i + 1) ↔ j < i := by omega
        simp [h1, this]
    · rw [if_neg hlt, e]
      refine ih k (i + 1) _ (by omega) (by omega) fun j => ?_
      rw [hb]
      by_cases h1 : j = i
      · subst h1; simp [hlt]
      · have : (j < i + 1) ↔ j < i := by omega
        simp [this]

theorem mixPieces_of (k : Nat) (p q : Int) (a0 a1 a2 : Int) (h1 : mix_Narrow.f a0 a1 = some p) (h2 : placketref03_Narrow.f k a0 a1 = some p) (h3 : mix_Chunk.f a0 a2 = some q) (h4 : placketref03_Chunk.f a0 a2 = some q) :
    placketlaw03_MixPieces.f k a0 a1 a2 = some true := by
  unfold placketlaw03_MixPieces.f
  rw [live_true, h1, h2, h3, h4]
  simp only [Option.bind_some, if_true]
  rw [beq_self_eq_true]
theorem MixPieces : placketlaw03_MixPieces.Pure := by
  intro a0 a1 a2 h0 _ _
  obtain ⟨h, rfl⟩ := wf_U h0
  refine ⟨65, mixPieces_of 65 _ _ _ a1 a2 (narrow_eq h a1) ?_ (chunk_eq h a2) (rchunk_eq h a2)⟩
  exact rnarrow_l h a1 64 65 0 0#64 rfl (by decide) fun j => by simp

end Go.Proofs.Ytlkfomgfcjjkeaa.Pure
