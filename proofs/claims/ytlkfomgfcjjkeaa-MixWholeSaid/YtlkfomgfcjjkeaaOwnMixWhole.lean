/- Proved: a sum is its chunks put together, and narrowed sums have the chunks of the whole as far as they go: the walk of the law MixWhole over the printed functions of MixSteps, for every input. Conditions: none beyond the statement's own. -/
import Derived.Test.YtlkfomgfcjjkeaaPMixStepsx1
import Derived.Test.YtlkfomgfcjjkeaaU64
import Derived.WalkKit
import Derived.LoopTactic
import Derived.Lib.Hide
import Derived.Outline
set_option linter.unusedVariables false
set_option linter.unusedSimpArgs false
namespace Go.Proofs.Ytlkfomgfcjjkeaa.OwnMixWhole
open Go Go.RowKit Go.Proofs.Ytlkfomgfcjjkeaa.PMixSteps Go.Proofs.YtlkfomgfcjjkeaaW.PrintWords Go.Proofs.YtlkfomgfcjjkeaaW.PrintLast Go.Proofs.Ytlkfomgfcjjkeaa.U64

/-! the sums' words -/
def c1 : BitVec 64 := 11400714819323198485#64
def c2 : BitVec 64 := 15485907386658061715#64
def rot (t : BitVec 64) : BitVec 64 := t <<< 31 ||| t >>> 33
def stepB (h x : BitVec 64) : BitVec 64 := rot ((h ^^^ x) * c1) + c2
def endB (h : BitVec 64) : BitVec 64 := ((h ^^^ h >>> 32) * c2) ^^^ ((h ^^^ h >>> 32) * c2) >>> 32

theorem hc1 : (11400714819323198485 : Int) = U c1 := by decide +kernel
theorem hc2 : (15485907386658061715 : Int) = U c2 := by decide +kernel
theorem hand : Go.bits .and .u64 (IntKind.u64.wrap (31)) 63 = 31 := by decide +kernel
theorem hsub : IntKind.u64.wrap (64 - 31) = 33 := by decide +kernel

theorem rot31 (x : BitVec 64) : bits_RotateLeft64.f (U x) 31 = some (U (rot x)) := by
  unfold bits_RotateLeft64.f
  rw [hand, hsub, if_pos (by decide), if_pos (by decide)]
  rw [show (31 : Int) = ((31 : Nat) : Int) from rfl, show (33 : Int) = ((33 : Nat) : Int) from rfl, shl_U _ _ (by decide), shr_U _ _ (by decide), or_U]; rfl

theorem step_eq (h x : BitVec 64) : mix_Step.f (U h) (U x) = some (U (stepB h x)) := by
  unfold mix_Step.f
  rw [xor_U, hc1, mul_U, rot31]; simp only [Option.bind_some]
  rw [hc2, add_U]; rfl

theorem div32 (h : BitVec 64) : U h / (4294967296 : Int) = U (h >>> 32) := by
  have e := div_U h 32
  rwa [show ((2 ^ 32 : Nat) : Int) = (4294967296 : Int) by decide] at e

theorem end_eq (h : BitVec 64) : mix_End.f (U h) = some (U (endB h)) := by
  unfold mix_End.f
  rw [div32, xor_U, hc2, mul_U, div32, xor_U]; rfl

theorem live_true : placketlaw03_live.f = some true := by decide +kernel

/-! the bits of a word -/
theorem U1 : (1 : Int) = U 1#64 := by decide +kernel
theorem U0 : (0 : Int) = U 0#64 := by decide +kernel
theorem U31 : (31 : Int) = U 31#64 := by decide +kernel

theorem ones_bit (n i : Nat) (hn : n < 64) : (1#64 <<< n - 1#64).getLsbD i = decide (i < n) := by
  have hp : 2 ^ n < 2 ^ 64 := Nat.pow_lt_pow_right (by decide) hn
  have hq : 0 < 2 ^ n := Nat.two_pow_pos n
  have e : (1#64 <<< n - 1#64).toNat = 2 ^ n - 1 := by
    rw [BitVec.toNat_sub, BitVec.toNat_shiftLeft, Nat.shiftLeft_eq]
    simp only [BitVec.toNat_ofNat]
    rw [show (1 : Nat) % 2 ^ 64 = 1 by decide, Nat.one_mul, Nat.mod_eq_of_lt hp]
    omega
  rw [BitVec.getLsbD, e, Nat.testBit_two_pow_sub_one]

theorem one_shl_bit (n i : Nat) (hn : n < 64) : (1#64 <<< n).getLsbD i = decide (i = n) := by
  rw [BitVec.getLsbD_shiftLeft, BitVec.getLsbD_one]
  by_cases h : i = n
  · subst h; rw [Nat.sub_self, decide_eq_true hn, decide_eq_false (Nat.lt_irrefl i)]; exact Eq.trans rfl (decide_eq_true (rfl : i = i)).symm
  · rw [decide_eq_false h]
    by_cases h2 : i < n
    · rw [decide_eq_true h2, Bool.not_true, Bool.and_false, Bool.false_and]
    · rw [decide_eq_false (show ¬ i - n = 0 by omega), Bool.and_false, Bool.and_false]

/-- the lowest n bits -/
def low (h : BitVec 64) (n : Int) : BitVec 64 := if n ≤ 0 then 0#64 else if n ≥ 64 then h else h &&& (1#64 <<< n.toNat - 1#64)

theorem low_bit (h : BitVec 64) (n : Int) (i : Nat) : (low h n).getLsbD i = (decide ((i : Int) < n) && h.getLsbD i) := by
  unfold low
  by_cases h0 : n ≤ 0
  · rw [if_pos h0, show decide ((i : Int) < n) = false by simp; omega]; simp
  · rw [if_neg h0]
    by_cases h1 : n ≥ 64
    · rw [if_pos h1]
      by_cases hi : (i : Int) < n
      · simp [hi]
      · rw [BitVec.getLsbD_of_ge _ _ (by omega)]; simp
    · rw [if_neg h1, BitVec.getLsbD_and, ones_bit _ _ (by omega), Bool.and_comm]
      congr 1
      exact decide_eq_decide.mpr (show i < n.toNat ↔ (i : Int) < n by omega)

theorem wrap_nat {n : Int} (h0 : 0 ≤ n) (h1 : n < 18446744073709551616) : IntKind.u64.wrap n = n := by rw [wrap_u64]; omega

theorem narrow_eq (h : BitVec 64) (n : Int) : mix_Narrow.f (U h) n = some (U (low h n)) := by
  unfold mix_Narrow.f low
  by_cases h0 : n ≤ 0
  · rw [if_pos h0, if_pos h0, U0]
  · rw [if_neg h0, if_neg h0]
    by_cases h1 : n ≥ 64
    · rw [if_pos h1, if_pos h1]
    · obtain ⟨m, rfl⟩ : ∃ m : Nat, n = m := ⟨n.toNat, by omega⟩
      rw [if_neg h1, if_neg h1, wrap_nat (by omega) (by omega), if_pos (by omega), U1, shl_U _ _ (by omega), sub_U, and_U]
      rfl

/-- five bits -/
def chunkB (h : BitVec 64) (l : Int) : BitVec 64 := if l < 0 ∨ 12 < l then 0#64 else (h >>> (5 * l).toNat) &&& 31#64

theorem and31 (h : BitVec 64) : (h &&& 31#64).toNat = h.toNat % 32 := by
  rw [BitVec.toNat_and]; exact Nat.and_two_pow_sub_one_eq_mod h.toNat 5
theorem and31_lt (h : BitVec 64) : U (h &&& 31#64) < 32 := by
  unfold U; rw [and31]; omega
theorem chunk_lt (h : BitVec 64) (l : Int) : U (chunkB h l) < 32 := by
  unfold chunkB; split
  · decide
  · exact and31_lt _
theorem wrap_small {n : Int} (h0 : 0 ≤ n) (h1 : n < 9223372036854775808) : wrap64 n = n := by unfold wrap64; omega

theorem chunk_eq (h : BitVec 64) (l : Int) : mix_Chunk.f (U h) l = some (U (chunkB h l)) := by
  unfold mix_Chunk.f chunkB
  by_cases h0 : l < 0
  · rw [if_pos h0, if_pos (Or.inl h0), U0]
  · rw [if_neg h0]
    by_cases h1 : l ≥ 13
    · rw [if_pos h1, if_pos (Or.inr (by omega)), U0]
    · have e : (5 * l) = ((5 * l).toNat : Nat) := by omega
      rw [if_neg h1, if_neg (show ¬ (l < 0 ∨ 12 < l) by omega), wrap_small (by omega) (by omega), wrap_nat (by omega) (by omega), if_pos (by omega), e, shr_U _ _ (by omega), U31, and_U,
        wrap_small (U_nonneg _) (by have := and31_lt (h >>> (5 * l).toNat); omega)]
      rfl

theorem live_c (w : World) : Calls Try.prog 9 #[] w fun e w' => e = .returned (.bool true) ∧ Drawn0 w w' := placketlaw03_live.calls true w live_true
theorem chunk_c (h : BitVec 64) (l : Int) (w : World) : Calls Try.prog 16 #[.int .u64 (U h), .int .i64 l] w fun e w' => e = .returned (.int .i64 (U (chunkB h l))) ∧ Drawn0 w w' := mix_Chunk.calls _ _ _ w (chunk_eq h l)
theorem narrow_c (h : BitVec 64) (l : Int) (w : World) : Calls Try.prog 14 #[.int .u64 (U h), .int .i64 l] w fun e w' => e = .returned (.int .u64 (U (low h l))) ∧ Drawn0 w w' := mix_Narrow.calls _ _ _ w (narrow_eq h l)

/-- what is put together of the first k chunks -/
def Put (h : BitVec 64) (k : Nat) (o : Value) : Prop := ∃ b : BitVec 64, o = .int .u64 (U b) ∧ ∀ j, b.getLsbD j = (decide (j < 5 * k) && h.getLsbD j)
def At (k : Nat) (v : Value) : Prop := v = .int .i64 (k : Int)

theorem put_step (h b : BitVec 64) (k : Nat) (hk : k < 13) (hb : ∀ j, b.getLsbD j = (decide (j < 5 * k) && h.getLsbD j)) :
    ∃ b', Go.bits .or .u64 (U b) (IntKind.u64.wrap (U (chunkB h k) * 2 ^ (5 * k))) = U b' ∧ ∀ j, b'.getLsbD j = (decide (j < 5 * (k + 1)) && h.getLsbD j) := by
  have e : ((2 : Int) ^ (5 * k)) = ((2 ^ (5 * k) : Nat) : Int) := by push_cast; rfl
  refine ⟨b ||| (chunkB h k <<< (5 * k)), by rw [e, shl_mul_U, or_U], fun j => ?_⟩
  have e5 : (5 * (k : Int)).toNat = 5 * k := by omega
  unfold chunkB
  rw [if_neg (by omega), e5, BitVec.getLsbD_or, hb, BitVec.getLsbD_shiftLeft, BitVec.getLsbD_and, BitVec.getLsbD_ushiftRight]
  have m : ∀ i, (31#64).getLsbD i = decide (i < 5) := fun i => by
    have := ones_bit 5 i (by decide)
    rwa [show (1#64 <<< 5 - 1#64) = 31#64 by decide] at this
  rw [m]
  by_cases h1 : j < 5 * k
  · rw [decide_eq_true h1, decide_eq_true (show j < 5 * (k + 1) by omega)]; simp
  · rw [decide_eq_false h1, show 5 * k + (j - 5 * k) = j by omega]
    by_cases h2 : j < 64
    · rw [decide_eq_true h2]
      by_cases h3 : j < 5 * (k + 1)
      · rw [decide_eq_true h3, decide_eq_true (show j - 5 * k < 5 by omega)]; simp
      · rw [decide_eq_false h3, decide_eq_false (show ¬ j - 5 * k < 5 by omega)]; simp
    · rw [BitVec.getLsbD_of_ge h j (by omega)]; simp

theorem put_all (h b : BitVec 64) (hb : ∀ j, b.getLsbD j = (decide (j < 5 * 13) && h.getLsbD j)) : b = h := by
  apply BitVec.eq_of_getLsbD_eq
  intro j hj
  rw [hb, decide_eq_true (show j < 5 * 13 by omega)]; simp

/-- the chunks of the lowest 5n bits -/
theorem chunk_low (h : BitVec 64) (n k : Nat) (hk : k < 13) : U (chunkB (low h (5 * (n : Int))) k) = if k < n then U (chunkB h k) else 0 := by
  have e5 : (5 * (k : Int)).toNat = 5 * k := by omega
  have m : ∀ i, (31#64).getLsbD i = decide (i < 5) := fun i => by
    have := ones_bit 5 i (by decide)
    rwa [show (1#64 <<< 5 - 1#64) = 31#64 by decide] at this
  unfold chunkB
  rw [if_neg (show ¬ ((k : Int) < 0 ∨ 12 < (k : Int)) by omega), if_neg (show ¬ ((k : Int) < 0 ∨ 12 < (k : Int)) by omega), e5]
  by_cases hn : k < n
  · rw [if_pos hn]; congr 1
    apply BitVec.eq_of_getLsbD_eq
    intro j hj
    rw [BitVec.getLsbD_and, BitVec.getLsbD_and, BitVec.getLsbD_ushiftRight, BitVec.getLsbD_ushiftRight, low_bit, m]
    by_cases h5 : j < 5
    · rw [decide_eq_true (show ((5 * k + j : Nat) : Int) < 5 * (n : Int) by omega)]; simp
    · rw [decide_eq_false h5]; simp
  · rw [if_neg hn, U0]; congr 1
    apply BitVec.eq_of_getLsbD_eq
    intro j hj
    rw [BitVec.getLsbD_and, BitVec.getLsbD_ushiftRight, low_bit, decide_eq_false (show ¬ ((5 * k + j : Nat) : Int) < 5 * (n : Int) by omega)]; simp

set_option maxHeartbeats 8000000 in
set_option maxRecDepth 100000 in
theorem whole_walk (h : BitVec 64) (v : Int) (hv : 0 ≤ v) (hv1 : v < 256) (w : World) : Calls Try.prog 6 #[.int .u64 (U h), .int .u8 v] w fun e w' => e = .returned (.bool true) ∧ Drawn0 w w' := by
  obtain ⟨v, rfl⟩ : ∃ m : Nat, v = m := ⟨v.toNat, by omega⟩
  generalize hU : U h = H
  go_enter Try.func6, Try.ntmps6
  go_wp2
  go_loopw [5, 11] (fun o i wr => ∃ k : Nat, k ≤ 13 ∧ i = .int .i64 k ∧ (∃ b : BitVec 64, o = .int .u64 (U b) ∧ Hid (∀ j, b.getLsbD j = (decide (j < 5 * k) && h.getLsbD j))) ∧ Drawn0 w wr) (fun _ i _ => 13 - (intOf i).toNat)
  case atStart => exact ⟨0, by omega, rfl, ⟨0#64, by rw [← U0], Lib.hid (fun j => by simp)⟩, Drawn0.refl _⟩
  case round =>
    obtain ⟨k, hk, rfl, ⟨b, rfl, hb⟩, hd⟩ := hrel
    by_cases hlt : k < 13
    · have CH : ∀ w, Calls Try.prog 16 #[.int .u64 H, .int .i64 (k : Int)] w fun e w' => e = .returned (.int .i64 (U (chunkB h k))) ∧ Drawn0 w w' := hU ▸ chunk_c h k
      have c0 := U_nonneg (chunkB h k)
      have c1 := chunk_lt h k
      obtain ⟨b', hb', hb''⟩ := put_step h b k hlt hb.out
      have HB := Lib.hid hb'; clear hb'
      have HB2 := Lib.hid hb''; clear hb''
      generalize hc : U (chunkB h k) = c at *
      clear hc
      go_wp2_with (go_at_call 16; (with_reducible refine (CH _).mono ?_); rintro e w' ⟨rfl, ⟨nd, rfl⟩⟩)
      go_roundw
      case rel => exact ⟨k + 1, by omega, by go_num, ⟨b', by rw [HB.out], HB2⟩, hd.step _⟩
      case measure => simp [intOf]; omega
    · obtain rfl : k = 13 := by omega
      obtain rfl := put_all h b hb.out
      rw [hU]
      have NC : ∀ w, Calls Try.prog 14 #[.int .u64 H, .int .i64 (5 * ((v % 13 : Nat) : Int))] w fun e w' => e = .returned (.int .u64 (U (low b (5 * ((v % 13 : Nat) : Int))))) ∧ Drawn0 w w' := hU ▸ narrow_c b _
      have hm : Int.tmod (v : Int) 13 = ((v % 13 : Nat) : Int) := by rw [Int.tmod_eq_emod_of_nonneg (by omega)]; omega
      generalize hn : v % 13 = n at *
      have hn13 : n < 13 := by omega
      clear hb hn
      go_wp2_with (go_at_call 14; (with_reducible refine (NC _).mono ?_); rintro e w' ⟨rfl, ⟨nd, rfl⟩⟩)
      go_loopw [39] (fun i wr => ∃ k : Nat, k ≤ 13 ∧ i = .int .i64 k ∧ Drawn0 w wr) (fun i _ => 13 - (intOf i).toNat)
      case atStart => exact ⟨0, by omega, rfl, hd.step _⟩
      case round =>
        clear hd
        obtain ⟨k, hk, rfl, hd⟩ := hrel
        by_cases hlt : k < 13
        · have cl := chunk_low b n k hlt
          have CL := fun w => chunk_c (low b (5 * (n : Int))) k w
          have CH := fun w => chunk_c b k w
          rw [hU] at CH
          rw [cl] at CL
          generalize U (low b (5 * (n : Int))) = L at *
          generalize U (chunkB b k) = c at *
          clear cl
          by_cases hkn : k < n
          · rw [if_pos hkn] at CL
            go_wp2_with (first | (go_at_call 16; (with_reducible refine (CL _).mono ?_); rintro e w' ⟨rfl, ⟨nd, rfl⟩⟩) | (go_at_call 16; (with_reducible refine (CH _).mono ?_); rintro e w' ⟨rfl, ⟨nd, rfl⟩⟩))
            go_roundw
            case rel => exact ⟨k + 1, by omega, by go_num, by first | exact hd.step _ | exact (hd.step _).step _⟩
            case measure => simp [intOf]; omega
          · rw [if_neg hkn] at CL
            go_wp2_with (first | (go_at_call 16; (with_reducible refine (CL _).mono ?_); rintro e w' ⟨rfl, ⟨nd, rfl⟩⟩))
            go_roundw
            case rel => exact ⟨k + 1, by omega, by go_num, by first | exact hd.step _ | exact (hd.step _).step _⟩
            case measure => simp [intOf]; omega
        · obtain rfl : k = 13 := by omega
          go_wp2_with (go_at_call 9; (with_reducible refine (live_c _).mono ?_); rintro e w' ⟨rfl, ⟨nd, rfl⟩⟩)
          go_ret
          exact ⟨by first | rfl | (simp; done) | (simp [*]; done), hd.step _⟩

theorem walk (a0 a1 : Int) (w : World) (w0 : (Lit.int .u64 a0).wf = true) (w1 : (Lit.int .u8 a1).wf = true) :
    Calls Try.prog 6 #[.int .u64 a0, .int .u8 a1] w fun e w' => e = .returned (.bool true) ∧ Below w.heap.size w w' := by
  obtain ⟨h, rfl⟩ := wf_U w0
  have e : 0 ≤ a1 ∧ a1 ≤ 255 := by simpa [Lit.wf, IntKind.min, IntKind.max, IntKind.bits, IntKind.signed] using w1
  exact (whole_walk h a1 e.1 (by omega) w).mono fun e w' ⟨he, hd⟩ => ⟨he, hd.below⟩

end Go.Proofs.Ytlkfomgfcjjkeaa.OwnMixWhole
