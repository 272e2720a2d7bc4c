/- Laws on words of 64 bits: the printed functions' numbers (Int) are the values of BitVec 64. -/
import Derived.Test.YtdfgehjhecmojaaWWords
import Derived.Test.YtdfgehjhecmojaaWMore
import Derived.Laws.Entries
namespace Go.Proofs.Ytdfgehjhecmojaa.U64
open Go Go.Proofs.YtdfgehjhecmojaaW.PrintWords

/-- a word's number -/
def U (b : BitVec 64) : Int := (b.toNat : Int)

theorem U_inj {a b : BitVec 64} : U a = U b ↔ a = b := by
  unfold U
  constructor
  · intro h; exact BitVec.eq_of_toNat_eq (by exact_mod_cast h)
  · rintro rfl; rfl

theorem U_nonneg (b : BitVec 64) : 0 ≤ U b := by unfold U; omega
theorem U_lt (b : BitVec 64) : U b < 18446744073709551616 := by
  unfold U; have := b.isLt; omega

theorem wrap_u64 (n : Int) : IntKind.u64.wrap n = n % 18446744073709551616 := by
  simp [IntKind.wrap, IntKind.bits, IntKind.signed]

theorem ofInt_toNat (n : Int) : ((BitVec.ofInt 64 n).toNat : Int) = n % 18446744073709551616 := by
  rw [BitVec.toNat_ofInt]; omega

theorem wrap_U (n : Int) : IntKind.u64.wrap n = U (BitVec.ofInt 64 n) := by
  rw [wrap_u64]; unfold U; rw [ofInt_toNat]

theorem ofInt_U (b : BitVec 64) : BitVec.ofInt 64 (U b) = b := by
  unfold U; simp

theorem U_of {n : Int} (h0 : 0 ≤ n) (h : n < 18446744073709551616) : n = U (BitVec.ofInt 64 n) := by
  unfold U; rw [ofInt_toNat]; omega

theorem wf_U {a : Int} (h : (Lit.int .u64 a).wf = true) : ∃ b, a = U b := by
  have h' : 0 ≤ a ∧ a < 18446744073709551616 := by
    have e : 0 ≤ a ∧ a ≤ 18446744073709551615 := by simpa [Lit.wf, IntKind.min, IntKind.max, IntKind.bits, IntKind.signed] using h
    omega
  exact ⟨_, U_of h'.1 h'.2⟩

theorem wf_of_U (b : BitVec 64) : (Lit.int .u64 (U b)).wf = true := by
  have := U_nonneg b; have := U_lt b
  simp [Lit.wf, IntKind.min, IntKind.max, IntKind.bits, IntKind.signed]
  omega

theorem xor_U (a b : BitVec 64) : Go.bits .xor .u64 (U a) (U b) = U (a ^^^ b) := by
  have e : Go.bits .xor .u64 (U a) (U b) = IntKind.u64.wrap ((BitVec.ofInt 64 (U a) ^^^ BitVec.ofInt 64 (U b)).toNat) := rfl
  rw [e, ofInt_U, ofInt_U, wrap_u64]; have := (a ^^^ b).isLt; unfold U; omega
theorem and_U (a b : BitVec 64) : Go.bits .and .u64 (U a) (U b) = U (a &&& b) := by
  have e : Go.bits .and .u64 (U a) (U b) = IntKind.u64.wrap ((BitVec.ofInt 64 (U a) &&& BitVec.ofInt 64 (U b)).toNat) := rfl
  rw [e, ofInt_U, ofInt_U, wrap_u64]; have := (a &&& b).isLt; unfold U; omega
theorem or_U (a b : BitVec 64) : Go.bits .or .u64 (U a) (U b) = U (a ||| b) := by
  have e : Go.bits .or .u64 (U a) (U b) = IntKind.u64.wrap ((BitVec.ofInt 64 (U a) ||| BitVec.ofInt 64 (U b)).toNat) := rfl
  rw [e, ofInt_U, ofInt_U, wrap_u64]; have := (a ||| b).isLt; unfold U; omega

theorem mul_U (a c : BitVec 64) : IntKind.u64.wrap (U a * U c) = U (a * c) := by
  rw [wrap_u64]; unfold U; rw [BitVec.toNat_mul]; omega
theorem add_U (a c : BitVec 64) : IntKind.u64.wrap (U a + U c) = U (a + c) := by
  rw [wrap_u64]; unfold U; rw [BitVec.toNat_add]; omega
theorem sub_U (a c : BitVec 64) : IntKind.u64.wrap (U a - U c) = U (a - c) := by
  rw [wrap_u64]; unfold U; rw [BitVec.toNat_sub]; have := c.isLt; omega
theorem wrap_of_U (a : BitVec 64) : IntKind.u64.wrap (U a) = U a := by
  rw [wrap_u64]; have := U_nonneg a; have := U_lt a; omega

theorem div_U (a : BitVec 64) (n : Nat) : U a / ((2 ^ n : Nat) : Int) = U (a >>> n) := by
  unfold U; rw [BitVec.toNat_ushiftRight, Nat.shiftRight_eq_div_pow, Int.natCast_ediv]
theorem shl_mul_U (a : BitVec 64) (n : Nat) : IntKind.u64.wrap (U a * ((2 ^ n : Nat) : Int)) = U (a <<< n) := by
  rw [wrap_u64]; unfold U; rw [BitVec.toNat_shiftLeft, Nat.shiftLeft_eq]
  rw [← Int.natCast_mul]
  generalize a.toNat * 2 ^ n = m
  omega
theorem shl_U (a : BitVec 64) (n : Nat) (h : n ≤ 64) : shl .u64 (U a) (n : Int) = U (a <<< n) := by
  unfold shl
  have : min (n : Int).toNat IntKind.u64.bits = n := by show min n 64 = n; omega
  rw [this]
  have e : ((2 : Int) ^ n) = ((2 ^ n : Nat) : Int) := by push_cast; rfl
  rw [e, shl_mul_U]
theorem shr_U (a : BitVec 64) (n : Nat) (h : n ≤ 64) : shr .u64 (U a) (n : Int) = U (a >>> n) := by
  unfold shr
  have : min (n : Int).toNat IntKind.u64.bits = n := by show min n 64 = n; omega
  rw [this]
  have e : ((2 : Int) ^ n) = ((2 ^ n : Nat) : Int) := by push_cast; rfl
  rw [e, div_U]
end Go.Proofs.Ytdfgehjhecmojaa.U64
