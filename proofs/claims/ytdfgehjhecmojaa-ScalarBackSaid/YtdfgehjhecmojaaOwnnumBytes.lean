/- The contract of num.Bytes: what the document's function of eight bytes gives (the printed plain function, which began as the reference's), the program's gives. No condition. -/
import Derived.Test.YtdfgehjhecmojaaPSx2a
import Derived.Test.YtdfgehjhecmojaaU64
import Derived.Handy
import Derived.Outline
import Derived.Lib.Hide
set_option linter.unusedVariables false
set_option linter.unusedSimpArgs false
namespace Go.Proofs.Ytdfgehjhecmojaa.PS
open Go Go.RowKit Go.Proofs.YtdfgehjhecmojaaW.PrintWords Go.Proofs.YtdfgehjhecmojaaW.PrintLast Go.Proofs.YtdfgehjhecmojaaW.PrintMore

theorem conv8 (w : World) (c0 c1 c2 c3 c4 c5 c6 c7 : Int) :
    (convert 41 9 (.slice (some ⟨w.heap.size, 0, none⟩) 8 8)).run Try.prog (w.alloc (.cells #[.int .u8 c0, .int .u8 c1, .int .u8 c2, .int .u8 c3, .int .u8 c4, .int .u8 c5, .int .u8 c6, .int .u8 c7] 51))
      = .ok (.string (strOfNums [c0, c1, c2, c3, c4, c5, c6, c7])) (w.alloc (.cells #[.int .u8 c0, .int .u8 c1, .int .u8 c2, .int .u8 c3, .int .u8 c4, .int .u8 c5, .int .u8 c6, .int .u8 c7] 51)) := by
  refine string_of_reads Try.underlying41 Try.underlying5 Try.underlying9 ⟨rfl, by decide, fun _ => ⟨_, rfl, fun j hj => ?_⟩⟩
  obtain rfl | rfl | rfl | rfl | rfl | rfl | rfl | rfl : j = 0 ∨ j = 1 ∨ j = 2 ∨ j = 3 ∨ j = 4 ∨ j = 5 ∨ j = 6 ∨ j = 7 := by omega
  all_goals simp [go_sem]

/-- the eight bytes of a word, the highest one first -/
def nums8 (u : Int) : List Int := [u / 72057594037927936 % 256, u / 281474976710656 % 256, u / 1099511627776 % 256, u / 4294967296 % 256, u / 16777216 % 256, u / 65536 % 256, u / 256 % 256, u % 256]

theorem top_bit (a : BitVec 64) : a ^^^ 9223372036854775808#64 = a + 9223372036854775808#64 := by
  apply BitVec.eq_of_getLsbD_eq
  intro j hj
  have e : (a + 9223372036854775808#64).getLsbD j = (2 ^ 63 + a.toNat).testBit j := by
    rw [BitVec.getLsbD, BitVec.toNat_add, Nat.testBit_mod_two_pow, decide_eq_true hj, Bool.true_and, Nat.add_comm]; rfl
  have f : (9223372036854775808#64).getLsbD j = decide (63 = j) := by
    have : (9223372036854775808#64).getLsbD j = (2 ^ 63).testBit j := rfl
    rw [this, Nat.testBit_two_pow]
  rw [e, BitVec.getLsbD_xor, f]
  by_cases h : j = 63
  · subst h
    rw [Nat.testBit_two_pow_add_eq, decide_eq_true rfl]
    show (a.toNat.testBit 63 ^^ true) = !a.toNat.testBit 63
    cases a.toNat.testBit 63 <;> rfl
  · rw [Nat.testBit_two_pow_add_gt (by omega), decide_eq_false (Ne.symm h)]
    show (a.toNat.testBit j ^^ false) = a.toNat.testBit j
    cases a.toNat.testBit j <;> rfl

theorem xor_top (a0 : Int) : Go.bits .xor .u64 (IntKind.u64.wrap a0) 9223372036854775808 = IntKind.u64.wrap (IntKind.u64.wrap a0 + 9223372036854775808) := by
  rw [U64.wrap_U a0, show (9223372036854775808 : Int) = U64.U 9223372036854775808#64 by decide +kernel, U64.xor_U, U64.add_U, top_bit]

theorem l0_nine (u : Int) : num_Bytes.l0 9 u (List.replicate 8 0) 0 = some (strOfNums (nums8 u)) := by
  simp [num_Bytes.l0, wrap64, shr, IntKind.wrap, IntKind.bits, IntKind.signed, nums8, List.replicate]

theorem bytes_plain (k : Nat) (a0 : Int) (r : ByteArray) (h : num_Bytes.f k a0 = some r) : r = strOfNums (nums8 (Go.bits .xor .u64 (IntKind.u64.wrap a0) 9223372036854775808)) := by
  have e : num_Bytes.f 9 a0 = some (strOfNums (nums8 (Go.bits .xor .u64 (IntKind.u64.wrap a0) 9223372036854775808))) := by
    unfold num_Bytes.f
    rw [if_pos (by decide), xor_top, l0_nine]
  have h1 := at_rounds (num_Bytes.mono a0) (Nat.le_max_left k 9) h
  have h2 := at_rounds (num_Bytes.mono a0) (Nat.le_max_right k 9) e
  rw [h1] at h2
  exact Option.some.inj h2

set_option maxHeartbeats 8000000 in
set_option maxRecDepth 100000 in
theorem bytes_walk (a0 : Int) (w : World) :
    Calls Try.prog 25 #[.int .i64 a0] w fun e w' => e = .returned (.string (strOfNums (nums8 (Go.bits .xor .u64 (IntKind.u64.wrap a0) 9223372036854775808)))) ∧ Below w.heap.size w w' := by
  have hcv := conv8 w
  have hu : 0 ≤ Go.bits .xor .u64 (IntKind.u64.wrap a0) 9223372036854775808 := by
    rw [xor_top, U64.wrap_U]; exact U64.U_nonneg _
  generalize hg : Go.bits .xor .u64 (IntKind.u64.wrap a0) 9223372036854775808 = u at *
  have HG := Lib.hid hg; clear hg
  go_enter Try.func25, Try.ntmps25
  go_wp2
  rw [HG.out]
  go_rounds 9
  go_ret
  refine ⟨?_, by go_grown⟩
  refine congrArg (fun l => Ending.returned (Value.string (strOfNums l))) ?_
  unfold nums8
  clear HG hcv
  repeat' (first | rfl | (refine List.cons_eq_cons.2 ⟨by omega, ?_⟩))

theorem num_Bytes.calls (k : Nat) (a0 : Int) (r : ByteArray) (w : World) (h : num_Bytes.f k a0 = some r) :
    Calls Try.prog 25 #[.int .i64 a0] w fun e w' => e = .returned (.string r) ∧ Below w.heap.size w w' := by
  rw [bytes_plain k a0 r h]
  exact bytes_walk a0 w
end Go.Proofs.Ytdfgehjhecmojaa.PS
