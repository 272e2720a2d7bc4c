/- Sums of texts: the program's and the document's are one. -/
import Derived.Test.YtdfgehjhecmojaaPSx11
import Derived.Test.YtdfgehjhecmojaaU64
set_option linter.unusedVariables false
set_option linter.unusedSimpArgs false
namespace Go.Proofs.Ytdfgehjhecmojaa.ScM
open Go Go.RowKit Go.Proofs.Ytdfgehjhecmojaa.PS Go.Proofs.YtdfgehjhecmojaaW.PrintWords Go.Proofs.YtdfgehjhecmojaaW.PrintLast Go.Proofs.Ytdfgehjhecmojaa.U64

/-! the sums' words -/
def c1 : BitVec 64 := 11400714819323198485#64
def c2 : BitVec 64 := 15485907386658061715#64
def rot (t : BitVec 64) : BitVec 64 := t <<< 31 ||| t >>> 33
def stepB (h x : BitVec 64) : BitVec 64 := rot ((h ^^^ x) * c1) + c2
def endB (h : BitVec 64) : BitVec 64 := ((h ^^^ h >>> 32) * c2) ^^^ ((h ^^^ h >>> 32) * c2) >>> 32

theorem hc1 : (11400714819323198485 : Int) = U c1 := by decide +kernel
theorem hc2 : (15485907386658061715 : Int) = U c2 := by decide +kernel
theorem hand : Go.bits .and .u64 (IntKind.u64.wrap (31)) 63 = 31 := by decide +kernel
theorem hsub : IntKind.u64.wrap (64 - 31) = 33 := by decide +kernel

theorem rot31 (x : BitVec 64) : bits_RotateLeft64.f (U x) 31 = some (U (rot x)) := by
  unfold bits_RotateLeft64.f
  rw [hand, hsub, if_pos (by decide), if_pos (by decide)]
  rw [show (31 : Int) = ((31 : Nat) : Int) from rfl, show (33 : Int) = ((33 : Nat) : Int) from rfl, shl_U _ _ (by decide), shr_U _ _ (by decide), or_U]; rfl

theorem step_eq (h x : BitVec 64) : mix_Step.f (U h) (U x) = some (U (stepB h x)) := by
  unfold mix_Step.f
  rw [xor_U, hc1, mul_U, rot31]; simp only [Option.bind_some]
  rw [hc2, add_U]; rfl

theorem div32 (h : BitVec 64) : U h / (4294967296 : Int) = U (h >>> 32) := by
  have e := div_U h 32
  rwa [show ((2 ^ 32 : Nat) : Int) = (4294967296 : Int) by decide] at e

theorem end_eq (h : BitVec 64) : mix_End.f (U h) = some (U (endB h)) := by
  unfold mix_End.f
  rw [div32, xor_U, hc2, mul_U, div32, xor_U]; rfl

theorem div33 (h : BitVec 64) : U h / (8589934592 : Int) = U (h >>> 33) := by
  have e := div_U h 33
  rwa [show ((2 ^ 33 : Nat) : Int) = (8589934592 : Int) by decide] at e
theorem mul31 (h : BitVec 64) : IntKind.u64.wrap (U h * (2147483648 : Int)) = U (h <<< 31) := by
  have e := shl_mul_U h 31
  rwa [show ((2 ^ 31 : Nat) : Int) = (2147483648 : Int) by decide] at e
theorem rstep_eq (h x : BitVec 64) : placketref03_Step.f (U h) (U x) = some (U (stepB h x)) := by
  unfold placketref03_Step.f
  rw [xor_U, hc1, mul_U, mul31, div33, or_U, hc2, add_U]; rfl

theorem rend_eq (h : BitVec 64) : placketref03_End.f (U h) = some (U (endB h)) := by
  unfold placketref03_End.f
  rw [div32, xor_U, hc2, mul_U, div32, xor_U]; rfl

theorem wrap_small {n : Int} (h0 : 0 ≤ n) (h1 : n < 9223372036854775808) : wrap64 n = n := by unfold wrap64; omega
theorem wrap_nat {n : Int} (h0 : 0 ≤ n) (h1 : n < 18446744073709551616) : IntKind.u64.wrap n = n := by rw [wrap_u64]; omega
theorem mul8 (h : BitVec 64) : IntKind.u64.wrap (U h * (256 : Int)) = U (h <<< 8) := by
  have e := shl_mul_U h 8
  rwa [show ((2 ^ 8 : Nat) : Int) = (256 : Int) by decide] at e
theorem U0 : (0 : Int) = U 0#64 := by decide +kernel

/-- a byte of a text as a word; none: 0 -/
def byteB (s : ByteArray) (p : Nat) : BitVec 64 := if p < s.size then BitVec.ofInt 64 (bt s (p : Int)) else 0#64

/-- the program's word: d bytes from the j-th on go into x -/
def mgo (s : ByteArray) (t : Nat) : Nat → Nat → BitVec 64 → BitVec 64
  | _, 0, x => x
  | j, d + 1, x => mgo s t (j + 1) d (x <<< 8 ||| byteB s (t + j))

/-- the document's word: its first j bytes -/
def racc (s : ByteArray) (t : Nat) : Nat → BitVec 64
  | 0 => 0#64
  | j + 1 => racc s t j ||| byteB s (t + j) <<< (56 - 8 * j)

theorem racc_succ (s : ByteArray) (t j : Nat) : racc s t (j + 1) = racc s t j ||| byteB s (t + j) <<< (56 - 8 * j) := rfl

theorem word_same (s : ByteArray) (t : Nat) : mgo s t 0 8 0#64 = racc s t 8 := by
  simp only [mgo, racc, BitVec.shiftLeft_or_distrib, ← BitVec.shiftLeft_add, BitVec.zero_shiftLeft, BitVec.zero_or, BitVec.shiftLeft_zero,
    Nat.reduceAdd, Nat.reduceMul, Nat.reduceSub]

theorem racc_stop (s : ByteArray) (t q : Nat) (h : s.size ≤ t + q) (j : Nat) : racc s t (q + j) = racc s t q := by
  induction j with
  | zero => rfl
  | succ j ih =>
    rw [← Nat.add_assoc]
    show racc s t (q + j) ||| byteB s (t + (q + j)) <<< (56 - 8 * (q + j)) = racc s t q
    rw [ih]
    unfold byteB
    rw [if_neg (by omega), BitVec.zero_shiftLeft, BitVec.or_zero]

theorem word_l (s : ByteArray) (t : Nat) (ht : t ≤ 140737488351232) (d : Nat) : ∀ (k j : Nat) (x : BitVec 64), j + d = 8 → d < k →
    mix_word.l0 k s (t : Int) (U x) (j : Int) = some (U (mgo s t j d x)) := by
  induction d with
  | zero =>
    intro k j x hj hk
    obtain ⟨k, rfl⟩ : ∃ m, k = m + 1 := ⟨k - 1, by omega⟩
    simp only [mix_word.l0]; rw [if_neg (by omega)]; rfl
  | succ d ih =>
    intro k j x hj hk
    obtain ⟨k, rfl⟩ : ∃ m, k = m + 1 := ⟨k - 1, by omega⟩
    have e : wrap64 ((j : Int) + 1) = ((j + 1 : Nat) : Int) := by rw [wrap_small (by omega) (by omega)]; rfl
    have e2 : wrap64 ((t : Int) + (j : Int)) = ((t + j : Nat) : Int) := by rw [wrap_small (by omega) (by omega)]; rfl
    simp only [mix_word.l0]; rw [if_pos (by omega), e2, mul8]
    show _ = some (U (mgo s t (j + 1) d (x <<< 8 ||| byteB s (t + j))))
    by_cases hlt : ((t + j : Nat) : Int) < (s.size : Int)
    · have hb : byteB s (t + j) = BitVec.ofInt 64 (bt s ((t + j : Nat) : Int)) := by unfold byteB; rw [if_pos (by omega)]
      rw [if_pos hlt, if_pos (by omega), wrap_U (bt s _), or_U, e, hb]
      exact ih k (j + 1) _ (by omega) (by omega)
    · have hb : byteB s (t + j) = 0#64 := by unfold byteB; rw [if_neg (by omega)]
      rw [if_neg hlt, e, hb, BitVec.or_zero]
      exact ih k (j + 1) _ (by omega) (by omega)

theorem word_eq (s : ByteArray) (t : Nat) (ht : t ≤ 140737488351232) (k : Nat) (hk : 8 < k) :
    mix_word.f k s (t : Int) = some (U (racc s t 8)) := by
  unfold mix_word.f
  rw [U0, ← word_same]
  exact word_l s t ht 8 k 0 0#64 rfl hk

/-- a text's sum from the g-th word on, at most d words -/
def sumT (s : ByteArray) : Nat → Nat → BitVec 64 → BitVec 64
  | _, 0, h => endB h
  | g, d + 1, h => if 8 * g < s.size then sumT s (g + 1) d (stepB h (racc s (8 * g) 8)) else endB h

theorem text_l (s : ByteArray) (hs : s.size ≤ 140737488351232) (d : Nat) : ∀ (k g : Nat) (h : BitVec 64), s.size < 8 * g + 8 * d → d + 9 < k → 8 * g ≤ s.size + 8 →
    mix_Text.l0 k s (U h) ((8 * g : Nat) : Int) = some (U (sumT s g d h)) := by
  induction d with
  | zero =>
    intro k g h hd hk hg
    obtain ⟨k, rfl⟩ : ∃ m, k = m + 1 := ⟨k - 1, by omega⟩
    simp only [mix_Text.l0]; rw [if_neg (by omega), end_eq]; rfl
  | succ d ih =>
    intro k g h hd hk hg
    obtain ⟨k, rfl⟩ : ∃ m, k = m + 1 := ⟨k - 1, by omega⟩
    simp only [mix_Text.l0]
    by_cases hlt : 8 * g < s.size
    · have e : wrap64 (((8 * g : Nat) : Int) + 8) = ((8 * (g + 1) : Nat) : Int) := by rw [wrap_small (by omega) (by omega)]; omega
      rw [if_pos (by omega), word_eq s _ (by omega) k (by omega)]; simp only [Option.bind_some]
      rw [step_eq]; simp only [Option.bind_some]
      rw [e, ih k (g + 1) _ (by omega) (by omega) (by omega)]
      conv => rhs; unfold sumT
      rw [if_pos hlt]
    · rw [if_neg (by omega), end_eq]
      conv => rhs; unfold sumT
      rw [if_neg hlt]; rfl

/-- one round of the document's loop, at the j-th byte of the g-th word -/
theorem rround (s : ByteArray) (hs : s.size ≤ 140737488351232) (h : BitVec 64) (g j k : Nat) (hj : j < 8) (hi : 8 * g + j < s.size) (x : BitVec 64) :
    placketref03_Text.l0 (k + 1) s (U h) (U x) (s.size : Int) ((8 * g + j : Nat) : Int)
      = if j = 7 ∨ 8 * g + j + 1 = s.size then placketref03_Text.l0 k s (U (stepB h (x ||| byteB s (8 * g + j) <<< (56 - 8 * j)))) (U 0#64) (s.size : Int) ((8 * g + j + 1 : Nat) : Int)
        else placketref03_Text.l0 k s (U h) (U (x ||| byteB s (8 * g + j) <<< (56 - 8 * j))) (s.size : Int) ((8 * g + j + 1 : Nat) : Int) := by
  have hm : Int.tmod ((8 * g + j : Nat) : Int) 8 = j := by rw [Int.tmod_eq_emod_of_nonneg (by omega)]; omega
  have e1 : wrap64 (8 * (j : Int)) = 8 * (j : Int) := wrap_small (by omega) (by omega)
  have e2 : wrap64 (56 - 8 * (j : Int)) = 56 - 8 * (j : Int) := wrap_small (by omega) (by omega)
  have e3 : IntKind.u64.wrap (56 - 8 * (j : Int)) = ((56 - 8 * j : Nat) : Int) := by rw [wrap_nat (by omega) (by omega)]; omega
  have e : wrap64 (((8 * g + j : Nat) : Int) + 1) = ((8 * g + j + 1 : Nat) : Int) := by rw [wrap_small (by omega) (by omega)]; omega
  have e4 : wrap64 ((s.size : Int) - 1) = (s.size : Int) - 1 := wrap_small (by omega) (by omega)
  have hb : BitVec.ofInt 64 (bt s ((8 * g + j : Nat) : Int)) = byteB s (8 * g + j) := by unfold byteB; rw [if_pos hi]
  have g1 : ((8 * g + j : Nat) : Int) < (s.size : Int) := by omega
  have g2 : (0 : Int) ≤ ((8 * g + j : Nat) : Int) := by omega
  have g3 : (0 : Int) ≤ ((56 - 8 * j : Nat) : Int) := by omega
  have g4 : 56 - 8 * j ≤ 64 := by omega
  have h7 : ((j : Int) = 7) ↔ j = 7 := by omega
  have h8 : (((8 * g + j : Nat) : Int) = (s.size : Int) - 1) ↔ 8 * g + j + 1 = s.size := by omega
  clear hs hj hi
  simp only [placketref03_Text.l0]
  rw [if_pos g1, if_pos g2, if_pos g1, hm, e1, e2, e3, if_pos g3, e4, wrap_U (bt s _), hb, shl_U _ _ g4, or_U, e, rstep_eq]
  simp only [Option.bind_some]
  rw [← U0]
  by_cases c7 : j = 7
  · rw [if_pos (h7.2 c7), if_pos (Or.inl c7)]
  · rw [if_neg (mt h7.1 c7)]
    by_cases c8 : 8 * g + j + 1 = s.size
    · rw [if_pos (h8.2 c8), if_pos (Or.inr c8)]
    · rw [if_neg (mt h8.1 c8), if_neg (fun o => o.elim c7 c8)]

theorem rgroup (s : ByteArray) (hs : s.size ≤ 140737488351232) (h : BitVec 64) (g : Nat) (d : Nat) : ∀ (k j : Nat), j + d + 1 = min 8 (s.size - 8 * g) → d < k →
    placketref03_Text.l0 k s (U h) (U (racc s (8 * g) j)) (s.size : Int) ((8 * g + j : Nat) : Int)
      = placketref03_Text.l0 (k - (d + 1)) s (U (stepB h (racc s (8 * g) 8))) (U 0#64) (s.size : Int) ((8 * g + j + d + 1 : Nat) : Int) := by
  induction d with
  | zero =>
    intro k j hj hk
    obtain ⟨k, rfl⟩ : ∃ m, k = m + 1 := ⟨k - 1, by omega⟩
    have hr : racc s (8 * g) (j + 1) = racc s (8 * g) 8 := by
      by_cases h7 : j = 7
      · rw [h7]
      · have := racc_stop s (8 * g) (j + 1) (by omega) (8 - (j + 1))
        rw [← this]; congr 1; omega
    rw [rround s hs h g j k (by omega) (by omega), if_pos (by omega), ← racc_succ, hr, show k + 1 - (0 + 1) = k by omega]
  | succ d ih =>
    intro k j hj hk
    obtain ⟨k, rfl⟩ : ∃ m, k = m + 1 := ⟨k - 1, by omega⟩
    have := ih k (j + 1) (by omega) (by omega)
    rw [rround s hs h g j k (by omega) (by omega), if_neg (by omega), ← racc_succ, show k + 1 - (d + 1 + 1) = k - (d + 1) by omega, show 8 * g + j + (d + 1) + 1 = 8 * g + (j + 1) + d + 1 by omega]
    exact this

theorem rtext_l (s : ByteArray) (hs : s.size ≤ 140737488351232) (d : Nat) : ∀ (k g : Nat) (h : BitVec 64), s.size < 8 * g + 8 * d → 8 * d + 1 < k →
    placketref03_Text.l0 k s (U h) (U 0#64) (s.size : Int) ((min (8 * g) s.size : Nat) : Int) = some (U (sumT s g d h)) := by
  induction d with
  | zero =>
    intro k g h hd hk
    obtain ⟨k, rfl⟩ : ∃ m, k = m + 1 := ⟨k - 1, by omega⟩
    simp only [placketref03_Text.l0]; rw [if_neg (by omega), rend_eq]; rfl
  | succ d ih =>
    intro k g h hd hk
    by_cases hlt : 8 * g < s.size
    · obtain ⟨q, hq⟩ : ∃ q, q + 1 = min 8 (s.size - 8 * g) := ⟨min 8 (s.size - 8 * g) - 1, by omega⟩
      have := rgroup s hs h g q k 0 (by omega) (by omega)
      rw [show min (8 * g) s.size = 8 * g + 0 by omega]
      refine this.trans ?_
      rw [show 8 * g + 0 + q + 1 = min (8 * (g + 1)) s.size by omega, ih _ (g + 1) _ (by omega) (by omega)]
      conv => rhs; unfold sumT
      rw [if_pos hlt]
    · obtain ⟨k, rfl⟩ : ∃ m, k = m + 1 := ⟨k - 1, by omega⟩
      simp only [placketref03_Text.l0]
      rw [if_neg (by omega), rend_eq]
      conv => rhs; unfold sumT
      rw [if_neg hlt]; rfl

theorem sums_ev (h : Int) (hh : (Lit.int .u64 h).wf = true) (s : ByteArray) (hs : s.size ≤ 140737488351232) :
    ∃ r, Ev (fun k => mix_Text.f k h s) r ∧ Ev (fun k => placketref03_Text.f k h s) r := by
  obtain ⟨h, rfl⟩ := wf_U hh
  refine ⟨U (sumT s 0 (s.size + 1) (stepB h (BitVec.ofInt 64 (s.size : Int)))), ?_, ?_⟩
  · refine Ev.of (mix_Text.mono _ _) (k := 8 * s.size + 20) ?_
    unfold mix_Text.f; rw [wrap_U, step_eq]; exact text_l s hs (s.size + 1) _ 0 _ (by omega) (by omega) (by omega)
  · refine Ev.of (placketref03_Text.mono _ _) (k := 8 * s.size + 20) ?_
    unfold placketref03_Text.f; rw [wrap_U, rstep_eq]
    have := rtext_l s hs (s.size + 1) (8 * s.size + 20) 0 (stepB h (BitVec.ofInt 64 (s.size : Int))) (by omega) (by omega)
    rw [show min (8 * 0) s.size = 0 by omega, ← U0] at this
    exact this
end Go.Proofs.Ytdfgehjhecmojaa.ScM
