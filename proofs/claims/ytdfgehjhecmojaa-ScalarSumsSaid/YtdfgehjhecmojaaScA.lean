/- Plain laws on the printed functions of scalars: what is wrong with one, and its key. -/
import Derived.Test.YtdfgehjhecmojaaPSx5
import Derived.Test.YtdfgehjhecmojaaBs
import Derived.Test.YtdfgehjhecmojaaOwnnumBytes
import Derived.Test.YtdfgehjhecmojaaOwnplacketref05Check
namespace Go.Proofs.Ytdfgehjhecmojaa.Sc
open Go Go.RowKit Go.Proofs.Ytdfgehjhecmojaa.PS Go.Proofs.YtdfgehjhecmojaaW.PrintWords Go.Proofs.YtdfgehjhecmojaaW.PrintLast Go.Proofs.Ytdfgehjhecmojaa.Bs

theorem toList_nil : (⟨#[]⟩ : ByteArray).toList = [] := bs_toList []

theorem check_at (k : Nat) (a b : Int) (l : List UInt8) : scalar_Check.f (k + 2) a b (bs l) = some (chk a b l) := by
  have nilb : ∀ m : List UInt8, (([] : List UInt8) == m) = decide (m = []) := fun m => by cases m <;> rfl
  unfold scalar_Check.f chk
  by_cases h3 : a = 3
  · subst h3
    simp only [scalar_Check.j1, bs_toList, if_true, beq_self_eq_true, Bool.not_true, Bool.or_false]
    by_cases hb : b = 0
    · subst hb; simp
    · have : ((0 : Int) == b) = false := by simpa using Ne.symm hb
      simp [this, hb]
  · rw [if_neg h3]
    by_cases h1 : a = 1
    · subst h1
      simp only [scalar_Check.j0, scalar_Check.j1, beq_self_eq_true, if_true, toList_nil, bs_toList, nilb]
      by_cases hl : l = []
      · subst hl
        by_cases hb0 : b = 0
        · subst hb0; simp
        · by_cases hb1 : b = 1
          · subst hb1; simp
          · have : b < 0 ∨ b > 1 := by omega
            rcases this with h | h
            · simp [h, hb0, hb1]
            · simp [h, hb0, hb1, show ¬ b < 0 by omega]
      · simp [hl]
    · rw [if_neg h1]
      by_cases h2 : a = 2
      · subst h2
        simp only [scalar_Check.j0, scalar_Check.j1, beq_self_eq_true, if_true, toList_nil, bs_toList, nilb]
        by_cases hl : l = []
        · subst hl; simp
        · simp [hl]
      · have e2 : (a == 2) = false := by simpa using h2
        simp only [scalar_Check.j0, e2, Bool.false_eq_true, if_false]
        by_cases h0 : a = 0
        · subst h0
          simp only [scalar_Check.j1, if_true, toList_nil, bs_toList, nilb]
          by_cases hb : b = 0
          · subst hb
            by_cases hl : l = []
            · subst hl; simp
            · simp [hl]
          · have : ((0 : Int) == b) = false := by simpa using Ne.symm hb
            simp [this, hb]
        · rw [if_neg h0, if_pos (by omega)]

/-- the eight bytes of a number -/
def b8 (u : Int) : List UInt8 := (nums8 u).map fun n => UInt8.ofNat n.toNat
theorem str_b8 (u : Int) : strOfNums (nums8 u) = bs (b8 u) := rfl
theorem b8_length (u : Int) : (b8 u).length = 8 := rfl

theorem top_of (b : Int) (h0 : -9223372036854775808 ≤ b) (h1 : b ≤ 9223372036854775807) : Go.bits .xor .u64 (IntKind.u64.wrap b) 9223372036854775808 = b + 9223372036854775808 := by
  rw [xor_top, U64.wrap_u64, U64.wrap_u64]; omega

theorem bytes_ev (b : Int) (h0 : -9223372036854775808 ≤ b) (h1 : b ≤ 9223372036854775807) : Ev (fun k => num_Bytes.f k b) (bs (b8 (b + 9223372036854775808))) := by
  refine Ev.of (num_Bytes.mono b) (k := 9) ?_
  unfold num_Bytes.f
  rw [if_pos (by decide), ← xor_top, top_of b h0 h1, l0_nine, str_b8]

theorem rl0_nine (u : Int) : placketref01_Bytes.l0 9 u (List.replicate 8 0) 0 = some (strOfNums (nums8 u)) := by
  simp [placketref01_Bytes.l0, wrap64, shr, IntKind.wrap, IntKind.bits, IntKind.signed, nums8, List.replicate]
theorem rbytes_ev (b : Int) (h0 : -9223372036854775808 ≤ b) (h1 : b ≤ 9223372036854775807) : Ev (fun k => placketref01_Bytes.f k b) (bs (b8 (b + 9223372036854775808))) := by
  refine Ev.of (placketref01_Bytes.mono b) (k := 9) ?_
  unfold placketref01_Bytes.f
  rw [if_pos (by decide), ← xor_top, top_of b h0 h1, rl0_nine, str_b8]

/-- a byte as it stands in a key -/
def cov1 (c : UInt8) : List UInt8 := if c = 0 then [0, 255] else [c]
/-- a text's bytes as they stand in a key -/
def cov (l : List UInt8) : List UInt8 := l.flatMap cov1
theorem cov_nil : cov [] = [] := rfl
theorem cov_cons (c : UInt8) (l : List UInt8) : cov (c :: l) = cov1 c ++ cov l := rfl
theorem cov1_length (c : UInt8) : (cov1 c).length ≤ 2 ∧ 1 ≤ (cov1 c).length := by unfold cov1; split <;> simp
theorem cov_length (l : List UInt8) : (cov l).length ≤ 2 * l.length := by
  induction l with
  | nil => simp [cov]
  | cons c l ih => rw [cov_cons, List.length_append, List.length_cons]; have := cov1_length c; omega

theorem key_loop (a b : Int) (l : List UInt8) (hl : l.length ≤ 1000000) (r : List UInt8) : ∀ (i : Nat) (acc : List UInt8), l.drop i = r → i ≤ l.length → acc.length ≤ 2 * i + 1 →
    Ev (fun k => scalar_Key.l0 k (N acc) (l.length : Int) (i : Int) a b (bs l)) (bs (acc ++ (cov r ++ [0, 0]))) := by
  induction r with
  | nil =>
    intro i acc h hi ha
    have hlen : l.length ≤ i := List.drop_eq_nil_iff.1 h
    refine Ev.ge 1 fun k => ?_
    simp only [scalar_Key.l0]
    rw [if_neg (by omega)]
    simp only [Option.bind_some]
    rw [if_pos (by rw [N_length]; simp; omega), show ([0, 0] : List Int) = N [0, 0] from rfl, ← N_append, strOfNums_N]; rfl
  | cons c r ih =>
    intro i acc h hi ha
    obtain ⟨hlt, hd, hg⟩ := drop_cons h
    have hstep := ih (i + 1) (acc ++ cov1 c) hd (by omega) (by rw [List.length_append]; have := cov1_length c; omega)
    rw [cov_cons, List.append_assoc, ← List.append_assoc acc]
    refine Ev.step (fun k => ?_) hstep
    simp only [scalar_Key.l0]
    rw [if_pos (by omega), if_pos (by omega), if_pos (by rw [bs_size]; omega), if_pos (by rw [N_length]; omega), bt_at hg, w64_succ (by omega)]
    simp only [Option.bind_some]
    have e1 : N acc ++ [(c.toNat : Int)] = N (acc ++ [c]) := by rw [N_append]; rfl
    by_cases hc : c = 0
    · subst hc
      rw [if_pos (by decide), if_pos (by simp [N_length]; omega)]
      show scalar_Key.l0 k (N acc ++ [((0 : UInt8).toNat : Int)] ++ [255]) _ _ a b (bs l) = _
      rw [e1, show cov1 0 = [0, 255] from rfl, show ([255] : List Int) = N [255] from rfl, ← N_append, List.append_assoc]; rfl
    · rw [if_neg (mt (byte_zero c).1 hc), e1, show cov1 c = [c] by unfold cov1; rw [if_neg hc]]

/-- the key of a scalar -/
def keyL (a b : Int) (l : List UInt8) : List UInt8 :=
  if chk a b l ≠ 0 then [] else if a = 0 then [1] else if a = 1 then [2, UInt8.ofNat b.toNat] else if a = 2 then 3 :: b8 (b + 9223372036854775808) else 4 :: (cov l ++ [0, 0])

theorem chk_zero {a b : Int} {l : List UInt8} (h : chk a b l = 0) : (0 ≤ a ∧ a ≤ 3) ∧ ((a = 0 ∨ a = 3) → b = 0) ∧ (a ≠ 3 → l = []) ∧ (a = 1 → b = 0 ∨ b = 1) := by
  unfold chk at h
  by_cases h1 : a < 0 ∨ 3 < a
  · rw [if_pos h1] at h; cases h
  · rw [if_neg h1] at h
    by_cases h2 : (a = 0 ∨ a = 3) ∧ b ≠ 0
    · rw [if_pos h2] at h; cases h
    · rw [if_neg h2] at h
      by_cases h3 : a ≠ 3 ∧ l ≠ []
      · rw [if_pos h3] at h; cases h
      · rw [if_neg h3] at h
        by_cases h4 : a = 1 ∧ b ≠ 0 ∧ b ≠ 1
        · rw [if_pos h4] at h; cases h
        · refine ⟨by omega, fun ha => by omega, fun ha => ?_, fun ha => by omega⟩
          exact Classical.byContradiction fun hl => h3 ⟨ha, hl⟩

theorem key_ev (a b : Int) (l : List UInt8) (hl : l.length ≤ 1000000) (h0 : -9223372036854775808 ≤ b) (h1 : b ≤ 9223372036854775807) :
    Ev (fun k => scalar_Key.f k a b (bs l)) (bs (keyL a b l)) := by
  unfold scalar_Key.f
  refine Ev.bind (Ev.ge 2 fun k => check_at k a b l) ?_
  unfold keyL
  by_cases hc : chk a b l = 0
  · obtain ⟨⟨ha0, ha3⟩, hb, ht, hbb⟩ := chk_zero hc
    simp only [hc, if_true, Option.bind_some, ne_eq, not_true, if_false]
    obtain rfl | rfl | rfl | rfl : a = 0 ∨ a = 1 ∨ a = 2 ∨ a = 3 := by omega
    · refine Ev.const ?_
      rw [show wrap64 (1 + 0) % 256 = 1 by decide +kernel]; rfl
    · rcases hbb rfl with rfl | rfl
      · refine Ev.const ?_
        rw [show wrap64 (1 + 1) % 256 = 2 by decide +kernel]; rfl
      · refine Ev.const ?_
        rw [show wrap64 (1 + 1) % 256 = 2 by decide +kernel]; rfl
    · simp only [show ¬ ((2 : Int) = 1) by decide, show ¬ ((2 : Int) = 0) by decide, if_false, if_true, show wrap64 (1 + 2) % 256 = 3 by decide +kernel]
      refine Ev.bind (bytes_ev b h0 h1) (Ev.const ?_)
      rw [if_pos (by rw [bs_size, b8_length]; decide), bytesOf_bs]
      show some (strOfNums (N [3] ++ N (b8 _))) = _
      rw [← N_append, strOfNums_N]; rfl
    · simp only [show ¬ ((3 : Int) = 1) by decide, show ¬ ((3 : Int) = 0) by decide, show ¬ ((3 : Int) = 2) by decide, if_false, if_true]
      have := key_loop 3 b l hl l 0 [4] rfl (by omega) (by simp)
      rw [bs_size, show wrap64 (1 + 3) % 256 = 4 by decide +kernel]
      exact this
  · simp only [hc, if_false, ne_eq, not_false_eq_true, if_true]
    exact Ev.const rfl

theorem cov_loop (l : List UInt8) (hl : l.length ≤ 1000000) (r : List UInt8) : ∀ (i : Nat) (acc : List UInt8), l.drop i = r → i ≤ l.length → acc.length ≤ 2 * i →
    Ev (fun k => placketref05_Covered.l0 k (bs l) (bs acc) (l.length : Int) (i : Int)) (bs (acc ++ cov r)) := by
  induction r with
  | nil =>
    intro i acc h hi ha
    have hlen : l.length ≤ i := List.drop_eq_nil_iff.1 h
    refine Ev.ge 1 fun k => ?_
    simp only [placketref05_Covered.l0]
    rw [if_neg (by omega), cov_nil, List.append_nil]
  | cons c r ih =>
    intro i acc h hi ha
    obtain ⟨hlt, hd, hg⟩ := drop_cons h
    have hstep := ih (i + 1) (acc ++ cov1 c) hd (by omega) (by rw [List.length_append]; have := cov1_length c; omega)
    rw [cov_cons, ← List.append_assoc]
    refine Ev.step (fun k => ?_) hstep
    have hx : (bs l).extract ((i : Int)).toNat (((i + 1 : Nat) : Int)).toNat = bs [c] := by
      rw [bs_extract, Int.toNat_natCast, Int.toNat_natCast, List.drop_take, h, show i + 1 - i = 1 by omega]; rfl
    simp only [placketref05_Covered.l0]
    rw [w64_succ (by omega), hx, if_pos (by omega), if_pos (by omega), if_pos (by omega), if_pos (by rw [bs_size]; omega), if_pos (by simp only [bs_size, List.length_singleton]; omega),
      if_pos (by rw [bs_size]; omega), bt_at hg, bs_append]
    by_cases hc : c = 0
    · subst hc
      rw [if_pos (by decide), if_pos (by simp only [bs_size, List.length_append, List.length_singleton]; omega), show (⟨#[255]⟩ : ByteArray) = bs [255] from rfl, bs_append, List.append_assoc]; rfl
    · rw [if_neg (mt (byte_zero c).1 hc), show cov1 c = [c] by unfold cov1; rw [if_neg hc]]

theorem covered_ev (l : List UInt8) (hl : l.length ≤ 1000000) : Ev (fun k => placketref05_Covered.f k (bs l)) (bs (cov l)) := by
  unfold placketref05_Covered.f
  rw [bs_size]
  exact cov_loop l hl l 0 [] rfl (by omega) (by simp)

theorem rkey_ev (a b : Int) (l : List UInt8) (hl : l.length ≤ 1000000) (h0 : -9223372036854775808 ≤ b) (h1 : b ≤ 9223372036854775807) :
    Ev (fun k => placketref05_Key.f k a b (bs l)) (bs (keyL a b l)) := by
  unfold placketref05_Key.f
  refine Ev.bind (Ev.ge 3 fun k => rcheck_at k a b l) ?_
  unfold keyL
  by_cases hc : chk a b l = 0
  · obtain ⟨⟨ha0, ha3⟩, hb, ht, hbb⟩ := chk_zero hc
    simp only [hc, if_true, Option.bind_some, ne_eq, not_true, if_false]
    obtain rfl | rfl | rfl | rfl : a = 0 ∨ a = 1 ∨ a = 2 ∨ a = 3 := by omega
    · exact Ev.const rfl
    · rcases hbb rfl with rfl | rfl <;> exact Ev.const rfl
    · simp only [show ¬ ((2 : Int) = 1) by decide, show ¬ ((2 : Int) = 0) by decide, if_false, if_true]
      refine Ev.bind (rbytes_ev b h0 h1) (Ev.const ?_)
      rw [if_pos (by rw [bs_size, b8_length]; decide), show (⟨#[3]⟩ : ByteArray) = bs [3] from rfl, bs_append]; rfl
    · simp only [show ¬ ((3 : Int) = 1) by decide, show ¬ ((3 : Int) = 0) by decide, show ¬ ((3 : Int) = 2) by decide, if_false]
      have hcl := cov_length l
      refine Ev.bind (covered_ev l hl) (Ev.const ?_)
      rw [if_pos (by rw [bs_size]; omega), show (⟨#[4]⟩ : ByteArray) = bs [4] from rfl, bs_append, if_pos (by rw [bs_size, List.length_append, List.length_singleton]; omega), show (⟨#[0, 0]⟩ : ByteArray) = bs [0, 0] from rfl, bs_append]; rfl
  · simp only [hc, if_false, ne_eq, not_false_eq_true, if_true]
    exact Ev.const rfl
end Go.Proofs.Ytdfgehjhecmojaa.Sc
