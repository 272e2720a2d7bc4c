/- Scalars: their order is total; keys are read back; keys are in order. Plain laws. -/
import Derived.Test.YtdfgehjhecmojaaScD
set_option linter.unusedVariables false
set_option linter.unusedSimpArgs false
namespace Go.Proofs.Ytdfgehjhecmojaa.Sc
open Go Go.RowKit Go.Proofs.Ytdfgehjhecmojaa.PS Go.Proofs.YtdfgehjhecmojaaW.PrintWords Go.Proofs.YtdfgehjhecmojaaW.PrintLast Go.Proofs.Ytdfgehjhecmojaa.Bs

theorem less_trans (a : List UInt8) : ∀ b c, Op.bytesLess a b = true → Op.bytesLess b c = true → Op.bytesLess a c = true := by
  induction a with
  | nil =>
    intro b c h1 h2
    cases c with
    | nil => cases b <;> simp [Op.bytesLess] at h2
    | cons z c => rfl
  | cons x a ih =>
    intro b c h1 h2
    cases b with
    | nil => simp [Op.bytesLess] at h1
    | cons y b =>
      cases c with
      | nil => simp [Op.bytesLess] at h2
      | cons z c =>
        simp only [Op.bytesLess, Bool.or_eq_true, decide_eq_true_eq, Bool.and_eq_true, beq_iff_eq, UInt8.lt_iff_toNat_lt] at h1 h2 ⊢
        rcases h1 with h1 | ⟨rfl, h1⟩
        · rcases h2 with h2 | ⟨rfl, h2⟩
          · exact Or.inl (by omega)
          · exact Or.inl h1
        · rcases h2 with h2 | ⟨rfl, h2⟩
          · exact Or.inl h2
          · exact Or.inr ⟨rfl, ih b c h1 h2⟩
theorem less_asymm {a b : List UInt8} (h1 : Op.bytesLess a b = true) (h2 : Op.bytesLess b a = true) : False := by
  have := less_trans a b a h1 h2
  rw [less_self] at this
  cases this

/-- one scalar is ahead of another one -/
def ltS (a b : Int) (l : List UInt8) (a' b' : Int) (l' : List UInt8) : Prop := a < a' ∨ (a = a' ∧ (b < b' ∨ (b = b' ∧ Op.bytesLess l l' = true)))

theorem ordS_cases (a b : Int) (l : List UInt8) (a' b' : Int) (l' : List UInt8) :
    (ltS a b l a' b' l' ∧ ordS a b l a' b' l' = -1) ∨ (ltS a' b' l' a b l ∧ ordS a b l a' b' l' = 1) ∨ ((a = a' ∧ b = b' ∧ l = l') ∧ ordS a b l a' b' l' = 0) := by
  unfold ltS ordS
  by_cases h1 : a < a'
  · rw [if_pos h1]; exact Or.inl ⟨Or.inl h1, rfl⟩
  · rw [if_neg h1]
    by_cases h2 : a > a'
    · rw [if_pos h2]; exact Or.inr (Or.inl ⟨Or.inl h2, rfl⟩)
    · rw [if_neg h2]
      obtain rfl : a = a' := by omega
      by_cases h3 : b < b'
      · rw [if_pos h3]; exact Or.inl ⟨Or.inr ⟨rfl, Or.inl h3⟩, rfl⟩
      · rw [if_neg h3]
        by_cases h4 : b > b'
        · rw [if_pos h4]; exact Or.inr (Or.inl ⟨Or.inr ⟨rfl, Or.inl h4⟩, rfl⟩)
        · rw [if_neg h4]
          obtain rfl : b = b' := by omega
          unfold ordL
          by_cases h5 : Op.bytesLess l l' = true
          · rw [if_pos h5]; exact Or.inl ⟨Or.inr ⟨rfl, Or.inr ⟨rfl, h5⟩⟩, rfl⟩
          · rw [if_neg h5]
            by_cases h6 : Op.bytesLess l' l = true
            · rw [if_pos h6]; exact Or.inr (Or.inl ⟨Or.inr ⟨rfl, Or.inr ⟨rfl, h6⟩⟩, rfl⟩)
            · rw [if_neg h6]; exact Or.inr (Or.inr ⟨⟨rfl, rfl, less_three l l' (by simpa using h5) (by simpa using h6)⟩, rfl⟩)

theorem ltS_irrefl {a b : Int} {l : List UInt8} (h : ltS a b l a b l) : False := by
  unfold ltS at h
  rcases h with h | ⟨_, h | ⟨_, h⟩⟩
  · omega
  · omega
  · rw [less_self] at h; cases h
theorem ltS_trans {a b : Int} {l : List UInt8} {a' b' : Int} {l' : List UInt8} {a'' b'' : Int} {l'' : List UInt8} (h : ltS a b l a' b' l') (k : ltS a' b' l' a'' b'' l'') : ltS a b l a'' b'' l'' := by
  unfold ltS at h k ⊢
  rcases h with h | ⟨rfl, h⟩
  · rcases k with k | ⟨rfl, k⟩
    · exact Or.inl (by omega)
    · exact Or.inl h
  · rcases k with k | ⟨rfl, k⟩
    · exact Or.inl k
    · refine Or.inr ⟨rfl, ?_⟩
      rcases h with h | ⟨rfl, h⟩
      · rcases k with k | ⟨rfl, k⟩
        · exact Or.inl (by omega)
        · exact Or.inl h
      · rcases k with k | ⟨rfl, k⟩
        · exact Or.inl k
        · exact Or.inr ⟨rfl, less_trans _ _ _ h k⟩

theorem same_true {a b : Int} {l : List UInt8} : (a == a && (b == b && (l == l))) = true := by simp
theorem same_false {a b : Int} {l : List UInt8} {a' b' : Int} {l' : List UInt8} (h : ¬ (a = a' ∧ b = b' ∧ l = l')) : (a == a' && (b == b' && (l == l'))) = false := by
  rw [Bool.eq_false_iff]
  intro e
  simp only [Bool.and_eq_true, beq_iff_eq] at e
  exact h e

theorem total_plain (a b : Int) (l : List UInt8) (a' b' : Int) (l' : List UInt8) (a'' b'' : Int) (l'' : List UInt8) :
    ∃ x y z : Int, ordS a b l a' b' l' = x ∧ ordS a' b' l' a'' b'' l'' = y ∧ ordS a b l a'' b'' l'' = z ∧ -1 ≤ x ∧ x ≤ 1 ∧ ordS a' b' l' a b l = -x ∧ ((x == 0) = (a == a' && (b == b' && (l == l')))) ∧
      (0 < x ∨ 0 < y ∨ (z ≤ 0 ∧ (z < 0 ∨ (x = 0 ∧ y = 0)))) := by
  refine ⟨_, _, _, rfl, rfl, rfl, ?_⟩
  have hx := ordS_cases a b l a' b' l'
  have hr := ordS_cases a' b' l' a b l
  have hy := ordS_cases a' b' l' a'' b'' l''
  have hz := ordS_cases a b l a'' b'' l''
  rcases hx with ⟨hx, ex⟩ | ⟨hx, ex⟩ | ⟨⟨rfl, rfl, rfl⟩, ex⟩
  · rw [ex]
    refine ⟨by omega, by omega, ?_, ?_, ?_⟩
    · rcases hr with ⟨hr, er⟩ | ⟨hr, er⟩ | ⟨⟨rfl, rfl, rfl⟩, er⟩
      · exact (ltS_irrefl (ltS_trans hx hr)).elim
      · rw [er]; rfl
      · exact (ltS_irrefl hx).elim
    · rw [same_false (fun ⟨e1, e2, e3⟩ => by subst e1; subst e2; subst e3; exact ltS_irrefl hx)]; rfl
    · rcases hy with ⟨hy, ey⟩ | ⟨hy, ey⟩ | ⟨⟨rfl, rfl, rfl⟩, ey⟩
      · refine Or.inr (Or.inr ?_)
        rcases hz with ⟨hz, ez⟩ | ⟨hz, ez⟩ | ⟨⟨rfl, rfl, rfl⟩, ez⟩
        · omega
        · exact (ltS_irrefl (ltS_trans (ltS_trans hx hy) hz)).elim
        · exact (ltS_irrefl (ltS_trans hx hy)).elim
      · omega
      · refine Or.inr (Or.inr ?_)
        rw [ex]; omega
  · rw [ex]
    refine ⟨by omega, by omega, ?_, ?_, Or.inl (by omega)⟩
    · rcases hr with ⟨hr, er⟩ | ⟨hr, er⟩ | ⟨⟨rfl, rfl, rfl⟩, er⟩
      · rw [er]
      · exact (ltS_irrefl (ltS_trans hx hr)).elim
      · exact (ltS_irrefl hx).elim
    · rw [same_false (fun ⟨e1, e2, e3⟩ => by subst e1; subst e2; subst e3; exact ltS_irrefl hx)]; rfl
  · rw [ex]
    refine ⟨by omega, by omega, by omega, by rw [same_true]; rfl, ?_⟩
    rcases hy with ⟨hy, ey⟩ | ⟨hy, ey⟩ | ⟨⟨rfl, rfl, rfl⟩, ey⟩
    · rw [ey]; omega
    · omega
    · rw [ey]; omega

/-! keys read back -/

/-- the n lowest bytes of a number, the highest one first -/
def be : Nat → Nat → List UInt8
  | 0, _ => []
  | n + 1, u => UInt8.ofNat (u / 256 ^ n % 256) :: be n u
theorem be_length (n u : Nat) : (be n u).length = n := by
  induction n with
  | zero => rfl
  | succ n ih => simp [be, ih]

theorem b8_be (u : Nat) : b8 (u : Int) = be 8 u := by
  have e1 : (((u : Int) / 72057594037927936) % 256).toNat = u / 72057594037927936 % 256 := by omega
  have e2 : (((u : Int) / 281474976710656) % 256).toNat = u / 281474976710656 % 256 := by omega
  have e3 : (((u : Int) / 1099511627776) % 256).toNat = u / 1099511627776 % 256 := by omega
  have e4 : (((u : Int) / 4294967296) % 256).toNat = u / 4294967296 % 256 := by omega
  have e5 : (((u : Int) / 16777216) % 256).toNat = u / 16777216 % 256 := by omega
  have e6 : (((u : Int) / 65536) % 256).toNat = u / 65536 % 256 := by omega
  have e7 : (((u : Int) / 256) % 256).toNat = u / 256 % 256 := by omega
  have e8 : ((u : Int) % 256).toNat = u % 256 := by omega
  unfold b8 nums8
  simp only [List.map_cons, List.map_nil, e1, e2, e3, e4, e5, e6, e7, e8]
  simp only [be, Nat.reducePow, Nat.div_one]

theorem ofNat_mod (n : Nat) : (UInt8.ofNat (n % 256)).toNat = n % 256 := by simp

theorem word_be (n : Nat) : ∀ v u : Nat, word v (be n u) = v * 256 ^ n + u % 256 ^ n := by
  induction n with
  | zero => intro v u; simp [be, word, Nat.mod_one]
  | succ n ih =>
    intro v u
    show word (v * 256 + (UInt8.ofNat (u / 256 ^ n % 256)).toNat) (be n u) = _
    rw [ih, ofNat_mod, Nat.mod_pow_succ, Nat.pow_succ, Nat.add_mul, Nat.mul_assoc v, Nat.mul_comm 256 (256 ^ n), Nat.mul_comm (u / 256 ^ n % 256)]
    omega

theorem word_split (r : List UInt8) : ∀ w : Nat, word w r = w * 256 ^ r.length + word 0 r := by
  induction r with
  | nil => intro w; simp [word]
  | cons c r ih =>
    intro w
    show word (w * 256 + c.toNat) r = _ + word (0 * 256 + c.toNat) r
    rw [ih (w * 256 + c.toNat), ih (0 * 256 + c.toNat), List.length_cons, Nat.pow_succ, Nat.add_mul, Nat.zero_mul, Nat.zero_add, Nat.mul_assoc, Nat.mul_comm 256]
    omega

theorem be_word (r : List UInt8) : ∀ v : Nat, be r.length (word v r) = r := by
  induction r with
  | nil => intro v; rfl
  | cons c r ih =>
    intro v
    show UInt8.ofNat (word (v * 256 + c.toNat) r / 256 ^ r.length % 256) :: be r.length (word (v * 256 + c.toNat) r) = c :: r
    have hlt := word_lt r 0 0 (by decide)
    rw [Nat.zero_add] at hlt
    rw [ih, word_split, Nat.mul_comm, Nat.mul_add_div (Nat.pos_of_ne_zero (by intro h; rw [h] at hlt; omega)), Nat.div_eq_of_lt hlt, Nat.add_zero, Nat.mul_comm v, Nat.mul_add_mod]
    have hc := c.toNat_lt
    rw [Nat.mod_eq_of_lt hc, UInt8.ofNat_toNat]

theorem num8_b8 (b : Int) (h0 : -9223372036854775808 ≤ b) (h1 : b ≤ 9223372036854775807) : num8 (b8 (b + 9223372036854775808)) = b := by
  obtain ⟨u, hu⟩ : ∃ u : Nat, b + 9223372036854775808 = u := ⟨(b + 9223372036854775808).toNat, by omega⟩
  rw [hu, b8_be]
  unfold num8
  rw [word_be, Nat.mod_eq_of_lt (show u < 256 ^ 8 by have : (256 : Nat) ^ 8 = 18446744073709551616 := by decide
                                                     omega)]
  omega
theorem b8_num8 (r : List UInt8) (hr : r.length = 8) : b8 (num8 r + 9223372036854775808) = r ∧ -9223372036854775808 ≤ num8 r ∧ num8 r ≤ 9223372036854775807 := by
  have hlt := word_lt r 0 0 (by decide)
  rw [Nat.zero_add, hr] at hlt
  have h8 : (256 : Nat) ^ 8 = 18446744073709551616 := by decide
  unfold num8
  refine ⟨?_, by omega, by omega⟩
  rw [show (word 0 r : Int) - 9223372036854775808 + 9223372036854775808 = ((word 0 r : Nat) : Int) by omega, b8_be]
  have := be_word r 0
  rw [hr] at this
  exact this

theorem bare_cov (l : List UInt8) (rest : List UInt8) : ∀ (acc : List UInt8) (p : Nat), bare false (cov l ++ 0 :: 0 :: rest) acc p = (acc ++ l, p + ((cov l).length + 2), 0) := by
  induction l with
  | nil => intro acc p; simp [cov_nil, bare]
  | cons c l ih =>
    intro acc p
    rw [cov_cons]
    by_cases hc : c = 0
    · subst hc
      show bare false (0 :: 255 :: (cov l ++ 0 :: 0 :: rest)) acc p = _
      have e : bare false (0 :: 255 :: (cov l ++ 0 :: 0 :: rest)) acc p = bare false (cov l ++ 0 :: 0 :: rest) (acc ++ [0]) (p + 2) := by
        conv => lhs; unfold bare
        rw [if_pos rfl]
        conv => lhs; unfold bare
        rw [if_neg (by decide), if_pos rfl]
      rw [e, ih]
      simp [cov1]
      omega
    · have e1 : cov1 c = [c] := by unfold cov1; rw [if_neg hc]
      rw [e1]
      show bare false (c :: (cov l ++ 0 :: 0 :: rest)) acc p = _
      conv => lhs; unfold bare
      rw [if_neg hc, ih]
      simp
      omega

theorem bare_short (l : List UInt8) : ∀ (t : Nat) (acc : List UInt8) (p : Nat), t < (cov l).length + 2 → bare false ((cov l ++ [0, 0]).take t) acc p = ([], p + t, 10) := by
  induction l with
  | nil =>
    intro t acc p h
    rw [cov_nil] at h ⊢
    have : t = 0 ∨ t = 1 := by simp at h; omega
    rcases this with rfl | rfl <;> rfl
  | cons c l ih =>
    intro t acc p h
    rw [cov_cons] at h ⊢
    by_cases hc : c = 0
    · subst hc
      rw [show cov1 0 = [0, 255] from rfl] at h ⊢
      show bare false ((0 :: 255 :: (cov l ++ [0, 0])).take t) acc p = _
      match t, h with
      | 0, _ => rfl
      | 1, _ => rfl
      | t + 2, h =>
        rw [List.take_succ_cons, List.take_succ_cons]
        conv => lhs; unfold bare
        rw [if_pos rfl]
        conv => lhs; unfold bare
        rw [if_neg (by decide), if_pos rfl, ih t _ _ (by simp at h; omega)]
        congr 2; omega
    · have e1 : cov1 c = [c] := by unfold cov1; rw [if_neg hc]
      rw [e1] at h ⊢
      show bare false ((c :: (cov l ++ [0, 0])).take t) acc p = _
      match t, h with
      | 0, _ => rfl
      | t + 1, h =>
        rw [List.take_succ_cons]
        conv => lhs; unfold bare
        rw [if_neg hc, ih t _ _ (by simp at h; omega)]
        congr 2; omega

theorem bare_inv (n : Nat) : ∀ (r acc : List UInt8) (p : Nat), r.length ≤ n → (bare false r acc p).2.2 = 0 → ∃ l rest, r = cov l ++ 0 :: 0 :: rest := by
  induction n with
  | zero =>
    intro r acc p hr h
    obtain rfl := List.length_eq_zero_iff.1 (Nat.le_zero.1 hr)
    simp [bare] at h
  | succ n ih =>
    intro r acc p hr h
    cases r with
    | nil => simp [bare] at h
    | cons c r =>
      by_cases hc : c = 0
      · subst hc
        unfold bare at h
        rw [if_pos rfl] at h
        cases r with
        | nil => simp [bare] at h
        | cons d r =>
          unfold bare at h
          by_cases h0 : d = 0
          · subst h0; exact ⟨[], r, rfl⟩
          · rw [if_neg h0] at h
            by_cases h5 : d = 255
            · subst h5
              rw [if_pos rfl] at h
              obtain ⟨l, rest, e⟩ := ih r _ _ (by simp at hr; omega) h
              exact ⟨0 :: l, rest, by rw [cov_cons, e]; rfl⟩
            · rw [if_neg h5] at h
              simp at h
      · unfold bare at h
        rw [if_neg hc] at h
        obtain ⟨l, rest, e⟩ := ih r _ _ (by simp at hr; omega) h
        exact ⟨c :: l, rest, by rw [cov_cons, e]; unfold cov1; rw [if_neg hc]; rfl⟩

theorem unkL_3 (r : List UInt8) : unkL (3 :: r) = if r.length < 8 then (0, 0, [], r.length + 1, 10) else (2, num8 (r.take 8), [], 9, 0) := by simp [unkL]
theorem unkL_4 (r : List UInt8) : unkL (4 :: r) = if (bare false r [] 1).2.2 = 0 then (3, 0, (bare false r [] 1).1, (bare false r [] 1).2.1, 0) else (0, 0, [], (bare false r [] 1).2.1, (bare false r [] 1).2.2) := by simp [unkL]
theorem unkL_o {c : UInt8} (h1 : ¬ c = 1) (h2 : ¬ c = 2) (h3 : ¬ c = 3) (h4 : ¬ c = 4) (r : List UInt8) : unkL (c :: r) = (0, 0, [], 0, 2) := by simp [unkL, h1, h2, h3, h4]

/-- a key is read as its scalar, whatever stands behind -/
theorem unk_key (a b : Int) (l y : List UInt8) (hc : chk a b l = 0) (h0 : -9223372036854775808 ≤ b) (h1 : b ≤ 9223372036854775807) :
    unkL (keyL a b l ++ y) = (a, b, l, (keyL a b l).length, 0) := by
  obtain ⟨⟨ha0, ha3⟩, hb, ht, hbb⟩ := chk_zero hc
  unfold keyL
  rw [if_neg (by rw [hc]; simp)]
  obtain rfl | rfl | rfl | rfl : a = 0 ∨ a = 1 ∨ a = 2 ∨ a = 3 := by omega
  · rw [if_pos rfl, hb (Or.inl rfl), ht (by decide)]; rfl
  · rw [if_neg (by decide), if_pos rfl, ht (by decide)]
    rcases hbb rfl with rfl | rfl <;> rfl
  · rw [if_neg (by decide), if_neg (by decide), if_pos rfl, ht (by decide)]
    show unkL (3 :: (b8 _ ++ y)) = _
    have hl : (b8 (b + 9223372036854775808) ++ y).length = 8 + y.length := by rw [List.length_append, b8_length]
    rw [unkL_3, if_neg (by omega), List.take_left' (b8_length _), num8_b8 b h0 h1]; rfl
  · rw [if_neg (by decide), if_neg (by decide), if_neg (by decide), hb (Or.inr rfl)]
    show unkL (4 :: (cov l ++ [0, 0] ++ y)) = _
    rw [List.append_assoc]
    show unkL (4 :: (cov l ++ 0 :: 0 :: y)) = _
    rw [unkL_4, bare_cov, if_pos rfl]
    simp
    omega

/-- a key that is cut off is too short -/
theorem unk_cut (a b : Int) (l : List UInt8) (hc : chk a b l = 0) (t : Nat) (h : t < (keyL a b l).length) : (unkL ((keyL a b l).take t)).2.2.2 = (t, 10) := by
  obtain ⟨⟨ha0, ha3⟩, hb, ht, hbb⟩ := chk_zero hc
  unfold keyL at h ⊢
  rw [if_neg (by rw [hc]; simp)] at h ⊢
  obtain rfl | rfl | rfl | rfl : a = 0 ∨ a = 1 ∨ a = 2 ∨ a = 3 := by omega
  · rw [if_pos rfl] at h ⊢
    obtain rfl : t = 0 := by simp at h; omega
    rfl
  · rw [if_neg (by decide), if_pos rfl] at h ⊢
    have : t = 0 ∨ t = 1 := by simp at h; omega
    rcases this with rfl | rfl <;> rfl
  · rw [if_neg (by decide), if_neg (by decide), if_pos rfl] at h ⊢
    match t, h with
    | 0, _ => rfl
    | t + 1, h =>
      rw [List.length_cons, b8_length] at h
      rw [List.take_succ_cons]
      have hl : ((b8 (b + 9223372036854775808)).take t).length = t := by rw [List.length_take, b8_length]; omega
      rw [unkL_3, if_pos (by omega), hl]
  · rw [if_neg (by decide), if_neg (by decide), if_neg (by decide)] at h ⊢
    match t, h with
    | 0, _ => rfl
    | t + 1, h =>
      rw [List.take_succ_cons]
      rw [unkL_4, bare_short l t [] 1 (by simp at h; omega), if_neg (show ¬ ((10 : Int) = 0) by decide), Nat.add_comm]

/-- what is read has the key that was read -/
theorem unk_inv (y : List UInt8) (h : (unkL y).2.2.2.2 = 0) :
    1 ≤ (unkL y).2.2.2.1 ∧ (unkL y).2.2.2.1 ≤ y.length ∧ chk (unkL y).1 (unkL y).2.1 (unkL y).2.2.1 = 0 ∧ keyL (unkL y).1 (unkL y).2.1 (unkL y).2.2.1 = y.take (unkL y).2.2.2.1 ∧
      -9223372036854775808 ≤ (unkL y).2.1 ∧ (unkL y).2.1 ≤ 9223372036854775807 ∧ (unkL y).2.2.1.length ≤ y.length := by
  cases y with
  | nil => simp [unkL] at h
  | cons c r =>
    by_cases h1 : c = 1
    · subst h1
      have e : unkL (1 :: r) = (0, 0, [], 1, 0) := by simp [unkL]
      rw [e]
      exact ⟨by simp, by simp, rfl, rfl, by simp, by simp, by simp⟩
    · by_cases h2 : c = 2
      · subst h2
        cases r with
        | nil => simp [unkL] at h
        | cons d r =>
          by_cases hd : 1 < d.toNat
          · simp [unkL, hd] at h
          · have e : unkL (2 :: d :: r) = (1, (d.toNat : Int), [], 2, 0) := by simp [unkL, hd]
            rw [e]
            have hdd : d = 0 ∨ d = 1 := by
              have : d.toNat = 0 ∨ d.toNat = 1 := by omega
              rcases this with h | h
              · exact Or.inl (UInt8.toNat_inj.1 h)
              · exact Or.inr (UInt8.toNat_inj.1 h)
            rcases hdd with rfl | rfl
            · exact ⟨by simp, by simp, rfl, rfl, by simp, by simp, by simp⟩
            · exact ⟨by simp, by simp, rfl, rfl, by simp, by simp, by simp⟩
      · by_cases h3 : c = 3
        · subst h3
          by_cases h8 : r.length < 8
          · simp [unkL, h8] at h
          · have e : unkL (3 :: r) = (2, num8 (r.take 8), [], 9, 0) := by simp [unkL, h8]
            rw [e]
            have hl : (r.take 8).length = 8 := by rw [List.length_take]; omega
            obtain ⟨q1, q2, q3⟩ := b8_num8 (r.take 8) hl
            refine ⟨by simp, by simp; omega, rfl, ?_, q2, q3, by simp⟩
            show 3 :: b8 (num8 (r.take 8) + 9223372036854775808) = _
            rw [q1]; rfl
        · by_cases h4 : c = 4
          · subst h4
            by_cases hb : (bare false r [] 1).2.2 = 0
            · obtain ⟨l, rest, rfl⟩ := bare_inv r.length r [] 1 (Nat.le_refl _) hb
              have e : unkL (4 :: (cov l ++ 0 :: 0 :: rest)) = (3, 0, l, 1 + ((cov l).length + 2), 0) := by
                rw [unkL_4, bare_cov, if_pos rfl]; rfl
              rw [e]
              have hcl : l.length ≤ (cov l).length := by
                clear hb h e
                induction l with
                | nil => simp
                | cons c l ih => rw [cov_cons, List.length_append, List.length_cons]; have := cov1_length c; omega
              refine ⟨by simp, by simp; omega, rfl, ?_, by simp, by simp, by simp; omega⟩
              show 4 :: (cov l ++ [0, 0]) = (4 :: (cov l ++ 0 :: 0 :: rest)).take (1 + ((cov l).length + 2))
              rw [show 1 + ((cov l).length + 2) = ((cov l).length + 2) + 1 by omega, List.take_succ_cons, show cov l ++ 0 :: 0 :: rest = (cov l ++ [0, 0]) ++ rest by simp, List.take_left' (by simp)]
            · exfalso
              rw [unkL_4, if_neg hb] at h
              exact hb h
          · exfalso
            rw [unkL_o h1 h2 h3 h4] at h
            simp at h
end Go.Proofs.Ytdfgehjhecmojaa.Sc
