/- Plain laws on the printed functions of scalars: what is read, and the order. -/
import Derived.Test.YtdfgehjhecmojaaPSx6
import Derived.Test.YtdfgehjhecmojaaPSx7
import Derived.Test.YtdfgehjhecmojaaScA
namespace Go.Proofs.Ytdfgehjhecmojaa.Sc
open Go Go.RowKit Go.Proofs.Ytdfgehjhecmojaa.PS Go.Proofs.YtdfgehjhecmojaaW.PrintWords Go.Proofs.YtdfgehjhecmojaaW.PrintLast Go.Proofs.Ytdfgehjhecmojaa.Bs

/-- a text's bytes out of a key: behind a 0 (true) or not; what is left; what was read; the place -/
def bare : Bool → List UInt8 → List UInt8 → Nat → List UInt8 × Nat × Int
  | _, [], _, p => ([], p, 10)
  | false, c :: r, acc, p => if c = 0 then bare true r acc (p + 1) else bare false r (acc ++ [c]) (p + 1)
  | true, c :: r, acc, p => if c = 0 then (acc, p + 1, 0) else if c = 255 then bare false r (acc ++ [0]) (p + 1) else ([], p, 2)

/-- an answer of such a reading -/
def told (x : List UInt8 × Nat × Int) : ByteArray × Int × Int := (bs x.1, (x.2.1 : Int), x.2.2)

theorem byte255 (c : UInt8) : ((c.toNat : Int) = 255) ↔ c = 255 := by
  have := byte_eq c 255
  exact this

theorem text_loop (l : List UInt8) (hl : l.length ≤ 100000000) (r : List UInt8) : ∀ (cv : Bool) (i : Nat) (acc : List UInt8), l.drop i = r → i ≤ l.length → acc.length ≤ i →
    Ev (fun k => scalar_text.l0 k (bs l) (i : Int) (N acc) cv) (told (bare cv r acc i)) := by
  induction r with
  | nil =>
    intro cv i acc h hi ha
    have hlen : l.length ≤ i := List.drop_eq_nil_iff.1 h
    refine Ev.ge 1 fun k => ?_
    simp only [scalar_text.l0]
    rw [if_neg (by rw [bs_size]; omega), bs_size, none_mk, show (l.length : Int) = (i : Int) by omega]
    cases cv <;> rfl
  | cons c r ih =>
    intro cv i acc h hi ha
    obtain ⟨hlt, hd, hg⟩ := drop_cons h
    refine Ev.shift 2 ?_
    have w1 : wrap64 ((i : Int) + 1) = ((i + 1 : Nat) : Int) := w64_succ (by omega)
    have hlt' : (i : Int) < ((bs l).size : Int) := by rw [bs_size]; omega
    have hN : (N acc).length < 140737488355328 := by rw [N_length]; omega
    have z := byte_zero c
    have y := byte255 c
    cases cv with
    | false =>
      by_cases hc : c = 0
      · have hs := ih true (i + 1) acc hd (by omega) (by omega)
        show Ev _ (told (bare false (c :: r) acc i))
        unfold bare; rw [if_pos hc]
        refine Ev.congr (fun k => ?_) hs
        simp only [scalar_text.l0, scalar_text.j1, Bool.false_eq_true, if_false]
        rw [if_pos hlt', if_pos (by omega), bt_at hg, if_pos (by simpa using z.2 hc), w1]
      · have hs := ih false (i + 1) (acc ++ [c]) hd (by omega) (by simp; omega)
        show Ev _ (told (bare false (c :: r) acc i))
        unfold bare; rw [if_neg hc]
        refine Ev.congr (fun k => ?_) hs
        simp only [scalar_text.l0, scalar_text.j1, Bool.false_eq_true, if_false]
        rw [if_pos hlt', if_pos (by omega), bt_at hg, if_neg (by simpa using mt z.1 hc), if_pos hN, w1, N_append]; rfl
    | true =>
      show Ev _ (told (bare true (c :: r) acc i))
      by_cases hc : c = 0
      · unfold bare; rw [if_pos hc]
        refine Ev.all fun k => ?_
        simp only [scalar_text.l0, scalar_text.j1, Bool.false_eq_true, if_false, if_true]
        rw [if_pos hlt', if_pos (by omega), bt_at hg, if_pos (z.2 hc), w1, strOfNums_N]
        all_goals rfl
      · by_cases hc2 : c = 255
        · have hs := ih false (i + 1) (acc ++ [0]) hd (by omega) (by simp; omega)
          unfold bare; rw [if_neg hc, if_pos hc2]
          refine Ev.congr (fun k => ?_) hs
          simp only [scalar_text.l0, scalar_text.j1, Bool.false_eq_true, if_false, if_true]
          rw [if_pos hlt', if_pos (by omega), bt_at hg, if_neg (mt z.1 hc), if_pos (y.2 hc2), if_pos hN, w1, N_append]; rfl
        · unfold bare; rw [if_neg hc, if_neg hc2]
          refine Ev.all fun k => ?_
          simp only [scalar_text.l0, scalar_text.j1, Bool.false_eq_true, if_false, if_true]
          rw [if_pos hlt', if_pos (by omega), bt_at hg, if_neg (mt z.1 hc), if_neg (mt y.1 hc2), none_mk]
          all_goals rfl

theorem bare_loop (l : List UInt8) (hl : l.length ≤ 100000000) (n : Nat) : ∀ (r : List UInt8) (i : Nat) (acc : List UInt8), r.length ≤ n → l.drop i = r → i ≤ l.length → acc.length ≤ i →
    Ev (fun k => placketref05_Bare.l0 k (bs l) (bs acc) (i : Int)) (told (bare false r acc i)) := by
  induction n with
  | zero =>
    intro r i acc hr h hi ha
    obtain rfl := List.length_eq_zero_iff.1 (Nat.le_zero.1 hr)
    have hlen : l.length ≤ i := List.drop_eq_nil_iff.1 h
    refine Ev.ge 1 fun k => ?_
    simp only [placketref05_Bare.l0]
    rw [if_neg (by rw [bs_size]; omega), bs_size, none_mk, show (l.length : Int) = (i : Int) by omega]; rfl
  | succ n ih =>
    intro r i acc hr h hi ha
    cases r with
    | nil =>
      have hlen : l.length ≤ i := List.drop_eq_nil_iff.1 h
      refine Ev.ge 1 fun k => ?_
      simp only [placketref05_Bare.l0]
      rw [if_neg (by rw [bs_size]; omega), bs_size, none_mk, show (l.length : Int) = (i : Int) by omega]; rfl
    | cons c r =>
      obtain ⟨hlt, hd, hg⟩ := drop_cons h
      have w1 : wrap64 ((i : Int) + 1) = ((i + 1 : Nat) : Int) := w64_succ (by omega)
      have w2 : wrap64 ((i : Int) + 2) = ((i + 2 : Nat) : Int) := by rw [w64_in (n := (i : Int) + 2) (by omega) (by omega)]; rfl
      have z := byte_zero c
      refine Ev.shift 1 ?_
      show Ev _ (told (bare false (c :: r) acc i))
      by_cases hc : c = 0
      · unfold bare; rw [if_pos hc]
        cases r with
        | nil =>
          have hlen : l.length ≤ i + 1 := List.drop_eq_nil_iff.1 hd
          refine Ev.all fun k => ?_
          simp only [placketref05_Bare.l0]
          rw [if_pos (by rw [bs_size]; omega), if_pos (by omega), bt_at hg, if_pos (z.2 hc), w1, if_pos (by rw [bs_size]; omega), bs_size, none_mk, show (l.length : Int) = ((i + 1 : Nat) : Int) by omega]
          all_goals rfl
        | cons d r =>
          obtain ⟨hlt2, hd2, hg2⟩ := drop_cons hd
          have z2 := byte_zero d
          have y2 := byte255 d
          unfold bare
          by_cases h0 : d = 0
          · rw [if_pos h0]
            refine Ev.all fun k => ?_
            simp only [placketref05_Bare.l0]
            rw [if_pos (by rw [bs_size]; omega), if_pos (by omega), bt_at hg, if_pos (z.2 hc), w1, if_neg (by rw [bs_size]; omega), if_pos (by omega), if_pos (by rw [bs_size]; omega), bt_at hg2, if_pos (z2.2 h0), w2]
            all_goals rfl
          · rw [if_neg h0]
            by_cases h5 : d = 255
            · have hs := ih r (i + 2) (acc ++ [0]) (by simp at hr; omega) hd2 (by omega) (by simp; omega)
              rw [if_pos h5]
              refine Ev.congr (fun k => ?_) hs
              simp only [placketref05_Bare.l0]
              rw [if_pos (by rw [bs_size]; omega), if_pos (by omega), bt_at hg, if_pos (z.2 hc), w1, if_neg (by rw [bs_size]; omega), if_pos (by omega), if_pos (by rw [bs_size]; omega), bt_at hg2, if_neg (mt z2.1 h0), if_pos (y2.2 h5),
                if_pos (by rw [bs_size]; omega), show (⟨#[0]⟩ : ByteArray) = bs [0] from rfl, bs_append, w2]
            · rw [if_neg h5]
              refine Ev.all fun k => ?_
              simp only [placketref05_Bare.l0]
              rw [if_pos (by rw [bs_size]; omega), if_pos (by omega), bt_at hg, if_pos (z.2 hc), w1, if_neg (by rw [bs_size]; omega), if_pos (by omega), if_pos (by rw [bs_size]; omega), bt_at hg2, if_neg (mt z2.1 h0), if_neg (mt y2.1 h5), none_mk]
              all_goals rfl
      · have hs := ih r (i + 1) (acc ++ [c]) (by simp at hr; omega) hd (by omega) (by simp; omega)
        unfold bare; rw [if_neg hc]
        have hx : (bs l).extract ((i : Int)).toNat (((i + 1 : Nat) : Int)).toNat = bs [c] := by
          rw [bs_extract, Int.toNat_natCast, Int.toNat_natCast, List.drop_take, h, show i + 1 - i = 1 by omega]; rfl
        refine Ev.congr (fun k => ?_) hs
        simp only [placketref05_Bare.l0]
        rw [if_pos (by rw [bs_size]; omega), if_pos (by omega), bt_at hg, if_neg (mt z.1 hc), w1, hx, if_pos (by omega), if_pos (by rw [bs_size]; omega), if_pos (by simp only [bs_size, List.length_singleton]; omega), bs_append]

/-- a place is only told -/
theorem bare_shift (q : Nat) (r : List UInt8) : ∀ (cv : Bool) (acc : List UInt8) (p : Nat), bare cv r acc (p + q) = ((bare cv r acc p).1, (bare cv r acc p).2.1 + q, (bare cv r acc p).2.2) := by
  induction r with
  | nil => intro cv acc p; cases cv <;> rfl
  | cons c r ih =>
    intro cv acc p
    cases cv with
    | false =>
      unfold bare
      by_cases hc : c = 0
      · rw [if_pos hc, if_pos hc, show p + q + 1 = p + 1 + q by omega]; exact ih _ _ _
      · rw [if_neg hc, if_neg hc, show p + q + 1 = p + 1 + q by omega]; exact ih _ _ _
    | true =>
      unfold bare
      by_cases hc : c = 0
      · rw [if_pos hc, if_pos hc]; simp; omega
      · rw [if_neg hc, if_neg hc]
        by_cases h5 : c = 255
        · rw [if_pos h5, if_pos h5, show p + q + 1 = p + 1 + q by omega]; exact ih _ _ _
        · rw [if_neg h5, if_neg h5]

/-- the word of bytes -/
def word (u : Nat) (l : List UInt8) : Nat := l.foldl (fun u c => u * 256 + c.toNat) u
theorem word_lt (l : List UInt8) : ∀ (u n : Nat), u < 256 ^ n → word u l < 256 ^ (n + l.length) := by
  induction l with
  | nil => intro u n h; exact h
  | cons c l ih =>
    intro u n h
    have := c.toNat_lt
    have h2 : u * 256 + c.toNat < 256 ^ (n + 1) := by rw [Nat.pow_succ]; omega
    have := ih (u * 256 + c.toNat) (n + 1) h2
    rw [List.length_cons, show n + (l.length + 1) = n + 1 + l.length by omega]
    exact this

theorem wrap_id {n : Int} (h0 : 0 ≤ n) (h1 : n < 18446744073709551616) : IntKind.u64.wrap n = n := by rw [U64.wrap_u64]; omega

theorem or_byte (u c : Nat) (hu : u < 72057594037927936) (hc : c < 256) : Go.bits .or .u64 (IntKind.u64.wrap ((u : Int) * 256)) (IntKind.u64.wrap (c : Int)) = ((u * 256 + c : Nat) : Int) := by
  rw [wrap_id (by omega) (by omega), wrap_id (by omega) (by omega), bits_join .u64 64 (by decide) (fun n h0 h1 => wrap_id h0 (by simpa using h1)) 8 _ _ (by omega) (by omega) (by omega) (by omega) (by omega) (by omega)]
  omega

theorem pow_le (n : Nat) (h : n < 8) : 256 ^ n ≤ 72057594037927936 := by
  have : 256 ^ n ≤ 256 ^ 7 := Nat.pow_le_pow_right (by decide) (by omega)
  exact this

theorem unbytes_loop (l : List UInt8) (hl : l.length = 8) (r : List UInt8) : ∀ (i u : Nat), l.drop i = r → i ≤ 8 → u < 256 ^ i →
    Ev (fun k => num_Unbytes.l0 k (bs l) (u : Int) 8 (i : Int)) ((word u r : Int) - 9223372036854775808, 0) ∧ Ev (fun k => placketref01_Unbytes.l0 k (bs l) (u : Int) (i : Int)) ((word u r : Int) - 9223372036854775808, 0) := by
  induction r with
  | nil =>
    intro i u h hi hu
    have hlen : l.length ≤ i := List.drop_eq_nil_iff.1 h
    obtain rfl : i = 8 := by omega
    have hu' : u < 18446744073709551616 := Nat.lt_of_lt_of_eq hu (by decide)
    clear hu
    have hx := xor_top (u : Int)
    rw [wrap_id (n := (u : Int)) (by omega) (by omega), U64.wrap_u64] at hx
    constructor
    · refine Ev.ge 1 fun k => ?_
      simp only [num_Unbytes.l0]
      have e : wrap64 (((u : Int) + 9223372036854775808) % 18446744073709551616) = (u : Int) - 9223372036854775808 := by unfold wrap64; omega
      rw [if_neg (by omega), hx, e]; rfl
    · refine Ev.ge 1 fun k => ?_
      simp only [placketref01_Unbytes.l0]
      have e : wrap64 (((u : Int) - 9223372036854775808) % 18446744073709551616) = (u : Int) - 9223372036854775808 := by unfold wrap64; omega
      rw [if_neg (by omega), U64.wrap_u64, e]; rfl
  | cons c r ih =>
    intro i u h hi hu
    obtain ⟨hlt, hd, hg⟩ := drop_cons h
    have hp := pow_le i (by omega)
    have hc := c.toNat_lt
    have hu2 : u * 256 + c.toNat < 256 ^ (i + 1) := by rw [Nat.pow_succ]; omega
    obtain ⟨s1, s2⟩ := ih (i + 1) (u * 256 + c.toNat) hd (by omega) hu2
    have w1 : wrap64 ((i : Int) + 1) = ((i + 1 : Nat) : Int) := w64_succ (by omega)
    constructor
    · refine Ev.step (fun k => ?_) s1
      simp only [num_Unbytes.l0]
      rw [if_pos (by omega), if_pos (by omega), if_pos (by rw [bs_size]; omega), bt_at hg, or_byte u c.toNat (by omega) hc, w1]
    · refine Ev.step (fun k => ?_) s2
      simp only [placketref01_Unbytes.l0]
      rw [if_pos (by omega), if_pos (by omega), if_pos (by rw [bs_size]; omega), bt_at hg, wrap_id (n := 256 * (u : Int)) (by omega) (by omega), wrap_id (n := (c.toNat : Int)) (by omega) (by omega), wrap_id (n := 256 * (u : Int) + (c.toNat : Int)) (by omega) (by omega), w1]
      congr 1
      omega

/-- the number of eight bytes -/
def num8 (l : List UInt8) : Int := (word 0 l : Int) - 9223372036854775808
theorem unbytes_ev (l : List UInt8) (hl : l.length = 8) : Ev (fun k => num_Unbytes.f k (bs l)) (num8 l, 0) := by
  unfold num_Unbytes.f
  rw [bs_size, hl]
  exact (unbytes_loop l hl l 0 0 rfl (by omega) (by decide)).1
theorem runbytes_ev (l : List UInt8) (hl : l.length = 8) : Ev (fun k => placketref01_Unbytes.f k (bs l)) (num8 l, 0) := by
  unfold placketref01_Unbytes.f
  rw [bs_size, hl]
  exact (unbytes_loop l hl l 0 0 rfl (by omega) (by decide)).2
end Go.Proofs.Ytdfgehjhecmojaa.Sc
