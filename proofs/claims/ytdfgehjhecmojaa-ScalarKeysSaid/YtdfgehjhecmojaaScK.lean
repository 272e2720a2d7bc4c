/- The law ScalarKeys over the printed functions: true for every input. -/
import Derived.Test.YtdfgehjhecmojaaScE
import Derived.Test.YtdfgehjhecmojaaPSx10
set_option linter.unusedVariables false
set_option linter.unusedSimpArgs false
namespace Go.Proofs.Ytdfgehjhecmojaa.Sc
open Go Go.RowKit Go.Proofs.Ytdfgehjhecmojaa.PS Go.Proofs.YtdfgehjhecmojaaW.PrintWords Go.Proofs.YtdfgehjhecmojaaW.PrintLast Go.Proofs.Ytdfgehjhecmojaa.Bs

theorem keyL_length (a b : Int) (l : List UInt8) : (keyL a b l).length ≤ 2 * l.length + 20 := by
  have h8 := b8_length (b + 9223372036854775808)
  have hc := cov_length l
  unfold keyL
  repeat' split
  all_goals simp only [List.length_nil, List.length_cons, List.length_append, h8]
  all_goals omega

/-! keys in order -/

/-- two lists differ at a place, the first one with the smaller byte -/
def Parts (k m : List UInt8) : Prop := ∃ p c d r r', k = p ++ c :: r ∧ m = p ++ d :: r' ∧ c.toNat < d.toNat

theorem Parts.pre {k m : List UInt8} (h : Parts k m) (q : List UInt8) : Parts (q ++ k) (q ++ m) := by
  obtain ⟨p, c, d, r, r', rfl, rfl, hlt⟩ := h
  exact ⟨q ++ p, c, d, r, r', by simp, by simp, hlt⟩
theorem Parts.cons {k m : List UInt8} (h : Parts k m) (x : UInt8) : Parts (x :: k) (x :: m) := h.pre [x]

theorem be_parts (n : Nat) : ∀ u u' : Nat, u % 256 ^ n < u' % 256 ^ n → Parts (be n u) (be n u') := by
  induction n with
  | zero => intro u u' h; simp [Nat.mod_one] at h
  | succ n ih =>
    intro u u' h
    rw [Nat.mod_pow_succ, Nat.mod_pow_succ] at h
    have hp : 0 < 256 ^ n := Nat.pow_pos (by decide)
    have m1 := Nat.mod_lt u hp
    have m2 := Nat.mod_lt u' hp
    have e1 := ofNat_mod (u / 256 ^ n)
    have e2 := ofNat_mod (u' / 256 ^ n)
    show Parts (UInt8.ofNat (u / 256 ^ n % 256) :: be n u) (UInt8.ofNat (u' / 256 ^ n % 256) :: be n u')
    generalize u / 256 ^ n % 256 = x at *
    generalize u' / 256 ^ n % 256 = y at *
    rcases Nat.lt_trichotomy x y with hxy | rfl | hxy
    · exact ⟨[], _, _, _, _, rfl, rfl, by omega⟩
    · exact (ih u u' (by omega)).cons _
    · exfalso
      have := Nat.mul_le_mul_left (256 ^ n) (show y + 1 ≤ x by omega)
      rw [Nat.mul_add, Nat.mul_one] at this
      omega

theorem cov_parts (l : List UInt8) : ∀ l' : List UInt8, Op.bytesLess l l' = true → Parts (cov l ++ [0, 0]) (cov l' ++ [0, 0]) := by
  induction l with
  | nil =>
    intro l' h
    cases l' with
    | nil => simp [Op.bytesLess] at h
    | cons d l' =>
      rw [cov_cons]
      by_cases hd : d = 0
      · subst hd
        exact ⟨[0], 0, 255, [], cov l' ++ [0, 0], rfl, rfl, by decide⟩
      · have e : cov1 d = [d] := by unfold cov1; rw [if_neg hd]
        rw [e]
        refine ⟨[], 0, d, [0], cov l' ++ [0, 0], rfl, rfl, ?_⟩
        have : d.toNat ≠ 0 := fun h0 => hd (UInt8.toNat_inj.1 h0)
        show 0 < d.toNat
        omega
  | cons c l ih =>
    intro l' h
    cases l' with
    | nil => simp [Op.bytesLess] at h
    | cons d l' =>
      simp only [Op.bytesLess, Bool.or_eq_true, decide_eq_true_eq, Bool.and_eq_true, beq_iff_eq, UInt8.lt_iff_toNat_lt] at h
      rcases h with h | ⟨rfl, h⟩
      · have hd : d ≠ 0 := by rintro rfl; exact absurd h (by show ¬ c.toNat < 0; omega)
        have e : cov1 d = [d] := by unfold cov1; rw [if_neg hd]
        rw [cov_cons, cov_cons, e]
        by_cases hc : c = 0
        · subst hc
          exact ⟨[], 0, d, 255 :: (cov l ++ [0, 0]), cov l' ++ [0, 0], rfl, rfl, h⟩
        · have e' : cov1 c = [c] := by unfold cov1; rw [if_neg hc]
          rw [e']
          exact ⟨[], c, d, cov l ++ [0, 0], cov l' ++ [0, 0], rfl, rfl, h⟩
      · rw [cov_cons, cov_cons, List.append_assoc, List.append_assoc]
        exact (ih l' h).pre _

theorem keyL_1 {b : Int} {l : List UInt8} (hc : chk 1 b l = 0) : keyL 1 b l = [2, UInt8.ofNat b.toNat] := by
  unfold keyL; rw [if_neg (fun h => h hc), if_neg (by decide), if_pos rfl]
theorem keyL_2 {b : Int} {l : List UInt8} (hc : chk 2 b l = 0) : keyL 2 b l = 3 :: b8 (b + 9223372036854775808) := by
  unfold keyL; rw [if_neg (fun h => h hc), if_neg (by decide), if_neg (by decide), if_pos rfl]
theorem keyL_3 {b : Int} {l : List UInt8} (hc : chk 3 b l = 0) : keyL 3 b l = 4 :: (cov l ++ [0, 0]) := by
  unfold keyL; rw [if_neg (fun h => h hc), if_neg (by decide), if_neg (by decide), if_neg (by decide)]

theorem key_parts (a b : Int) (l : List UInt8) (a' b' : Int) (l' : List UInt8) (hc : chk a b l = 0) (hc' : chk a' b' l' = 0) (h : ltS a b l a' b' l')
    (h0 : -9223372036854775808 ≤ b) (h1 : b ≤ 9223372036854775807) (h0' : -9223372036854775808 ≤ b') (h1' : b' ≤ 9223372036854775807) : Parts (keyL a b l) (keyL a' b' l') := by
  obtain ⟨⟨ha0, ha3⟩, hb, ht, hbb⟩ := chk_zero hc
  obtain ⟨⟨ha0', ha3'⟩, hb', ht', hbb'⟩ := chk_zero hc'
  have tag : ∀ (a b : Int) (l : List UInt8), 0 ≤ a → a ≤ 3 → chk a b l = 0 → ∃ r, keyL a b l = UInt8.ofNat (a.toNat + 1) :: r := by
    intro a b l h0 h3 hc
    unfold keyL
    rw [if_neg (by rw [hc]; simp)]
    obtain rfl | rfl | rfl | rfl : a = 0 ∨ a = 1 ∨ a = 2 ∨ a = 3 := by omega
    · exact ⟨[], rfl⟩
    · exact ⟨_, rfl⟩
    · exact ⟨_, rfl⟩
    · exact ⟨_, rfl⟩
  rcases h with h | ⟨rfl, h⟩
  · obtain ⟨r, e⟩ := tag a b l ha0 ha3 hc
    obtain ⟨r', e'⟩ := tag a' b' l' ha0' ha3' hc'
    rw [e, e']
    refine ⟨[], _, _, r, r', rfl, rfl, ?_⟩
    have : ∀ n : Nat, n < 256 → (UInt8.ofNat n).toNat = n := fun n hn => by simp [Nat.mod_eq_of_lt hn]
    rw [this _ (by omega), this _ (by omega)]
    omega
  · obtain rfl | rfl | rfl | rfl : a = 0 ∨ a = 1 ∨ a = 2 ∨ a = 3 := by omega
    · exfalso
      have e1 := hb (Or.inl rfl); have e2 := hb' (Or.inl rfl); have e3 := ht (by decide); have e4 := ht' (by decide)
      subst e1 e2 e3 e4
      rcases h with h | ⟨_, h⟩
      · omega
      · simp [Op.bytesLess] at h
    · have e3 := ht (by decide); have e4 := ht' (by decide)
      subst e3 e4
      rw [keyL_1 hc, keyL_1 hc']
      rcases h with h | ⟨_, h⟩
      · rcases hbb rfl with rfl | rfl
        · rcases hbb' rfl with rfl | rfl
          · omega
          · exact ⟨[2], 0, 1, [], [], rfl, rfl, by decide⟩
        · rcases hbb' rfl with rfl | rfl <;> omega
      · simp [Op.bytesLess] at h
    · have e3 := ht (by decide); have e4 := ht' (by decide)
      subst e3 e4
      rw [keyL_2 hc, keyL_2 hc']
      rcases h with h | ⟨_, h⟩
      · obtain ⟨u, hu⟩ : ∃ u : Nat, b + 9223372036854775808 = u := ⟨(b + 9223372036854775808).toNat, by omega⟩
        obtain ⟨u', hu'⟩ : ∃ u : Nat, b' + 9223372036854775808 = u := ⟨(b' + 9223372036854775808).toNat, by omega⟩
        rw [hu, hu', b8_be, b8_be]
        have h8 : (256 : Nat) ^ 8 = 18446744073709551616 := by decide
        exact (be_parts 8 u u' (by rw [h8, Nat.mod_eq_of_lt (by omega), Nat.mod_eq_of_lt (by omega)]; omega)).cons 3
      · simp [Op.bytesLess] at h
    · have e1 := hb (Or.inr rfl); have e2 := hb' (Or.inr rfl)
      subst e1 e2
      rw [keyL_3 hc, keyL_3 hc']
      rcases h with h | ⟨_, h⟩
      · omega
      · exact (cov_parts l l' h).cons 4

theorem com_pre (p : List UInt8) {c d : UInt8} (h : c ≠ d) (r r' : List UInt8) : com (p ++ c :: r) (p ++ d :: r') = p.length := by
  induction p with
  | nil => simp [com, h]
  | cons x p ih => simp [com, ih]
theorem ordL_pre (p m m' : List UInt8) : ordL (p ++ m) (p ++ m') = ordL m m' := by
  induction p with
  | nil => rfl
  | cons x p ih => rw [List.cons_append, List.cons_append, ordL_cons, ih]

theorem parts_told {k m : List UInt8} (h : Parts k m) (x y : List UInt8) : com k m < k.length ∧ com k m < m.length ∧ ordL (k ++ x) (m ++ y) = -1 ∧ com m k < k.length ∧ com m k < m.length ∧ ordL (m ++ y) (k ++ x) = 1 := by
  obtain ⟨p, c, d, r, r', rfl, rfl, hlt⟩ := h
  have hne : c ≠ d := by rintro rfl; omega
  rw [com_pre p hne, com_pre p (Ne.symm hne), List.append_assoc, List.append_assoc, ordL_pre, ordL_pre, List.cons_append, List.cons_append, ordL_head hne, ordL_head (Ne.symm hne), if_pos hlt, if_neg (by omega)]
  simp

theorem keys_ev (a b : Int) (l : List UInt8) (a' b' : Int) (l' x y : List UInt8) (h0 : -9223372036854775808 ≤ b) (h1 : b ≤ 9223372036854775807) (h0' : -9223372036854775808 ≤ b') (h1' : b' ≤ 9223372036854775807) :
    Ev (fun k => placketlaw05_ScalarKeys.f k a b (bs l) a' b' (bs l') (bs x) (bs y)) true := by
  have hj : Ev (fun k => placketlaw05_ScalarKeys.j0 k (bs x) (bs y) true a b (bs l) a' b' (bs l')) true := by
    refine Ev.shift 1 ?_
    simp only [placketlaw05_ScalarKeys.j0, if_true]
    exact Ev.bind live_ev (Ev.now _)
  unfold placketlaw05_ScalarKeys.f
  refine Ev.bind live_ev ?_
  simp only [if_true, short_at, Option.bind_some, bs_size]
  by_cases hl : l.length ≤ 2000
  · simp only [hl, decide_true, if_true]
    by_cases hl' : l'.length ≤ 2000
    · simp only [hl', decide_true, if_true]
      by_cases hx : (x.length : Int) > 2000
      · simp only [hx, if_true]; exact hj
      · simp only [hx, if_false]
        by_cases hy : (y.length : Int) > 2000
        · simp only [hy, if_true]; exact hj
        · simp only [hy, if_false]
          refine Ev.bind (Ev.ge 2 fun k => check_at k a b l) ?_
          by_cases hc : chk a b l = 0
          · simp only [hc, if_true]
            refine Ev.bind (Ev.ge 2 fun k => check_at k a' b' l') ?_
            by_cases hc' : chk a' b' l' = 0
            · simp only [hc', bne_self_eq_false]
              refine Ev.shift 1 ?_
              simp only [placketlaw05_ScalarKeys.j0, Bool.false_eq_true, if_false]
              have k1 := keyL_length a b l
              have k2 := keyL_length a' b' l'
              refine Ev.bind (key_ev a b l (by omega) h0 h1) ?_
              refine Ev.bind (key_ev a' b' l' (by omega) h0' h1') ?_
              simp only [same_at, Option.bind_some, bs_toList, bs_size, bs_append, order_at]
              have hs1 : (keyL a b l).length + x.length ≤ 9223372036854775807 := by omega
              have hs2 : (keyL a' b' l').length + y.length ≤ 9223372036854775807 := by omega
              rcases ordS_cases a b l a' b' l' with ⟨hlt, eo⟩ | ⟨hlt, eo⟩ | ⟨⟨rfl, rfl, rfl⟩, eo⟩
              · have hf := same_false (a := a) (b := b) (l := l) (a' := a') (b' := b') (l' := l') (fun ⟨e1, e2, e3⟩ => by subst e1; subst e2; subst e3; exact ltS_irrefl hlt)
                obtain ⟨p1, p2, p3, _, _, _⟩ := parts_told (key_parts a b l a' b' l' hc hc' hlt h0 h1 h0' h1') x y
                have q1 : ((com (keyL a b l) (keyL a' b' l') : Nat) : Int) < ((keyL a b l).length : Int) := by omega
                have q2 : ((com (keyL a b l) (keyL a' b' l') : Nat) : Int) < ((keyL a' b' l').length : Int) := by omega
                simp only [hf, Bool.false_eq_true, if_false]
                refine Ev.bind (common_ev _ _ (by omega)) ?_
                simp only [q1, q2, hs1, hs2, if_true]
                refine Ev.bind (rorder_ev _ _ (by rw [List.length_append]; omega)) ?_
                rw [p3, eo]
                exact Ev.now _
              · have hf := same_false (a := a) (b := b) (l := l) (a' := a') (b' := b') (l' := l') (fun ⟨e1, e2, e3⟩ => by subst e1; subst e2; subst e3; exact ltS_irrefl hlt)
                obtain ⟨_, _, _, p1, p2, p3⟩ := parts_told (key_parts a' b' l' a b l hc' hc hlt h0' h1' h0 h1) y x
                have q1 : ((com (keyL a b l) (keyL a' b' l') : Nat) : Int) < ((keyL a b l).length : Int) := by omega
                have q2 : ((com (keyL a b l) (keyL a' b' l') : Nat) : Int) < ((keyL a' b' l').length : Int) := by omega
                simp only [hf, Bool.false_eq_true, if_false]
                refine Ev.bind (common_ev _ _ (by omega)) ?_
                simp only [q1, q2, hs1, hs2, if_true]
                refine Ev.bind (rorder_ev _ _ (by rw [List.length_append]; omega)) ?_
                rw [p3, eo]
                exact Ev.now _
              · simp only [beq_self_eq_true, Bool.and_self, if_true]
                exact Ev.now _
            · have hn : (chk a' b' l' != 0) = true := bne_iff_ne.2 hc'
              simp only [hn]; exact hj
          · simp only [hc, if_false]; exact hj
    · simp only [hl', decide_false, Bool.false_eq_true, if_false]; exact hj
  · simp only [hl, decide_false, Bool.false_eq_true, if_false]; exact hj

theorem keys_walk (a b : Int) (s : ByteArray) (a' b' : Int) (s' x y : ByteArray) (w : World) (_ : (Lit.int .i64 a).wf = true) (wb : (Lit.int .i64 b).wf = true) (_ : (Lit.int .i64 a').wf = true) (wb' : (Lit.int .i64 b').wf = true) (_ : x.size ≤ 140737488351232) (_ : y.size ≤ 140737488351232) :
    Calls Try.prog 8 #[.agg #[.int .i64 a, .int .i64 b, .string s], .agg #[.int .i64 a', .int .i64 b', .string s'], .string x, .string y] w fun e w' => e = .returned (.bool true) ∧ Below w.heap.size w w' := by
  obtain ⟨h0, h1⟩ := i64_range wb
  obtain ⟨h0', h1'⟩ := i64_range wb'
  obtain ⟨k, h⟩ := (keys_ev a b s.data.toList a' b' s'.data.toList x.data.toList y.data.toList h0 h1 h0' h1').rounds
  rw [← bs_of s, ← bs_of s', ← bs_of x, ← bs_of y] at h
  exact placketlaw05_ScalarKeys.calls k a b s a' b' s' x y true w h
end Go.Proofs.Ytdfgehjhecmojaa.Sc
