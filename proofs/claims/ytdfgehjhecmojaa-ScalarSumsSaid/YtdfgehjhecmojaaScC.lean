/- Plain laws on the printed functions of scalars: a key read, the order, keys in order, keys read back. -/
import Derived.Test.YtdfgehjhecmojaaScB
set_option linter.unusedVariables false
set_option linter.unusedSimpArgs false
namespace Go.Proofs.Ytdfgehjhecmojaa.Sc
open Go Go.RowKit Go.Proofs.Ytdfgehjhecmojaa.PS Go.Proofs.YtdfgehjhecmojaaW.PrintWords Go.Proofs.YtdfgehjhecmojaaW.PrintLast Go.Proofs.Ytdfgehjhecmojaa.Bs

/-- what a key that bytes begin with tells: kind, number, text, how many bytes, what is wrong -/
def unkL : List UInt8 → Int × Int × List UInt8 × Nat × Int
  | [] => (0, 0, [], 0, 10)
  | c :: r =>
    if c = 1 then (0, 0, [], 1, 0)
    else if c = 2 then (match r with | [] => (0, 0, [], 1, 10) | d :: _ => if 1 < d.toNat then (0, 0, [], 1, 2) else (1, (d.toNat : Int), [], 2, 0))
    else if c = 3 then (if r.length < 8 then (0, 0, [], r.length + 1, 10) else (2, num8 (r.take 8), [], 9, 0))
    else if c = 4 then (if (bare false r [] 1).2.2 = 0 then (3, 0, (bare false r [] 1).1, (bare false r [] 1).2.1, 0) else (0, 0, [], (bare false r [] 1).2.1, (bare false r [] 1).2.2))
    else (0, 0, [], 0, 2)
def tellU (x : Int × Int × List UInt8 × Nat × Int) : Int × Int × ByteArray × Int × Int := (x.1, x.2.1, bs x.2.2.1, (x.2.2.2.1 : Int), x.2.2.2.2)

theorem byteN (c : UInt8) (n : Nat) (h : n < 256) : ((c.toNat : Int) = n) ↔ c = UInt8.ofNat n := by
  have : (UInt8.ofNat n).toNat = n := by simp [Nat.mod_eq_of_lt h]
  constructor
  · intro e; exact UInt8.toNat_inj.1 (by omega)
  · rintro rfl; rw [this]
theorem byte1 (c : UInt8) : ((c.toNat : Int) = 1) ↔ c = 1 := byteN c 1 (by decide)
theorem byte2 (c : UInt8) : ((c.toNat : Int) = 2) ↔ c = 2 := byteN c 2 (by decide)
theorem byte3 (c : UInt8) : ((c.toNat : Int) = 3) ↔ c = 3 := byteN c 3 (by decide)
theorem byte4 (c : UInt8) : ((c.toNat : Int) = 4) ↔ c = 4 := byteN c 4 (by decide)

theorem cons_not_nil (c : UInt8) (r : List UInt8) : ¬ (bs (c :: r)).toList = [] := by rw [bs_toList]; simp

theorem bare_len (r : List UInt8) : ∀ (cv : Bool) (acc : List UInt8) (p : Nat), (bare cv r acc p).2.1 ≤ p + r.length ∧ p ≤ (bare cv r acc p).2.1 := by
  induction r with
  | nil => intro cv acc p; cases cv <;> simp [bare]
  | cons c r ih =>
    intro cv acc p
    cases cv with
    | false =>
      unfold bare
      split
      · have := ih true acc (p + 1); simp only [List.length_cons]; omega
      · have := ih false (acc ++ [c]) (p + 1); simp only [List.length_cons]; omega
    | true =>
      unfold bare
      split
      · simp only [List.length_cons]; omega
      · split
        · have := ih false (acc ++ [0]) (p + 1); simp only [List.length_cons]; omega
        · simp only [List.length_cons]; omega

theorem n12 : ¬ ((1 : UInt8) = 2) := by decide
theorem n13 : ¬ ((1 : UInt8) = 3) := by decide
theorem n14 : ¬ ((1 : UInt8) = 4) := by decide
theorem n21 : ¬ ((2 : UInt8) = 1) := by decide
theorem n23 : ¬ ((2 : UInt8) = 3) := by decide
theorem n31 : ¬ ((3 : UInt8) = 1) := by decide
theorem n32 : ¬ ((3 : UInt8) = 2) := by decide
theorem n41 : ¬ ((4 : UInt8) = 1) := by decide
theorem n42 : ¬ ((4 : UInt8) = 2) := by decide
theorem n43 : ¬ ((4 : UInt8) = 3) := by decide
theorem size_pos (c : UInt8) (r : List UInt8) : (0 : Int) < ((bs (c :: r)).size : Int) := by simp only [bs_size, List.length_cons]; omega

theorem unkey_ev (l : List UInt8) (hl : l.length ≤ 100000000) : Ev (fun k => scalar_Unkey.f k (bs l)) (tellU (unkL l)) := by
  unfold scalar_Unkey.f
  cases l with
  | nil => simp only [bs_toList, if_true]; exact Ev.const rfl
  | cons c r =>
    have g0 : bt (bs (c :: r)) 0 = (c.toNat : Int) := bt_at (l := c :: r) (i := 0) rfl
    have hc := byte_lt c
    simp only [cons_not_nil c r, if_false, size_pos c r, if_true, g0, byte1, byte2, byte3, byte4]
    unfold unkL
    by_cases h1 : c = 1
    · subst h1
      simp only [n12, n13, if_true, if_false]
      refine Ev.ge 1 fun k => ?_
      simp only [scalar_Unkey.j0]
      rw [if_neg (by simp only [bs_size, List.length_cons]; omega), if_pos (by simp only [bs_size, List.length_cons]; omega), g0, show wrap64 (wrap64 (((1 : UInt8).toNat : Int)) - 1) = 0 by decide +kernel, if_neg (by decide), if_neg (by decide)]; rfl
    · by_cases h2 : c = 2
      · subst h2
        simp only [n21, n23, if_true, if_false]
        refine Ev.ge 1 fun k => ?_
        simp only [scalar_Unkey.j0]
        cases r with
        | nil => rfl
        | cons d r =>
          have g1 : bt (bs (2 :: d :: r)) 1 = (d.toNat : Int) := bt_at (l := 2 :: d :: r) (i := 1) rfl
          have hd := byte_lt d
          rw [if_neg (by rw [bs_size]; simp; omega), if_pos (by simp only [bs_size, List.length_cons]; omega), g0, show wrap64 (wrap64 (((2 : UInt8).toNat : Int)) - 1) = 1 by decide +kernel, if_pos rfl, if_pos (by simp only [bs_size, List.length_cons]; omega), g1]
          by_cases hg : 1 < d.toNat
          · rw [if_pos (by omega)]; simp only [hg, if_true]; rfl
          · rw [if_neg (by omega), w64_in (by omega) (by omega)]; simp only [hg, if_false]; rfl
      · by_cases h3 : c = 3
        · subst h3
          simp only [n31, n32, if_true, if_false]
          by_cases h8 : r.length < 8
          · simp only [h8, if_true]
            refine Ev.ge 1 fun k => ?_
            simp only [scalar_Unkey.j0]
            rw [if_pos (by rw [bs_size, List.length_cons]; omega), bs_size, List.length_cons]; rfl
          · simp only [h8, if_false]
            refine Ev.shift 1 ?_
            have hx : (bs (3 :: r)).extract 1 9 = bs (r.take 8) := by rw [bs_extract]; rfl
            have hu := unbytes_ev (r.take 8) (by rw [List.length_take]; omega)
            refine Ev.congr (fun k => ?_) (Ev.bind (f := fun _ x => some ((2 : Int), x.1, bs [], (9 : Int), (0 : Int))) hu (Ev.now _))
            simp only [scalar_Unkey.j0]
            rw [if_neg (by rw [bs_size, List.length_cons]; omega), if_pos (size_pos 3 r), g0, show wrap64 (wrap64 (((3 : UInt8).toNat : Int)) - 1) = 2 by decide +kernel, if_neg (by decide), if_pos rfl, if_pos (by decide), if_pos (by rw [bs_size, List.length_cons]; omega)]
            show (num_Unbytes.f k ((bs (3 :: r)).extract 1 9)).bind _ = _
            rw [hx]; rfl
        · by_cases h4 : c = 4
          · subst h4
            simp only [n41, n42, n43, if_true, if_false]
            have ht := text_loop (4 :: r) hl r false 1 [] rfl (by simp) (by simp)
            refine Ev.bind ht ?_
            unfold told
            by_cases h0 : (bare false r [] 1).2.2 = 0
            · simp only [h0, if_true]; exact Ev.now _
            · simp only [h0, if_false]; exact Ev.now _
          · simp only [h1, h2, h3, h4, if_false]
            exact Ev.now _

theorem runkey_ev (l : List UInt8) (hl : l.length ≤ 100000000) : Ev (fun k => placketref05_Unkey.f k (bs l)) (tellU (unkL l)) := by
  unfold placketref05_Unkey.f
  cases l with
  | nil => simp only [bs_toList, if_true]; exact Ev.const rfl
  | cons c r =>
    have g0 : bt (bs (c :: r)) 0 = (c.toNat : Int) := bt_at (l := c :: r) (i := 0) rfl
    have hc := byte_lt c
    simp only [cons_not_nil c r, if_false, size_pos c r, if_true, g0, byte1, byte2, byte3, byte4]
    unfold unkL
    by_cases h1 : c = 1
    · subst h1
      simp only [if_true]
      exact Ev.const rfl
    · by_cases h2 : c = 2
      · subst h2
        simp only [n21, if_true, if_false]
        cases r with
        | nil => exact Ev.const rfl
        | cons d r =>
          have g1 : bt (bs (2 :: d :: r)) 1 = (d.toNat : Int) := bt_at (l := 2 :: d :: r) (i := 1) rfl
          have hd := byte_lt d
          have hs1 : ¬ ((bs (2 :: d :: r)).size : Int) = 1 := by rw [bs_size]; simp; omega
          have hs2 : (1 : Int) < ((bs (2 :: d :: r)).size : Int) := by simp only [bs_size, List.length_cons]; omega
          simp only [hs1, hs2, if_true, if_false, g1]
          refine Ev.const ?_
          by_cases hg : 1 < d.toNat
          · rw [if_pos (by omega)]; simp only [hg, if_true]; rfl
          · rw [if_neg (by omega), w64_in (by omega) (by omega)]; simp only [hg, if_false]; rfl
      · by_cases h3 : c = 3
        · subst h3
          simp only [n31, n32, if_true, if_false]
          by_cases h8 : r.length < 8
          · have hs1 : ((bs (3 :: r)).size : Int) < 9 := by rw [bs_size, List.length_cons]; omega
            simp only [h8, hs1, if_true]
            rw [bs_size, List.length_cons]
            exact Ev.const rfl
          · have hs1 : ¬ ((bs (3 :: r)).size : Int) < 9 := by rw [bs_size, List.length_cons]; omega
            have hs2 : (9 : Int) ≤ ((bs (3 :: r)).size : Int) := by omega
            have hx : (bs (3 :: r)).extract 1 9 = bs (r.take 8) := by rw [bs_extract]; rfl
            simp only [h8, hs1, hs2, if_false, if_true, show (1 : Int) ≤ 9 by decide, hx]
            exact Ev.bind (f := fun _ x => some ((2 : Int), x.1, bs [], (9 : Int), (0 : Int))) (runbytes_ev (r.take 8) (by rw [List.length_take]; omega)) (Ev.now _)
        · by_cases h4 : c = 4
          · subst h4
            have hs1 : (1 : Int) ≤ ((bs (4 :: r)).size : Int) := by simp only [bs_size, List.length_cons]; omega
            have hx : (bs (4 :: r)).extract 1 (bs (4 :: r)).size = bs r := by rw [bs_extract, bs_size]; simp
            simp only [n41, n42, n43, if_true, if_false, hs1, hx]
            have ht := bare_loop r (by simp at hl; omega) r.length r 0 [] (Nat.le_refl _) rfl (by omega) (by simp)
            unfold placketref05_Bare.f
            refine Ev.bind ht ?_
            have hs := bare_shift 1 r false [] 0
            have hb := bare_len r false [] 0
            rw [show 0 + 1 = 1 from rfl] at hs
            rw [hs]
            unfold told
            have hw : wrap64 (((bare false r [] 0).2.1 : Int) + 1) = (((bare false r [] 0).2.1 + 1 : Nat) : Int) := w64_succ (by simp at hl; omega)
            by_cases h0 : (bare false r [] 0).2.2 = 0
            · simp only [h0, if_true, hw]; exact Ev.now _
            · simp only [h0, if_false, hw]; exact Ev.now _
          · simp only [h1, h2, h3, h4, if_false]
            exact Ev.now _

/-- which of two lists of bytes is ahead -/
def ordL (l m : List UInt8) : Int := if Op.bytesLess l m = true then -1 else if Op.bytesLess m l = true then 1 else 0
theorem qorder_at (l m : List UInt8) : quote_Order.f (bs l) (bs m) = some (ordL l m) := by
  unfold quote_Order.f ordL
  rw [bs_toList, bs_toList]
  split
  · rfl
  · split <;> rfl

/-- with how many equal bytes two lists begin -/
def com : List UInt8 → List UInt8 → Nat
  | c :: l, d :: m => if c = d then com l m + 1 else 0
  | _, _ => 0

theorem common_loop (l m : List UInt8) (hl : l.length ≤ 100000000) (a : List UInt8) : ∀ (b : List UInt8) (i : Nat), l.drop i = a → m.drop i = b → i ≤ l.length → i ≤ m.length →
    Ev (fun k => placketref02_Common.l0 k (bs l) (bs m) (i : Int)) ((i + com a b : Nat) : Int) := by
  induction a with
  | nil =>
    intro b i ha hb hi hj
    have hlen : l.length ≤ i := List.drop_eq_nil_iff.1 ha
    refine Ev.ge 1 fun k => ?_
    simp only [placketref02_Common.l0]
    rw [if_neg (by rw [bs_size]; omega)]; cases b <;> rfl
  | cons c a ih =>
    intro b i ha hb hi hj
    obtain ⟨hlt, hd, hg⟩ := drop_cons ha
    cases b with
    | nil =>
      have hlen : m.length ≤ i := List.drop_eq_nil_iff.1 hb
      refine Ev.ge 1 fun k => ?_
      simp only [placketref02_Common.l0]
      rw [if_pos (by rw [bs_size]; omega), if_neg (by rw [bs_size]; omega)]; rfl
    | cons d b =>
      obtain ⟨hlt2, hd2, hg2⟩ := drop_cons hb
      unfold com
      by_cases h : c = d
      · subst h
        have hs := ih b (i + 1) hd hd2 (by omega) (by omega)
        rw [if_pos rfl, show i + (com a b + 1) = i + 1 + com a b by omega]
        refine Ev.step (fun k => ?_) hs
        simp only [placketref02_Common.l0]
        rw [if_pos (by rw [bs_size]; omega), if_pos (by rw [bs_size]; omega), if_pos (by omega), bt_at hg, bt_at hg2, if_pos rfl, w64_succ (by omega)]
      · refine Ev.ge 1 fun k => ?_
        simp only [placketref02_Common.l0]
        rw [if_pos (by rw [bs_size]; omega), if_pos (by rw [bs_size]; omega), if_pos (by omega), bt_at hg, bt_at hg2, if_neg (mt (byte_eq c d).1 h), if_neg h]; rfl

theorem common_ev (l m : List UInt8) (hl : l.length ≤ 100000000) : Ev (fun k => placketref02_Common.f k (bs l) (bs m)) ((com l m : Nat) : Int) := by
  unfold placketref02_Common.f
  have := common_loop l m hl l m 0 rfl rfl (by omega) (by omega)
  rw [Nat.zero_add] at this
  exact this

theorem ordL_cons (c : UInt8) (l m : List UInt8) : ordL (c :: l) (c :: m) = ordL l m := by
  unfold ordL
  simp [Op.bytesLess]
theorem ordL_head {c d : UInt8} (h : c ≠ d) (l m : List UInt8) : ordL (c :: l) (d :: m) = if c.toNat < d.toNat then -1 else 1 := by
  unfold ordL
  have h' : c.toNat ≠ d.toNat := fun e => h (UInt8.toNat_inj.1 e)
  have e1 : (c == d) = false := beq_false_of_ne h
  have e2 : (d == c) = false := beq_false_of_ne (Ne.symm h)
  simp only [Op.bytesLess, e1, e2, Bool.false_and, Bool.or_false, decide_eq_true_eq, UInt8.lt_iff_toNat_lt]
  by_cases hlt : c.toNat < d.toNat
  · rw [if_pos hlt, if_pos hlt]
  · rw [if_neg hlt, if_neg hlt, if_pos (by omega)]

/-- the two lists behind what they have in common -/
theorem com_cases (l : List UInt8) : ∀ m : List UInt8, com l m ≤ l.length ∧ com l m ≤ m.length ∧
    (com l m = l.length → com l m = m.length → ordL l m = 0) ∧ (com l m = l.length → com l m ≠ m.length → ordL l m = -1) ∧ (com l m ≠ l.length → com l m = m.length → ordL l m = 1) ∧
    (com l m < l.length → com l m < m.length → ∃ c d, l[com l m]? = some c ∧ m[com l m]? = some d ∧ c ≠ d ∧ ordL l m = if c.toNat < d.toNat then -1 else 1) := by
  induction l with
  | nil =>
    intro m
    have e : com [] m = 0 := by cases m <;> rfl
    rw [e]
    refine ⟨by simp, by simp, ?_, ?_, fun h => absurd rfl h, fun h => absurd h (by simp)⟩
    · intro _ h; cases m with
      | nil => rfl
      | cons d m => simp at h
    · intro _ h; cases m with
      | nil => exact absurd rfl h
      | cons d m => rfl
  | cons c l ih =>
    intro m
    cases m with
    | nil =>
      show 0 ≤ _ ∧ _
      refine ⟨by simp, by simp [com], fun h => ?_, fun h => ?_, fun _ _ => rfl, fun _ h => ?_⟩
      · simp [com] at h
      · simp [com] at h
      · simp [com] at h
    | cons d m =>
      by_cases h : c = d
      · subst h
        have e : com (c :: l) (c :: m) = com l m + 1 := by simp [com]
        obtain ⟨i1, i2, i3, i4, i5, i6⟩ := ih m
        rw [e, ordL_cons]
        refine ⟨by simp; omega, by simp; omega, fun a b => i3 (by simp at a; omega) (by simp at b; omega), fun a b => i4 (by simp at a; omega) (by simp at b; omega), fun a b => i5 (by simp at a; omega) (by simp at b; omega), fun a b => ?_⟩
        obtain ⟨x, y, hx, hy, hne, ho⟩ := i6 (by simp at a; omega) (by simp at b; omega)
        exact ⟨x, y, by simpa using hx, by simpa using hy, hne, ho⟩
      · have e : com (c :: l) (d :: m) = 0 := by simp [com, h]
        rw [e]
        refine ⟨by simp, by simp, fun a => ?_, fun a => ?_, fun _ b => ?_, fun _ _ => ⟨c, d, rfl, rfl, h, ordL_head h l m⟩⟩
        · simp at a
        · simp at a
        · simp at b

theorem rorder_ev (l m : List UInt8) (hl : l.length ≤ 100000000) : Ev (fun k => placketref02_Order.f k (bs l) (bs m)) (ordL l m) := by
  obtain ⟨i1, i2, i3, i4, i5, i6⟩ := com_cases l m
  unfold placketref02_Order.f
  refine Ev.bind (common_ev l m hl) ?_
  refine Ev.ge 1 fun k => ?_
  rw [bs_size, bs_size]
  by_cases ha : com l m = l.length
  · rw [if_pos (by omega)]
    by_cases hb : com l m = m.length
    · simp only [placketref02_Order.j0]
      rw [if_pos (by rw [hb]; exact beq_self_eq_true _), i3 ha hb]
    · have e : (((com l m : Nat) : Int) == (m.length : Int)) = false := beq_false_of_ne (by omega)
      simp only [placketref02_Order.j0, e, Bool.false_eq_true, if_false]
      rw [if_pos (by rw [bs_size]; omega), i4 ha hb]
  · rw [if_neg (by omega)]
    simp only [placketref02_Order.j0, Bool.false_eq_true, if_false]
    rw [if_neg (by rw [bs_size]; omega)]
    by_cases hb : com l m = m.length
    · rw [if_pos (by rw [bs_size]; omega), i5 ha hb]
    · obtain ⟨c, d, hc, hd, hne, ho⟩ := i6 (by omega) (by omega)
      rw [if_neg (by rw [bs_size]; omega), if_pos (by omega), if_pos (by rw [bs_size]; omega), if_pos (by rw [bs_size]; omega), bt_at hc, bt_at hd, ho]
      by_cases hlt : c.toNat < d.toNat
      · rw [if_pos (by omega), if_pos hlt]
      · rw [if_neg (by omega), if_neg hlt]

/-- which of two scalars is ahead -/
def ordS (a b : Int) (l : List UInt8) (a' b' : Int) (l' : List UInt8) : Int :=
  if a < a' then -1 else if a > a' then 1 else if b < b' then -1 else if b > b' then 1 else ordL l l'

theorem order_at (a b : Int) (l : List UInt8) (a' b' : Int) (l' : List UInt8) : scalar_Order.f a b (bs l) a' b' (bs l') = some (ordS a b l a' b' l') := by
  unfold scalar_Order.f scalar_less.f ordS
  by_cases h1 : a < a'
  · simp only [h1, if_true, Option.bind_some]; rfl
  · by_cases h2 : a > a'
    · simp only [h1, h2, if_true, if_false, Option.bind_some]; rfl
    · simp only [h1, h2, if_false, Option.bind_some, if_true]
      by_cases h3 : b < b'
      · simp only [h3, if_true, Option.bind_some]; rfl
      · by_cases h4 : b > b'
        · simp only [h3, h4, if_true, if_false, Option.bind_some]; rfl
        · simp only [h3, h4, if_false, Option.bind_some, if_true]
          rw [qorder_at]; rfl
theorem rorderS_ev (a b : Int) (l : List UInt8) (a' b' : Int) (l' : List UInt8) (hl : l.length ≤ 100000000) : Ev (fun k => placketref05_Order.f k a b (bs l) a' b' (bs l')) (ordS a b l a' b' l') := by
  unfold placketref05_Order.f ordS
  by_cases h1 : a < a'
  · simp only [h1, if_true]; exact Ev.now _
  · by_cases h2 : a > a'
    · simp only [h1, h2, if_true, if_false]; exact Ev.now _
    · simp only [h1, h2, if_false]
      by_cases h3 : b < b'
      · simp only [h3, if_true]; exact Ev.now _
      · by_cases h4 : b > b'
        · simp only [h3, h4, if_true, if_false]; exact Ev.now _
        · simp only [h3, h4, if_false]
          exact Ev.bind (rorder_ev l l' hl) (Ev.now _)
theorem same_at (a b : Int) (l : List UInt8) (a' b' : Int) (l' : List UInt8) : scalar_Same.f a b (bs l) a' b' (bs l') = some (a == a' && (b == b' && (l == l'))) := by
  unfold scalar_Same.f
  rw [bs_toList, bs_toList]
end Go.Proofs.Ytdfgehjhecmojaa.Sc
