/- The tree of two trees. -/
import Derived.Test.YtcjpdjecgeenfaaRoG
set_option linter.unusedVariables false
set_option linter.unusedSimpArgs false
namespace Go.Proofs.Ytcjpdjecgeenfaa.Ro
open Go Go.RowKit Go.Proofs.Ytcjpdjecgeenfaa.Mem Go.Proofs.YtcjpdjecgeenfaaW.PrintWords

/-- a whole tree -/
def Tree (K : Nat → Prop) (w : World) (p : Option Addr) (xs : List Int) : Prop :=
  (p = none ∧ xs = []) ∨ ∃ d c, RRep K w d p c xs ∧ Top d c

section
variable {K K' : Nat → Prop} {w w' : World} {d c : Nat} {p : Option Addr} {xs : List Int}
theorem Tree.below (h : Tree K w p xs) (hb : Below w.heap.size w w') : Tree K w' p xs := h.elim Or.inl fun ⟨d, c, h, ht⟩ => Or.inr ⟨d, c, h.below hb, ht⟩
theorem Tree.mono (h : Tree K w p xs) (hK : ∀ b, K b → K' b) : Tree K' w p xs := h.elim Or.inl fun ⟨d, c, h, ht⟩ => Or.inr ⟨d, c, h.mono hK, ht⟩
theorem Tree.bound (h : Tree K w p xs) : Tree (fun b => K b ∧ b < w.heap.size) w p xs := h.elim Or.inl fun ⟨d, c, h, ht⟩ => Or.inr ⟨d, c, h.bound, ht⟩

theorem RRep.deep (h : RRep K w d p c xs) (ht : Top d c) (hl : xs.length ≤ 1000000) : d ≤ 6 := by
  obtain ⟨_, _, h0 | h2⟩ := ht
  · omega
  · refine Nat.le_of_not_lt fun hd => ?_
    have h3 := h.len.1
    have h4 : 8 ^ 7 ≤ 8 ^ d := Nat.pow_le_pow_right (by omega) (by omega)
    have h5 : 8 ^ d * 2 ≤ 8 ^ d * c := Nat.mul_le_mul_left _ h2
    have h6 : (8 : Nat) ^ 7 = 2097152 := rfl
    omega

theorem PartsP.form {m : Nat} {v : Value} (h : PartsP K d m xs v w) : ∃ A n c, v = .slice A n c := by
  obtain ⟨ps, h1, _⟩ := h
  exact h1.form

theorem inner_kids (K : Nat → Prop) (d : Nat) (A : Option Addr) (n c : Nat) (ks : List Kid) (w : World) (h : SlV K w (.slice A n c) (ptrs ks)) (hk : ∀ k ∈ ks, RRep K w d k.1 k.2.1 k.2.2 ∧ 8 ≤ k.2.1 ∧ k.2.1 ≤ 16) (hl : ks.length ≤ 16) (hd : d ≤ 100) (ht : (things ks).length ≤ 1000000) :
    Calls Try.prog 36 #[.slice A n c] w (Ret (fun v w' => ∃ p, v = .pointer p ∧ Tree (New K w) w' p (things ks)) w) := by
  match ks, h, hk, hl, ht with
  | [], h, hk, hl, ht =>
    obtain rfl : n = 0 := h.len
    refine (inner_nil A c w).mono ?_
    rintro e w' ⟨v, rfl, hv, hb⟩
    exact ⟨v, rfl, ⟨none, hv, Or.inl ⟨rfl, rfl⟩⟩, hb⟩
  | [k], h, hk, hl, ht =>
    obtain ⟨hr, h8, h16⟩ := hk k (by simp)
    refine (inner_one K A n c k.1 w h).mono ?_
    rintro e w' ⟨v, rfl, hv, hb⟩
    exact ⟨v, rfl, ⟨k.1, hv, Or.inr ⟨d, k.2.1, by rw [show things [k] = k.2.2 by simp [things]]; exact (hr.below hb).mono fun b h => New.old h, by omega, h16, by omega⟩⟩, hb⟩
  | k :: k' :: ks, h, hk, hl, ht =>
    refine (inner_many K d A n c _ w h hk (by simp) (by omega) hd ht).mono ?_
    rintro e w' ⟨v, rfl, ⟨p, rfl, hr⟩, hb⟩
    exact ⟨_, rfl, ⟨p, rfl, Or.inr ⟨d + 1, _, hr, by simp, hl, Or.inr (by simp)⟩⟩, hb⟩

theorem inner_parts (K : Nat → Prop) (d m : Nat) (A : Option Addr) (n c : Nat) (xs : List Int) (w : World) (h : PartsP K d m xs (.slice A n c) w) (hm : 1 ≤ m) (hm' : d = 0 ∨ 2 ≤ m) (hd : d ≤ 90) (ht : xs.length ≤ 1000000) :
    Calls Try.prog 36 #[.slice A n c] w (Ret (fun v w' => ∃ p, v = .pointer p ∧ Tree (New K w) w' p xs) w) := by
  obtain ⟨ps, h1, h2, rfl, h3, h4, h5⟩ := h
  match ps, h1, h2, h3, h4, h5, ht with
  | [k], h, hk, _, _, _, ht =>
    obtain ⟨hr, h8, h16⟩ := hk k (by simp)
    refine (inner_one K A n c k.1 w h).mono ?_
    rintro e w' ⟨v, rfl, hv, hb⟩
    exact ⟨v, rfl, ⟨k.1, hv, Or.inr ⟨d, k.2.1, by rw [show things [k] = k.2.2 by simp [things]]; exact (hr.below hb).mono fun b h => New.old h, by omega, h16, by omega⟩⟩, hb⟩
  | k :: k' :: ks, h, hk, _, hl, h8, ht => exact inner_kids K d A n c _ w h (fun x hx => ⟨(hk x hx).1, h8 (by simp) x hx, (hk x hx).2.2⟩) (by omega) (by omega) ht
end

set_option maxHeartbeats 4000000 in
/-- THE TREE OF TWO, ONE BEHIND THE OTHER. -/
theorem join_c (K : Nat → Prop) (p q : Option Addr) (xs ys : List Int) (w : World) (h : Tree K w p xs) (h' : Tree K w q ys) (hl : (xs ++ ys).length ≤ 1000000) :
    Calls Try.prog 26 #[.pointer p, .pointer q] w (Ret (fun v w' => ∃ r, v = .pointer r ∧ Tree (New K w) w' r (xs ++ ys)) w) := by
  rcases h with ⟨rfl, rfl⟩ | ⟨d, c, h, ht⟩
  · have H := Lib.hid (h'.mono (K' := New K w) fun b h => New.old h)
    clear h'
    go_enter Try.func26, Try.ntmps26
    go_wp2
    go_returns
    exact ⟨_, rfl, ⟨q, rfl, H.out⟩, Below.refl _ _⟩
  rcases h' with ⟨rfl, rfl⟩ | ⟨e, c', h', ht'⟩
  · obtain ⟨g, a0, b0, rfl, -, hg⟩ := h.head
    have H := Lib.hid (show Tree (New K w) w (some ⟨g, 0, none⟩) (xs ++ []) from Or.inr ⟨d, c, by rw [List.append_nil]; exact h.mono fun b h => New.old h, ht⟩)
    clear h ht hg
    go_enter Try.func26, Try.ntmps26
    go_wp2
    go_returns
    exact ⟨_, rfl, ⟨_, rfl, H.out⟩, Below.refl _ _⟩
  obtain ⟨g, a0, b0, rfl, -, hg⟩ := h.head
  obtain ⟨g', a0', b0', rfl, -, hg'⟩ := h'.head
  have dp : w.cell? ⟨g, 1, none⟩ = some (.int .i64 ((d : Int) + 1)) := blk_cell hg 1
  have dq : w.cell? ⟨g', 1, none⟩ = some (.int .i64 ((e : Int) + 1)) := blk_cell hg' 1
  have hd6 := h.deep ht (by simp at hl; omega)
  have he6 := h'.deep ht' (by simp at hl; omega)
  obtain ⟨t1, t2, t3⟩ := ht
  obtain ⟨t1', t2', t3'⟩ := ht'
  have HI := Lib.hid (fun W (hw : Below w.heap.size w W) k m A' n' c'' (hP : PartsP (New K w) k m (xs ++ ys) (.slice A' n' c'') W) (hm : 1 ≤ m) (hm' : k = 0 ∨ 2 ≤ m) (hk : k ≤ 6) =>
    (show Calls Try.prog 36 #[.slice A' n' c''] W (Ret (fun v w' => ∃ r, v = .pointer r ∧ Tree (New K w) w' r (xs ++ ys)) W) from by
      refine (inner_parts (New K w) k m A' n' c'' (xs ++ ys) W hP hm hm' (by omega) hl).mono ?_
      rintro e w' ⟨v, rfl, ⟨r, rfl, hT⟩, hb⟩
      exact ⟨_, rfl, ⟨r, rfl, hT.mono fun b h => h.elim id fun h => New.fresh (Nat.le_trans hw.size h)⟩, hb⟩))
  have HPQ := Lib.hid (fun W (hw : Below w.heap.size w W) => And.intro (h.below hw) (h'.below hw))
  clear h h' hg hg'
  rcases Nat.lt_trichotomy e d with hed | hed | hed
  · have hlt : (e : Int) + 1 < (d : Int) + 1 := by omega
    have HPC := Lib.hid (fun W (hw : Below w.heap.size w W) => (show Calls Try.prog 37 #[.pointer (some ⟨g, 0, none⟩), .pointer (some ⟨g', 0, none⟩)] W (Ret (fun v w' => PartsP (New K w) d c (xs ++ ys) v w') W) from by
      refine (behind_c K d e (by omega) hed _ _ _ _ _ _ W (HPQ.out W hw).1 (HPQ.out W hw).2 (by omega) t2 ⟨t1', t2', t3'⟩ hl).mono ?_
      rintro e' w' ⟨v, rfl, hP, hb⟩
      exact ⟨v, rfl, hP.mono fun b h => h.elim New.old fun h => New.fresh (Nat.le_trans hw.size h), hb⟩))
    clear HPQ hl
    go_enter Try.func26, Try.ntmps26
    go_wp2_with fail
    go_quiet (fail)
    go_wp2_with (first
      | (go_at_call 37; ((with_reducible refine (HPC.out _ (Drawn0.mk ⟨_, rfl⟩).below).mono ?_); rintro e w1 ⟨v, rfl, hP, hb1⟩; obtain ⟨Ap, np, cp, rfl⟩ := hP.form; have hB1 : Below w.heap.size w w1 := below_trans (Drawn0.mk ⟨_, rfl⟩).below hb1; have HP := Lib.hid hP; clear hP HPC))
      | (go_at_call 36; ((with_reducible refine (HI.out _ hB1 d c _ _ _ HP.out (by omega) (by omega) hd6).mono ?_); rintro e w2 ⟨v, rfl, ⟨r, rfl, hT⟩, hb2⟩)))
    go_returns
    exact ⟨_, rfl, ⟨r, rfl, hT⟩, below_trans hB1 hb2⟩
  · subst hed
    have hlt : ¬ (e : Int) + 1 < (e : Int) + 1 := by omega
    have HPC := Lib.hid (fun W (hw : Below w.heap.size w W) => (show Calls Try.prog 39 #[.pointer (some ⟨g, 0, none⟩), .pointer (some ⟨g', 0, none⟩)] W (Ret (fun v w' => PartsP (New K w) e (c + c') (xs ++ ys) v w') W) from by
      refine (glue_c K e _ _ _ _ _ _ W (HPQ.out W hw).1 (HPQ.out W hw).2 ⟨t1, t2, t3⟩ ⟨t1', t2', t3'⟩ (by omega) hl).mono ?_
      rintro e' w' ⟨v, rfl, hP, hb⟩
      exact ⟨v, rfl, hP.mono fun b h => h.elim New.old fun h => New.fresh (Nat.le_trans hw.size h), hb⟩))
    clear HPQ hl
    go_enter Try.func26, Try.ntmps26
    go_wp2_with fail
    go_quiet (fail)
    go_wp2_with fail
    go_quiet (fail)
    go_wp2_with (first
      | (go_at_call 39; ((with_reducible refine (HPC.out _ (Drawn0.mk ⟨_, rfl⟩).below).mono ?_); rintro e w1 ⟨v, rfl, hP, hb1⟩; obtain ⟨Ap, np, cp, rfl⟩ := hP.form; have hB1 : Below w.heap.size w w1 := below_trans (Drawn0.mk ⟨_, rfl⟩).below hb1; have HP := Lib.hid hP; clear hP HPC))
      | (go_at_call 36; ((with_reducible refine (HI.out _ hB1 _ (c + c') _ _ _ HP.out (by omega) (by omega) hd6).mono ?_); rintro e w2 ⟨v, rfl, ⟨r, rfl, hT⟩, hb2⟩)))
    go_returns
    exact ⟨_, rfl, ⟨r, rfl, hT⟩, below_trans hB1 hb2⟩
  · have hlt : (d : Int) + 1 < (e : Int) + 1 := by omega
    have hlt' : ¬ (e : Int) + 1 < (d : Int) + 1 := by omega
    have HPC := Lib.hid (fun W (hw : Below w.heap.size w W) => (show Calls Try.prog 38 #[.pointer (some ⟨g, 0, none⟩), .pointer (some ⟨g', 0, none⟩)] W (Ret (fun v w' => PartsP (New K w) e c' (xs ++ ys) v w') W) from by
      refine (ahead_c K e d (by omega) hed _ _ _ _ _ _ W (HPQ.out W hw).1 (HPQ.out W hw).2 (by omega) t2' ⟨t1, t2, t3⟩ hl).mono ?_
      rintro e' w' ⟨v, rfl, hP, hb⟩
      exact ⟨v, rfl, hP.mono fun b h => h.elim New.old fun h => New.fresh (Nat.le_trans hw.size h), hb⟩))
    clear HPQ hl
    go_enter Try.func26, Try.ntmps26
    go_wp2_with fail
    go_quiet (fail)
    go_wp2_with fail
    go_quiet (fail)
    go_wp2_with (first
      | (go_at_call 38; ((with_reducible refine (HPC.out _ (Drawn0.mk ⟨_, rfl⟩).below).mono ?_); rintro e w1 ⟨v, rfl, hP, hb1⟩; obtain ⟨Ap, np, cp, rfl⟩ := hP.form; have hB1 : Below w.heap.size w w1 := below_trans (Drawn0.mk ⟨_, rfl⟩).below hb1; have HP := Lib.hid hP; clear hP HPC))
      | (go_at_call 36; ((with_reducible refine (HI.out _ hB1 _ c' _ _ _ HP.out (by omega) (by omega) he6).mono ?_); rintro e w2 ⟨v, rfl, ⟨r, rfl, hT⟩, hb2⟩)))
    go_returns
    exact ⟨_, rfl, ⟨r, rfl, hT⟩, below_trans hB1 hb2⟩
end Go.Proofs.Ytcjpdjecgeenfaa.Ro
