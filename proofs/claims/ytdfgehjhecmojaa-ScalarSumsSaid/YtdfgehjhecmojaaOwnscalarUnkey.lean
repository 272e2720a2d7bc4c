/- The contract of scalar.Unkey, over its printed plain function. No condition. -/
import Derived.Test.YtdfgehjhecmojaaPSx3a
import Derived.WalkLawsBesides
import Derived.Outline
import Derived.Handy
set_option linter.unusedVariables false
set_option linter.unusedSimpArgs false
namespace Go.Proofs.Ytdfgehjhecmojaa.PS
open Go Go.RowKit Go.Proofs.YtdfgehjhecmojaaW.PrintWords Go.Proofs.YtdfgehjhecmojaaW.PrintLast Go.Proofs.YtdfgehjhecmojaaW.PrintMore

theorem bcell {W w1 : World} (hb : Below W.heap.size W w1) : (∀ b o, b < W.heap.size → w1.cell? ⟨b, o, none⟩ = W.cell? ⟨b, o, none⟩) ∧ (∀ b o, b < W.heap.size → w1.frozen? ⟨b, o, none⟩ = W.frozen? ⟨b, o, none⟩) :=
  ⟨fun b o h => hb.cell (p := ⟨b, o, none⟩) h, fun b o h => hb.frozen (p := ⟨b, o, none⟩) h⟩
theorem nonempty (a0 : ByteArray) (h : 0 < a0.size) : a0.toList.isEmpty = false := by
  rw [ByteArray.toList_eq]; simp; intro h'; simp [ByteArray.size, h'] at h
theorem nonempty' (a0 : ByteArray) (h : 0 < a0.size) : ¬ a0.toList = [] := by
  have := nonempty a0 h
  intro h'; rw [h'] at this; cases this
theorem bt_get (a0 : ByteArray) (i : Nat) (h : i < a0.size) : bt a0 (i : Int) = ((a0[i]'h).toNat : Int) := by
  unfold bt
  rw [dif_pos (by simpa using h)]; rfl

set_option maxHeartbeats 8000000 in
set_option maxRecDepth 100000 in
theorem unkey_none (a0 : ByteArray) (w : World) (h : a0.toList = []) :
    Calls Try.prog 16 #[.string a0] w fun e w' => e = .returned (.tuple #[.agg #[.int .i64 0, .int .i64 0, .string (⟨#[]⟩ : ByteArray)], .int .i64 0, .int .i64 10]) ∧ Below w.heap.size w w' := by
  have e0 : a0.toList.isEmpty = true := by rw [h]; rfl
  go_enter Try.func16, Try.ntmps16
  go_wp2
  go_returns
  exact ⟨rfl, by go_grown⟩

set_option maxHeartbeats 8000000 in
set_option maxRecDepth 100000 in
theorem unkey_other (a0 : ByteArray) (w : World) (h0 : 0 < a0.size) (c1 : (a0[0]'h0).toNat ≠ 1) (c2 : (a0[0]'h0).toNat ≠ 2) (c3 : (a0[0]'h0).toNat ≠ 3) (c4 : (a0[0]'h0).toNat ≠ 4) :
    Calls Try.prog 16 #[.string a0] w fun e w' => e = .returned (.tuple #[.agg #[.int .i64 0, .int .i64 0, .string (⟨#[]⟩ : ByteArray)], .int .i64 0, .int .i64 2]) ∧ Below w.heap.size w w' := by
  have e0 : a0.toList.isEmpty = false := nonempty a0 (by omega)
  have g0 : 0 < a0.size := by omega
  have g1 : (0 : Int) < (a0.size : Int) := by omega
  have d1 : (((a0[0]'h0).toNat : Int) == 1) = false := beq_false_of_ne (by omega)
  have d2 : (((a0[0]'h0).toNat : Int) == 2) = false := beq_false_of_ne (by omega)
  have d3 : (((a0[0]'h0).toNat : Int) == 3) = false := beq_false_of_ne (by omega)
  have d4 : (((a0[0]'h0).toNat : Int) == 4) = false := beq_false_of_ne (by omega)
  go_enter Try.func16, Try.ntmps16
  go_wp2
  go_returns
  exact ⟨rfl, by go_grown⟩

set_option maxHeartbeats 8000000 in
set_option maxRecDepth 100000 in
theorem unkey_null (a0 : ByteArray) (w : World) (h0 : 0 < a0.size) (c0 : (a0[0]'h0).toNat = 1) :
    Calls Try.prog 16 #[.string a0] w fun e w' => e = .returned (.tuple #[.agg #[.int .i64 0, .int .i64 0, .string (⟨#[]⟩ : ByteArray)], .int .i64 1, .int .i64 0]) ∧ Below w.heap.size w w' := by
  have e0 : a0.toList.isEmpty = false := nonempty a0 (by omega)
  have g0 : 0 < a0.size := by omega
  have g1 : (0 : Int) < (a0.size : Int) := by omega
  have g2 : ¬ (a0.size : Int) < 1 := by omega
  go_enter Try.func16, Try.ntmps16
  go_wp2
  go_returns
  exact ⟨rfl, by go_grown⟩

set_option maxHeartbeats 8000000 in
set_option maxRecDepth 100000 in
theorem unkey_bool_short (a0 : ByteArray) (w : World) (h0 : 0 < a0.size) (c0 : (a0[0]'h0).toNat = 2) (h1 : a0.size = 1) :
    Calls Try.prog 16 #[.string a0] w fun e w' => e = .returned (.tuple #[.agg #[.int .i64 0, .int .i64 0, .string (⟨#[]⟩ : ByteArray)], .int .i64 1, .int .i64 10]) ∧ Below w.heap.size w w' := by
  have e0 : a0.toList.isEmpty = false := nonempty a0 (by omega)
  have g0 : 0 < a0.size := by omega
  have g1 : (0 : Int) < (a0.size : Int) := by omega
  have g2 : (a0.size : Int) < 2 := by omega
  go_enter Try.func16, Try.ntmps16
  go_wp2
  go_returns
  exact ⟨rfl, by go_grown⟩

set_option maxHeartbeats 8000000 in
set_option maxRecDepth 100000 in
theorem unkey_bool_form (a0 : ByteArray) (w : World) (h0 : 0 < a0.size) (c0 : (a0[0]'h0).toNat = 2) (h1 : 1 < a0.size) (c1 : 1 < (a0[1]'h1).toNat) :
    Calls Try.prog 16 #[.string a0] w fun e w' => e = .returned (.tuple #[.agg #[.int .i64 0, .int .i64 0, .string (⟨#[]⟩ : ByteArray)], .int .i64 1, .int .i64 2]) ∧ Below w.heap.size w w' := by
  have e0 : a0.toList.isEmpty = false := nonempty a0 (by omega)
  have g0 : 0 < a0.size := by omega
  have g1 : (0 : Int) < (a0.size : Int) := by omega
  have g2 : ¬ (a0.size : Int) < 2 := by omega
  go_enter Try.func16, Try.ntmps16
  go_wp2
  go_returns
  exact ⟨rfl, by go_grown⟩

set_option maxHeartbeats 8000000 in
set_option maxRecDepth 100000 in
theorem unkey_bool (a0 : ByteArray) (w : World) (h0 : 0 < a0.size) (c0 : (a0[0]'h0).toNat = 2) (h1 : 1 < a0.size) (c1 : (a0[1]'h1).toNat ≤ 1) :
    Calls Try.prog 16 #[.string a0] w fun e w' => e = .returned (.tuple #[.agg #[.int .i64 1, .int .i64 ((a0[1]'h1).toNat : Int), .string (⟨#[]⟩ : ByteArray)], .int .i64 2, .int .i64 0]) ∧ Below w.heap.size w w' := by
  have e0 : a0.toList.isEmpty = false := nonempty a0 (by omega)
  have g0 : 0 < a0.size := by omega
  have g1 : (0 : Int) < (a0.size : Int) := by omega
  have g2 : ¬ (a0.size : Int) < 2 := by omega
  go_enter Try.func16, Try.ntmps16
  go_wp2
  go_returns
  exact ⟨rfl, by go_grown⟩

set_option maxHeartbeats 8000000 in
set_option maxRecDepth 100000 in
theorem unkey_int_short (a0 : ByteArray) (w : World) (h0 : 0 < a0.size) (c0 : (a0[0]'h0).toNat = 3) (h1 : a0.size < 9) :
    Calls Try.prog 16 #[.string a0] w fun e w' => e = .returned (.tuple #[.agg #[.int .i64 0, .int .i64 0, .string (⟨#[]⟩ : ByteArray)], .int .i64 (a0.size : Int), .int .i64 10]) ∧ Below w.heap.size w w' := by
  have e0 : a0.toList.isEmpty = false := nonempty a0 (by omega)
  have g0 : 0 < a0.size := by omega
  have g1 : (0 : Int) < (a0.size : Int) := by omega
  have g2 : (a0.size : Int) < 9 := by omega
  go_enter Try.func16, Try.ntmps16
  go_wp2
  go_returns
  exact ⟨rfl, by go_grown⟩

set_option maxHeartbeats 8000000 in
set_option maxRecDepth 100000 in
theorem unkey_int (a0 : ByteArray) (w : World) (h0 : 0 < a0.size) (c0 : (a0[0]'h0).toNat = 3) (h1 : 9 ≤ a0.size) (k : Nat) (n f : Int) (hu : num_Unbytes.f k (a0.extract 1 9) = some (n, f)) :
    Calls Try.prog 16 #[.string a0] w fun e w' => e = .returned (.tuple #[.agg #[.int .i64 2, .int .i64 n, .string (⟨#[]⟩ : ByteArray)], .int .i64 9, .int .i64 0]) ∧ Below w.heap.size w w' := by
  have e0 : a0.toList.isEmpty = false := nonempty a0 (by omega)
  have g0 : 0 < a0.size := by omega
  have g1 : (0 : Int) < (a0.size : Int) := by omega
  have g2 : ¬ (a0.size : Int) < 9 := by omega
  go_enter Try.func16, Try.ntmps16
  go_wp2_with (go_at_call 29; (with_reducible refine (num_Unbytes.calls k _ n f _ hu).mono ?_); rintro e w' ⟨rfl, ⟨nd, rfl⟩⟩)
  go_returns
  refine ⟨rfl, ?_⟩
  go_grown
  refine pw_below_drewN ?_ _
  go_grown

set_option maxHeartbeats 8000000 in
set_option maxRecDepth 100000 in
theorem unkey_text (a0 : ByteArray) (w : World) (h0 : 0 < a0.size) (c0 : (a0[0]'h0).toNat = 4) (k : Nat) (s : ByteArray) (n : Int) (hu : scalar_text.f k a0 1 = some (s, n, 0)) :
    Calls Try.prog 16 #[.string a0] w fun e w' => e = .returned (.tuple #[.agg #[.int .i64 3, .int .i64 0, .string s], .int .i64 n, .int .i64 0]) ∧ Below w.heap.size w w' := by
  have e0 : a0.toList.isEmpty = false := nonempty a0 (by omega)
  have g0 : 0 < a0.size := by omega
  have g1 : (0 : Int) < (a0.size : Int) := by omega
  go_enter Try.func16, Try.ntmps16
  go_wp2_with (go_at_call 28; (with_reducible refine (scalar_text.calls k _ 1 s n 0 _ hu).mono ?_); rintro e w' ⟨rfl, hb⟩; obtain ⟨hc, hf⟩ := bcell hb)
  have hs0 := hb.size
  refine bodyPost_ret (results_ctt rfl _ _ w.heap.size 23 #[.int .i64 3, .int .i64 0, .string s] (0, 0) _ rfl (by refine blk_put (cs := #[.int .i64 3, .int .i64 0, .string (⟨#[]⟩ : ByteArray)]) ?_ 2 _ rfl; refine blk_put (cs := #[.int .i64 3, .int .i64 0, .string (⟨#[]⟩ : ByteArray)]) ?_ 1 _ rfl; refine blk_put (cs := #[.int .i64 0, .int .i64 0, .string (⟨#[]⟩ : ByteArray)]) ?_ 0 _ rfl; exact blk_below (blk_new _ _) hb) Try.underlying23 rfl (by kernel_rfl)) rfl ?_
  refine ⟨rfl, below_set (below_set (below_set (below_then (Below.alloc (Below.refl _ _) (Nat.le_refl _) _) (by simp) hb) (Nat.le_refl _)) (Nat.le_refl _)) (Nat.le_refl _)⟩

set_option maxHeartbeats 8000000 in
set_option maxRecDepth 100000 in
theorem unkey_text_no (a0 : ByteArray) (w : World) (h0 : 0 < a0.size) (c0 : (a0[0]'h0).toNat = 4) (k : Nat) (s : ByteArray) (n f : Int) (hf0 : f ≠ 0) (hu : scalar_text.f k a0 1 = some (s, n, f)) :
    Calls Try.prog 16 #[.string a0] w fun e w' => e = .returned (.tuple #[.agg #[.int .i64 0, .int .i64 0, .string (⟨#[]⟩ : ByteArray)], .int .i64 n, .int .i64 f]) ∧ Below w.heap.size w w' := by
  have e0 : a0.toList.isEmpty = false := nonempty a0 (by omega)
  have g0 : 0 < a0.size := by omega
  have g1 : (0 : Int) < (a0.size : Int) := by omega
  have hff : (f == 0) = false := beq_false_of_ne hf0
  have hfg : (f != 0) = true := bne_iff_ne.2 hf0
  clear hf0
  go_enter Try.func16, Try.ntmps16
  go_wp2_with (go_at_call 28; (with_reducible refine (scalar_text.calls k _ 1 s n f _ hu).mono ?_); rintro e w' ⟨rfl, hb⟩; obtain ⟨hc, hf⟩ := bcell hb)
  have hs0 := hb.size
  refine bodyPost_ret (results_ctt rfl _ _ w.heap.size 23 #[.int .i64 0, .int .i64 0, .string (⟨#[]⟩ : ByteArray)] (0, 0) _ rfl (by refine blk_put (cs := #[.int .i64 0, .int .i64 0, .string (⟨#[]⟩ : ByteArray)]) ?_ 2 _ rfl; refine blk_put (cs := #[.int .i64 0, .int .i64 0, .string (⟨#[]⟩ : ByteArray)]) ?_ 1 _ rfl; refine blk_put (cs := #[.int .i64 0, .int .i64 0, .string (⟨#[]⟩ : ByteArray)]) ?_ 0 _ rfl; exact blk_below (blk_new _ _) hb) Try.underlying23 rfl (by kernel_rfl)) rfl ?_
  refine ⟨rfl, below_set (below_set (below_set (below_then (Below.alloc (Below.refl _ _) (Nat.le_refl _) _) (by simp) hb) (Nat.le_refl _)) (Nat.le_refl _)) (Nat.le_refl _)⟩

theorem scalar_Unkey.calls (k : Nat) (a0 : ByteArray) (r1 : Int) (r2 : Int) (r3 : ByteArray) (r4 : Int) (r5 : Int) (w : World) (h : scalar_Unkey.f k a0 = some (r1, r2, r3, r4, r5)) :
    Calls Try.prog 16 #[.string a0] w fun e w' => e = .returned (.tuple #[.agg #[.int .i64 r1, .int .i64 r2, .string r3], .int .i64 r4, .int .i64 r5]) ∧ Below w.heap.size w w' := by
  unfold scalar_Unkey.f at h
  by_cases e0 : a0.toList = []
  · rw [if_pos e0] at h
    simp only [Option.some.injEq, Prod.mk.injEq] at h
    obtain ⟨rfl, rfl, rfl, rfl, rfl⟩ := h
    exact unkey_none a0 w e0
  · have h0 : 0 < a0.size := by
      rcases Nat.eq_zero_or_pos a0.size with hz | hp
      · exfalso; apply e0; rw [ByteArray.toList_eq]; exact List.eq_nil_of_length_eq_zero (by simpa using hz)
      · exact hp
    have hb0 : bt a0 0 = ((a0[0]'h0).toNat : Int) := bt_get a0 0 h0
    have v3 : wrap64 (((3 : Nat) : Int) - 1) = 2 := by unfold wrap64; omega
    have v2 : wrap64 (((2 : Nat) : Int) - 1) = 1 := by unfold wrap64; omega
    have v1 : wrap64 (((1 : Nat) : Int) - 1) = 0 := by unfold wrap64; omega
    have w0 : wrap64 (((a0[0]'h0).toNat : Int)) = ((a0[0]'h0).toNat : Int) := by have := (a0[0]'h0).toNat_lt; unfold wrap64; omega
    rw [if_neg e0, if_pos (by omega)] at h
    rw [hb0] at h
    by_cases c3 : (a0[0]'h0).toNat = 3
    · rw [if_pos (by omega)] at h
      cases k with
      | zero => simp only [scalar_Unkey.j0] at h; cases h
      | succ k =>
        simp only [scalar_Unkey.j0] at h
        by_cases h9 : a0.size < 9
        · rw [if_pos (by omega)] at h
          simp only [Option.some.injEq, Prod.mk.injEq] at h
          obtain ⟨rfl, rfl, rfl, rfl, rfl⟩ := h
          exact unkey_int_short a0 w h0 c3 h9
        · rw [if_neg (by omega), if_pos (by omega)] at h
          rw [hb0, w0, c3, v3] at h
          rw [if_neg (by decide), if_pos (by decide), if_pos (by decide), if_pos (by omega)] at h
          obtain ⟨⟨n, f⟩, hu, h⟩ := Option.bind_eq_some_iff.1 h
          simp only [Option.some.injEq, Prod.mk.injEq] at h
          obtain ⟨rfl, rfl, rfl, rfl, rfl⟩ := h
          exact unkey_int a0 w h0 c3 (by omega) k n f hu
    · rw [if_neg (by omega)] at h
      by_cases c2 : (a0[0]'h0).toNat = 2
      · rw [if_pos (by omega)] at h
        cases k with
        | zero => simp only [scalar_Unkey.j0] at h; cases h
        | succ k =>
          simp only [scalar_Unkey.j0] at h
          by_cases h1 : a0.size = 1
          · rw [if_pos (by omega)] at h
            simp only [Option.some.injEq, Prod.mk.injEq] at h
            obtain ⟨rfl, rfl, rfl, rfl, rfl⟩ := h
            rw [h1]
            exact unkey_bool_short a0 w h0 c2 h1
          · have h2 : 1 < a0.size := by omega
            have hb1 : bt a0 1 = ((a0[1]'h2).toNat : Int) := bt_get a0 1 h2
            have w1 : wrap64 (((a0[1]'h2).toNat : Int)) = ((a0[1]'h2).toNat : Int) := by have := (a0[1]'h2).toNat_lt; unfold wrap64; omega
            rw [if_neg (by omega), if_pos (by omega)] at h
            rw [hb0, w0, c2, v2] at h
            rw [if_pos (by decide), if_pos (by omega), hb1, w1] at h
            by_cases hg : 1 < (a0[1]'h2).toNat
            · rw [if_pos (by omega)] at h
              simp only [Option.some.injEq, Prod.mk.injEq] at h
              obtain ⟨rfl, rfl, rfl, rfl, rfl⟩ := h
              exact unkey_bool_form a0 w h0 c2 h2 hg
            · rw [if_neg (by omega)] at h
              simp only [Option.some.injEq, Prod.mk.injEq] at h
              obtain ⟨rfl, rfl, rfl, rfl, rfl⟩ := h
              exact unkey_bool a0 w h0 c2 h2 (by omega)
      · rw [if_neg (by omega)] at h
        by_cases c1 : (a0[0]'h0).toNat = 1
        · rw [if_pos (by omega)] at h
          cases k with
          | zero => simp only [scalar_Unkey.j0] at h; cases h
          | succ k =>
            simp only [scalar_Unkey.j0] at h
            rw [if_neg (by omega), if_pos (by omega)] at h
            rw [hb0, w0, c1, v1] at h
            rw [if_neg (by decide), if_neg (by decide)] at h
            simp only [Option.some.injEq, Prod.mk.injEq] at h
            obtain ⟨rfl, rfl, rfl, rfl, rfl⟩ := h
            exact unkey_null a0 w h0 c1
        · rw [if_neg (by omega)] at h
          by_cases c4 : (a0[0]'h0).toNat = 4
          · rw [if_pos (by omega)] at h
            obtain ⟨⟨s, n, f⟩, hu, h⟩ := Option.bind_eq_some_iff.1 h
            by_cases hf : f = 0
            · subst hf
              rw [if_pos rfl] at h
              simp only [Option.some.injEq, Prod.mk.injEq] at h
              obtain ⟨rfl, rfl, rfl, rfl, rfl⟩ := h
              exact unkey_text a0 w h0 c4 k _ _ hu
            · rw [if_neg hf] at h
              simp only [Option.some.injEq, Prod.mk.injEq] at h
              obtain ⟨rfl, rfl, rfl, rfl, rfl⟩ := h
              exact unkey_text_no a0 w h0 c4 k _ _ _ hf hu
          · rw [if_neg (by omega)] at h
            simp only [Option.some.injEq, Prod.mk.injEq] at h
            obtain ⟨rfl, rfl, rfl, rfl, rfl⟩ := h
            exact unkey_other a0 w h0 c1 c2 c3 c4
end Go.Proofs.Ytdfgehjhecmojaa.PS
