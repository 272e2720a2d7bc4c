/- The chapter's examples are so. -/
import Derived.Test.YtcjpdjecgeenfaaRoVa
import Derived.Test.YtcjpdjecgeenfaaRoX
import Derived.Test.YtcjpdjecgeenfaaRoU
set_option linter.unusedVariables false
set_option linter.unusedSimpArgs false
namespace Go.Proofs.Ytcjpdjecgeenfaa.Ro
open Go Go.RowKit Go.Proofs.Ytcjpdjecgeenfaa.Mem Go.Proofs.YtcjpdjecgeenfaaW.PrintWords

section
variable {K K' : Nat → Prop} {w w' : World} {v : Value} {xs : List Int}
theorem RopeV.keep (h : RopeV K w v xs) (hK : ∀ b, K b → K' b) (hb : ∀ b, K b → b < w.heap.size → w'.heap[b]? = w.heap[b]?) : RopeV K' w' v xs := by
  obtain ⟨p, rfl, h⟩ := h
  exact ⟨p, rfl, h.keep (fun b h _ => hK b h) hb⟩
theorem RopeV.below (h : RopeV K w v xs) (hb : Below w.heap.size w w') : RopeV K w' v xs := h.keep (fun _ h => h) fun b _ hlt => hb.block b hlt
theorem RopeV.mono (h : RopeV K w v xs) (hK : ∀ b, K b → K' b) : RopeV K' w v xs := h.keep hK fun _ _ _ => rfl
theorem RopeV.bound (h : RopeV K w v xs) : RopeV (fun b => K b ∧ b < w.heap.size) w v xs := by
  obtain ⟨p, rfl, h⟩ := h
  exact ⟨p, rfl, h.bound⟩
theorem RopeV.far (h : RopeV K w v xs) (g i : Nat) (u : Value) (hg : ¬ K g) : RopeV K (w.setCell ⟨g, i, none⟩ u) v xs := by
  obtain ⟨p, rfl, h⟩ := h
  exact ⟨p, rfl, tree_far h g i u hg⟩
end
theorem slv_far {K : Nat → Prop} {w : World} {v : Value} {xs : List Value} (h : SlV K w v xs) (g : Nat) (i : Nat) (u : Value) (hg : ¬ K g) : SlV K (w.setCell ⟨g, i, none⟩ u) v xs :=
  h.keep fun b hb _ => Below.heap_setCell w ⟨g, i, none⟩ u b (fun e => hg (by have e' : b = g := e; rw [← e']; exact hb))

/-- all things, in memory of the call's own -/
theorem list_o (K : Nat → Prop) (p : Option Addr) (xs : List Int) (w : World) (h : Tree K w p xs) (hl : xs.length ≤ 1000000) :
    Calls Try.prog 12 #[rope p] w (Ret (fun u w' => Own w.heap.size w' u xs) w) := by
  refine (callsIn_wide.1 (list_f (fun b => K b ∧ b < w.heap.size) p xs w h.bound (fun b h => h.2) hl 3 (by omega))).mono ?_
  rintro e w' ⟨v, rfl, hr, hb⟩
  exact ⟨v, rfl, hr, hb⟩

/-- the depth lies within the document's bounds -/
def DepOk (n D : Nat) : Prop := (D = 0 ∧ n = 0) ∨ ∃ d, D = d + 1 ∧ d ≤ 6 ∧ 1 ≤ n ∧ n ≤ 16 ^ (d + 1) ∧ (d = 0 ∨ 8 ^ d * 2 ≤ n)

theorem depth_o (K : Nat → Prop) (p : Option Addr) (xs : List Int) (w : World) (h : Tree K w p xs) (hl : xs.length ≤ 1000000) :
    Calls Try.prog 17 #[rope p] w (Ret (fun v _ => ∃ D : Nat, v = .int .i64 (D : Int) ∧ DepOk xs.length D) w) := by
  refine (depth_c K p xs w h hl).mono ?_
  rintro e w' ⟨v, rfl, ⟨n, rfl, hn, hd⟩, hb⟩
  refine ⟨_, rfl, ⟨n, rfl, ?_⟩, hb⟩
  rcases hd with ⟨h0, rfl⟩ | ⟨d, c, rfl, hr, ht1, ht2, ht3⟩
  · exact Or.inl ⟨h0, rfl⟩
  · have hd6 := hr.deep ⟨ht1, ht2, ht3⟩ hl
    obtain ⟨l1, l2⟩ := hr.len
    have p8 : 1 ≤ 8 ^ d := Nat.pow_pos (by decide)
    have h3 : 8 ^ d * 1 ≤ 8 ^ d * c := Nat.mul_le_mul_left _ ht1
    have h4 : 16 ^ d * c ≤ 16 ^ d * 16 := Nat.mul_le_mul_left _ ht2
    refine Or.inr ⟨d, rfl, hd6, by omega, by rw [Nat.pow_succ]; omega, ?_⟩
    rcases ht3 with h | h
    · exact Or.inl h
    · have h5 : 8 ^ d * 2 ≤ 8 ^ d * c := Nat.mul_le_mul_left _ h
      exact Or.inr (by omega)

theorem dep_17 {D : Nat} (h : DepOk 17 D) : D = 2 := by
  rcases h with ⟨_, h⟩ | ⟨d, rfl, h6, h1, h2, h3⟩
  · omega
  · have h7 : d = 0 ∨ d = 1 ∨ 2 ≤ d := by omega
    rcases h7 with rfl | rfl | h7
    · simp at h2
    · rfl
    · have h4 : 8 ^ 2 ≤ 8 ^ d := Nat.pow_le_pow_right (by omega) h7
      omega

theorem runL_17 : (runL 0 17).length = 17 := runL_length _ _
theorem cut_5 : cutL (runL 0 5) (-2) 9 = [3, 4] := by decide +kernel

theorem slice_o (K : Nat → Prop) (p : Option Addr) (xs : List Int) (lo hi : Int) (w : World) (h : Tree K w p xs) (h1 : Wf lo) (h2 : Wf hi) (hl : xs.length ≤ 1000000) :
    Calls Try.prog 22 #[rope p, .int .i64 lo, .int .i64 hi] w (Ret (fun v w' => RopeV (New K w) w' v (cutL xs lo hi)) w) :=
  slice_c K p xs lo hi _ _ w h (ncut_f lo hi _ h1 h2 (by omega) (by omega)) hl

/-- a leaf's depth -/
theorem depth_leaf (K : Nat → Prop) (p : Option Addr) (c : Nat) (xs : List Int) (w : World) (h : RRep K w 0 p c xs) :
    Calls Try.prog 17 #[rope p] w (Ret (fun v _ => v = .int .i64 1) w) := by
  obtain ⟨g, a0, b0, rfl, -, hg⟩ := h.head
  have hlt := blk_lt hg
  have dn : w.cell? ⟨g, 1, none⟩ = some (.int .i64 1) := blk_cell hg 1
  have dn' : (w.alloc (.cells #[.pointer (some ⟨g, 0, none⟩)] RT)).cell? ⟨g, 1, none⟩ = some (.int .i64 1) := cell_below dn ((Below.refl _ _).alloc (Nat.le_refl _) _)
  clear h hg
  go_enter Try.func17, Try.ntmps17
  go_wp2
  go_returns
  exact ⟨_, rfl, rfl, by go_grown⟩

theorem get_0 (K : Nat → Prop) (p : Option Addr) (xs : List Int) (x : Int) (w : World) (h : Tree K w p xs) (hx : xs[0]? = some x) (hl : xs.length ≤ 1000000) :
    Calls Try.prog 18 #[rope p, .int .i64 0] w (Ret (fun v _ => v = .tuple #[.int .i64 x, .bool true]) w) := get_in K p xs 0 x w h hx hl

set_option maxHeartbeats 4000000 in
theorem live_c (w : World) : Calls Try.prog 8 #[] w (Ret (fun v _ => v = .bool true) w) := by
  have hc := cut_5
  have HC := Lib.hid hc; clear hc
  have HW1 := Lib.hid (show Wf (-2) from by unfold Wf; omega)
  have HW2 := Lib.hid (show Wf 9 from by unfold Wf; omega)
  go_enter Try.func8, Try.ntmps8
  go_wp2_with (first
    | (go_at_call 10; ((with_reducible refine (run_c 0 17 ?_ _).mono ?_); (omega); rintro e w1 ⟨v, rfl, hO, hb1⟩; have hB1 : Below w.heap.size w w1 := below_trans (by go_grown) hb1; obtain ⟨A, n, c, rfl⟩ := hO.slv.form; have HO1 := Lib.hid hO.slv; clear hO hb1))
    | (go_at_call 9; ((with_reducible refine (of_c _ _ _ _ HO1.out ?_).mono ?_); (rw [runL_length]; decide); rintro e w2 ⟨v, rfl, ⟨p2, rfl, hT⟩, hb2⟩; have hB2 : Below w.heap.size w w2 := below_trans hB1 hb2; have HT2 := Lib.hid hT; clear hT HO1 hb2 hB1))
    | (go_at_call 10; ((with_reducible refine (run_c 0 5 ?_ _).mono ?_); (omega); rintro e w3 ⟨v, rfl, hO, hb3⟩; have hB3 : Below w.heap.size w w3 := below_trans (hB2.alloc hB2.size _) hb3; obtain ⟨A, n, c, rfl⟩ := hO.slv.form; have HO3 := Lib.hid hO.slv; have HT3 := Lib.hid ((HT2.out.below ((Below.refl _ _).alloc (Nat.le_refl _) _)).below hb3); have HX3 := Lib.hid (blk_below (blk_new w2 _) hb3); clear hO hb3 HT2))
    | (go_at_call 9; ((with_reducible refine (of_c _ _ _ _ HO3.out ?_).mono ?_); (rw [runL_length]; decide); rintro e w4 ⟨v, rfl, ⟨p4, rfl, hT⟩, hb4⟩; have hB4 : Below w.heap.size w w4 := below_trans hB3 hb4; have HT4 := Lib.hid hT; have HX4 := Lib.hid (blk_below HX3.out hb4); have HU4 := Lib.hid (HT3.out.below hb4); clear hT HO3 hb4 hB3 HT3 HX3))
    | (go_at_call 22; ((with_reducible refine (slice_o _ _ _ (-2) 9 _ HT4.out HW1.out HW2.out ?_).mono ?_); (rw [runL_length]; decide); rintro e w5 ⟨v, rfl, ⟨p5, rfl, hT⟩, hb5⟩; have hB5 : Below w.heap.size w w5 := below_trans hB4 hb5; have HT5 := Lib.hid (show Tree _ w5 p5 [3, 4] by rw [← HC.out]; exact hT); have HX5 := Lib.hid (blk_below HX4.out hb5); have HU5 := Lib.hid (HU4.out.below hb5); clear hT hb5 hB4 HT4 HX4 HU4))
    | (go_at_call 18; ((with_reducible refine (get_0 _ _ _ 3 _ (HT5.out.below ((Below.refl _ _).alloc (Nat.le_refl _) _)) rfl ?_).mono ?_); (decide); rintro e w6 ⟨v, rfl, rfl, hb6⟩; have hB6 : Below w.heap.size w w6 := below_trans (hB5.alloc hB5.size _) hb6; have hb56 := below_trans ((Below.refl w5.heap.size w5).alloc (Nat.le_refl _) (.cells #[.pointer p5] RT)) hb6; have HT6 := Lib.hid (HT5.out.below hb56); have HX6 := Lib.hid (blk_below HX5.out hb56); have HU6 := Lib.hid (HU5.out.below hb56); have HY6 := Lib.hid (blk_below (blk_new w5 _) hb6); obtain ⟨kx, fx⟩ := box1 HX6.out; obtain ⟨ky, fy⟩ := box1 HY6.out; clear hb6 hb56 hB5 HT5 HX5 HU5))
    | (go_at_call 17; ((with_reducible refine (depth_o _ _ _ _ HU6.out ?_).mono ?_); (rw [runL_length]; decide); rintro e w7 ⟨v, rfl, ⟨D, rfl, hD⟩, hb7⟩; obtain rfl := dep_17 (by rw [runL_length] at hD; exact hD); have hB7 : Below w.heap.size w w7 := below_trans hB6 hb7; have HT7 := Lib.hid (HT6.out.below hb7); have HX7 := Lib.hid (blk_below HX6.out hb7); have HU7 := Lib.hid (HU6.out.below hb7); have HY7 := Lib.hid (blk_below HY6.out hb7); clear kx fx ky fy; obtain ⟨kx, fx⟩ := box1 HX7.out; obtain ⟨ky, fy⟩ := box1 HY7.out; clear hb7 hB6 HT6 HX6 HU6 HY6 hD))
    | (go_at_call 21; ((with_reducible refine (len_c _ _ _ _ HU7.out).mono ?_); rintro e w8 ⟨v, rfl, rfl, hb8⟩; rw [runL_length]; have hB8 : Below w.heap.size w w8 := below_trans hB7 hb8; have HT8 := Lib.hid (HT7.out.below hb8); have HY8 := Lib.hid (blk_below HY7.out hb8); clear kx fx ky fy; obtain ⟨ky, fy⟩ := box1 HY8.out; clear hb8 hB7 HT7 HX7 HU7 HY7))
    | (go_at_call 10; ((with_reducible refine (run_c 0 16 ?_ _).mono ?_); (omega); rintro e w9 ⟨v, rfl, hO, hb9⟩; have hB9 : Below w.heap.size w w9 := below_trans hB8 hb9; obtain ⟨A, n, c, rfl⟩ := hO.slv.form; have HO9 := Lib.hid hO.slv; have HT9 := Lib.hid (HT8.out.below hb9); have HY9 := Lib.hid (blk_below HY8.out hb9); clear ky fy; obtain ⟨ky, fy⟩ := box1 HY9.out; clear hO hb9 hB8 HT8 HY8))
    | (go_at_call 9; ((with_reducible refine (of_16 _ _ _ _ HO9.out ?_).mono ?_); (rw [runL_length]; rfl); rintro e w10 ⟨v, rfl, ⟨p10, rfl, hR⟩, hb10⟩; have hB10 : Below w.heap.size w w10 := below_trans hB9 hb10; have HR10 := Lib.hid hR; have HT10 := Lib.hid (HT9.out.below hb10); have HY10 := Lib.hid (blk_below HY9.out hb10); clear ky fy; obtain ⟨ky, fy⟩ := box1 HY10.out; clear hR hb10 hB9 HT9 HY9 HO9))
    | (go_at_call 17; ((with_reducible refine (depth_leaf _ _ _ _ _ HR10.out).mono ?_); rintro e w11 ⟨v, rfl, rfl, hb11⟩; have hB11 : Below w.heap.size w w11 := below_trans hB10 hb11; have HT11 := Lib.hid (HT10.out.below hb11); have HY11 := Lib.hid (blk_below HY10.out hb11); clear ky fy; obtain ⟨ky, fy⟩ := box1 HY11.out; clear hb11 hB10 HT10 HR10 HY10))
    | (go_at_call 21; ((with_reducible refine (len_c _ _ _ _ HT11.out).mono ?_); rintro e w12 ⟨v, rfl, rfl, hb12⟩; have hB12 : Below w.heap.size w w12 := below_trans hB11 hb12; clear ky fy HT11 HY11 hb12 hB11)))
  go_returns
  exact ⟨_, rfl, rfl, hB12⟩
end Go.Proofs.Ytcjpdjecgeenfaa.Ro
