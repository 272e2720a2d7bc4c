/- A rope with a thing less. -/
import Derived.Test.YtcjpdjecgeenfaaRoM
set_option linter.unusedVariables false
set_option linter.unusedSimpArgs false
namespace Go.Proofs.Ytcjpdjecgeenfaa.Ro
open Go Go.RowKit Go.Proofs.Ytcjpdjecgeenfaa.Mem Go.Proofs.YtcjpdjecgeenfaaW.PrintWords

set_option maxHeartbeats 2000000 in
theorem has_no (K : Nat → Prop) (p : Option Addr) (xs : List Int) (i : Int) (w : World) (h : Tree K w p xs) (hi : i < 0 ∨ (xs.length : Int) ≤ i) :
    Calls Try.prog 33 #[rope p, .int .i64 i] w (Ret (fun v _ => v = .bool false) w) := by
  have HL := Lib.hid (fun W (hw : Below w.heap.size w W) => len_c K p xs W (h.below hw))
  clear h
  rcases (by omega : i < 0 ∨ 0 ≤ i) with h1 | h1
  · have h2 : (decide (0 ≤ i)) = false := by simp; omega
    go_enter Try.func33, Try.ntmps33
    go_wp2
    go_returns
    exact ⟨_, rfl, rfl, by go_grown⟩
  · have h3 : (decide (i < (xs.length : Int))) = false := by simp; omega
    have h2 : ¬ i < (xs.length : Int) := by omega
    go_enter Try.func33, Try.ntmps33
    go_wp2_with (go_at_call 21; ((with_reducible refine (HL.out _ (by go_grown)).mono ?_); rintro e w1 ⟨v, rfl, rfl, hb1⟩; have hB1 : Below w.heap.size w w1 := below_trans (by go_grown) hb1))
    go_returns
    exact ⟨_, rfl, rfl, hB1⟩

set_option maxHeartbeats 2000000 in
theorem has_yes (K : Nat → Prop) (p : Option Addr) (xs : List Int) (i : Int) (w : World) (h : Tree K w p xs) (h0 : 0 ≤ i) (hi : i < (xs.length : Int)) :
    Calls Try.prog 33 #[rope p, .int .i64 i] w (Ret (fun v _ => v = .bool true) w) := by
  have HL := Lib.hid (fun W (hw : Below w.heap.size w W) => len_c K p xs W (h.below hw))
  clear h
  go_enter Try.func33, Try.ntmps33
  go_wp2_with (go_at_call 21; ((with_reducible refine (HL.out _ (by go_grown)).mono ?_); rintro e w1 ⟨v, rfl, rfl, hb1⟩; have hB1 : Below w.heap.size w w1 := below_trans (by go_grown) hb1))
  go_returns
  exact ⟨_, rfl, rfl, hB1⟩

set_option maxHeartbeats 2000000 in
theorem remove_out (K : Nat → Prop) (p : Option Addr) (xs : List Int) (i : Int) (w : World) (h : Tree K w p xs) (hi : i < 0 ∨ (xs.length : Int) ≤ i) :
    Calls Try.prog 25 #[rope p, .int .i64 i] w (Ret (fun v _ => v = .tuple #[rope none, .int .i64 4]) w) := by
  have HH := Lib.hid (fun W (hw : Below w.heap.size w W) => has_no K p xs i W (h.below hw) hi)
  clear h
  go_enter Try.func25, Try.ntmps25
  go_wp2_with (go_at_call 33; ((with_reducible refine (HH.out _ (by go_grown)).mono ?_); rintro e w1 ⟨v, rfl, rfl, hb1⟩; have B : w1.heap[w.heap.size + 1]? = some (.cells #[.pointer none] RT (0, 0)) := (hb1.block _ (by simp)).trans (heap_k1 w _ _); obtain ⟨bc, bf⟩ := box1 B; have HB := Lib.hid B; clear B; have hB1 : Below w.heap.size w w1 := below_trans (by go_grown) hb1))
  refine bodyPost_ret (results_rt2 rfl _ _ (w.heap.size + 1) none _ rfl (blk_put HB.out 0 _ rfl) rfl) rfl ?_
  exact ⟨_, rfl, rfl, by go_grown⟩

set_option maxHeartbeats 4000000 in
/-- A ROPE WITH A THING LESS. -/
theorem remove_in (K : Nat → Prop) (p : Option Addr) (xs : List Int) (i : Int) (w : World) (h : Tree K w p xs) (h0 : 0 ≤ i) (hi : i < (xs.length : Int)) (hl : xs.length ≤ 1000000) :
    Calls Try.prog 25 #[rope p, .int .i64 i] w (Ret (fun v w' => ∃ u, v = .tuple #[u, .int .i64 0] ∧ RopeV (New K w) w' u (xs.take i.toNat ++ (xs.drop i.toNat).drop 1)) w) := by
  have HH := Lib.hid (fun W (hw : Below w.heap.size w W) => has_yes K p xs i W (h.below hw) h0 hi)
  have HS := Lib.hid (fun W (hw : Below w.heap.size w W) (hn : w.heap.size + 2 ≤ W.heap.size) => split_off K w 2 p xs i W hn ((h.bound.below hw).mono fun b h => Or.inl h) hl)
  clear h
  have HE1 := Lib.hid (show (xs.drop i.toNat).length ≤ 1000000 by rw [List.length_drop]; omega)
  have HE2 := Lib.hid (show (xs.take i.toNat ++ (xs.drop i.toNat).drop (1 : Int).toNat).length ≤ 1000000 by rw [List.length_append, List.length_take, List.length_drop, List.length_drop]; omega)
  clear hl
  go_enter Try.func25, Try.ntmps25
  go_wp2_with (first
    | (go_at_call 33; ((with_reducible refine (HH.out _ (by go_grown)).mono ?_); rintro e w1 ⟨v, rfl, rfl, hb1⟩; have B0 : w1.heap[w.heap.size]? = some (.cells #[.pointer p] RT (0, 0)) := (hb1.block _ (by simp; omega)).trans (blk_alloc (blk_new w _) _); have B : w1.heap[w.heap.size + 1]? = some (.cells #[.pointer none] RT (0, 0)) := (hb1.block _ (by simp)).trans (heap_k1 w _ _); obtain ⟨bc0, bf0⟩ := box1 B0; have HB := Lib.hid B; clear B B0; have hB1 : Below w.heap.size w w1 := below_trans (by go_grown) hb1; have hn1 : w.heap.size + 2 ≤ w1.heap.size := by have := hb1.size; simpa using this))
    | (go_at_call 35; ((with_reducible refine (HS.out _ hB1 hn1).mono ?_); rintro e w2 ⟨v, rfl, ⟨ta, tb, rfl, hta, htb⟩, hb2⟩; have HTa := Lib.hid hta; have HTb := Lib.hid htb; clear hta htb; have hB2 : Below w.heap.size w w2 := below_trans hB1 hb2; have hn2 : w.heap.size + 2 ≤ w2.heap.size := Nat.le_trans hn1 hb2.size; have HB2 := Lib.hid (blk_below HB.out hb2)))
    | (go_at_call 35; ((with_reducible refine (split_off K w 2 _ _ 1 _ hn2 HTb.out HE1.out).mono ?_); rintro e w3 ⟨v, rfl, ⟨tc, td, rfl, htc, htd⟩, hb3⟩; have HTd := Lib.hid htd; clear htc htd; have HTa3 := Lib.hid (HTa.out.below hb3); clear HTa; have hn3 : w.heap.size + 2 ≤ w3.heap.size := Nat.le_trans hn2 hb3.size; have HB3 := Lib.hid (blk_below HB2.out hb3); have hB3 := below_trans hB2 hb3))
    | (go_at_call 26; ((with_reducible refine (join_off K w 2 _ _ _ _ _ hn3 HTa3.out HTd.out HE2.out).mono ?_); rintro e w5 ⟨v, rfl, ⟨tr, rfl, htr⟩, hb5⟩; have HTr := Lib.hid htr; clear htr; have HB5 := Lib.hid (blk_below HB3.out hb5); obtain ⟨bc5, bf5⟩ := box1 HB5.out; have hB5 := below_trans hB3 hb5)))
  refine bodyPost_ret (results_rt2 rfl _ _ (w.heap.size + 1) tr _ rfl (blk_put HB5.out 0 _ rfl) rfl) rfl ?_
  refine ⟨_, rfl, ⟨_, rfl, tr, rfl, ?_⟩, by go_grown⟩
  exact (tree_far HTr.out (w.heap.size + 1) 0 (.pointer tr) (by rintro (h | h) <;> omega)).mono off_new
end Go.Proofs.Ytcjpdjecgeenfaa.Ro
