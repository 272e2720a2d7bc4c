/- A piece of a rope. -/
import Derived.Test.YtcjpdjecgeenfaaRoN
import Derived.Test.YtcjpdjecgeenfaaPRopeDoesx1
set_option linter.unusedVariables false
set_option linter.unusedSimpArgs false
namespace Go.Proofs.Ytcjpdjecgeenfaa.Ro
open Go Go.RowKit Go.Proofs.Ytcjpdjecgeenfaa.Mem Go.Proofs.YtcjpdjecgeenfaaW.PrintWords

set_option maxHeartbeats 4000000 in
/-- A PIECE OF A ROPE. -/
theorem slice_c (K : Nat → Prop) (p : Option Addr) (xs : List Int) (lo hi a b : Int) (w : World) (h : Tree K w p xs) (hc : Go.Proofs.Ytcjpdjecgeenfaa.PRopeDoes.num_Cut.f lo hi (xs.length : Int) = some (a, b)) (hl : xs.length ≤ 1000000) :
    Calls Try.prog 22 #[rope p, .int .i64 lo, .int .i64 hi] w (Ret (fun v w' => RopeV (New K w) w' v ((xs.take b.toNat).drop a.toNat)) w) := by
  have HL := Lib.hid (fun W (hw : Below w.heap.size w W) => len_c K p xs W (h.below hw))
  have HC := Lib.hid (fun W => Go.Proofs.Ytcjpdjecgeenfaa.PRopeDoes.num_Cut.calls lo hi (xs.length : Int) a b W hc)
  have HS := Lib.hid (fun W (hw : Below w.heap.size w W) (hn : w.heap.size + 2 ≤ W.heap.size) => split_off K w 2 p xs b W hn ((h.bound.below hw).mono fun b h => Or.inl h) hl)
  have HE1 := Lib.hid (show (xs.take b.toNat).length ≤ 1000000 by rw [List.length_take]; omega)
  clear h hc hl
  go_enter Try.func22, Try.ntmps22
  go_wp2_with (first
    | (go_at_call 21; ((with_reducible refine (HL.out _ (by go_grown)).mono ?_); rintro e w1 ⟨v, rfl, rfl, hb1⟩; have B0 : w1.heap[w.heap.size]? = some (.cells #[.pointer p] RT (0, 0)) := (hb1.block _ (by simp; omega)).trans (blk_alloc (blk_new w _) _); have B : w1.heap[w.heap.size + 1]? = some (.cells #[.pointer none] RT (0, 0)) := (hb1.block _ (by simp)).trans (heap_k1 w _ _); have HB0 := Lib.hid B0; have HB := Lib.hid B; clear B B0; have hB1 : Below w.heap.size w w1 := below_trans (by go_grown) hb1; have hn1 : w.heap.size + 2 ≤ w1.heap.size := by have := hb1.size; simpa using this))
    | (go_at_call 34; ((with_reducible refine (HC.out _).mono ?_); rintro e w2 ⟨rfl, hb2⟩; have hB2 : Below w.heap.size w w2 := below_trans hB1 hb2; have hn2 : w.heap.size + 2 ≤ w2.heap.size := Nat.le_trans hn1 hb2.size; have HB2 := Lib.hid (blk_below HB.out hb2); obtain ⟨bc0, bf0⟩ := box1 (blk_below HB0.out hb2)))
    | (go_at_call 35; ((with_reducible refine (HS.out _ hB2 hn2).mono ?_); rintro e w3 ⟨v, rfl, ⟨ta, tb, rfl, hta, htb⟩, hb3⟩; have HTa := Lib.hid hta; clear hta htb; have hB3 : Below w.heap.size w w3 := below_trans hB2 hb3; have hn3 : w.heap.size + 2 ≤ w3.heap.size := Nat.le_trans hn2 hb3.size; have HB3 := Lib.hid (blk_below HB2.out hb3)))
    | (go_at_call 35; ((with_reducible refine (split_off K w 2 _ _ a _ hn3 HTa.out HE1.out).mono ?_); rintro e w4 ⟨v, rfl, ⟨tc, td, rfl, htc, htd⟩, hb4⟩; have HTr := Lib.hid htd; clear htc htd; have HB5 := Lib.hid (blk_below HB3.out hb4); obtain ⟨bc5, bf5⟩ := box1 HB5.out; have hB5 := below_trans hB3 hb4)))
  refine bodyPost_ret (results_c1 rfl _ _ (w.heap.size + 1) RT #[.pointer td] (0, 0) _ rfl (blk_put HB5.out 0 _ rfl) Try.underlying25 rfl (by kernel_rfl)) rfl ?_
  refine ⟨_, rfl, ⟨td, rfl, ?_⟩, by go_grown⟩
  exact (tree_far HTr.out (w.heap.size + 1) 0 (.pointer td) (by rintro (h | h) <;> omega)).mono off_new
end Go.Proofs.Ytcjpdjecgeenfaa.Ro
