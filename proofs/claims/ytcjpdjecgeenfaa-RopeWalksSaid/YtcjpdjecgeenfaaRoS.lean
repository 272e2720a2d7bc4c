/- A rope with another thing at a place. -/
import Derived.Test.YtcjpdjecgeenfaaRoR
set_option linter.unusedVariables false
set_option linter.unusedSimpArgs false
namespace Go.Proofs.Ytcjpdjecgeenfaa.Ro
open Go Go.RowKit Go.Proofs.Ytcjpdjecgeenfaa.Mem Go.Proofs.YtcjpdjecgeenfaaW.PrintWords

theorem set_node (x : Int) : ∀ (d : Nat), d ≤ 80 → ∀ (K : Nat → Prop) (p : Option Addr) (c : Nat) (xs : List Int) (m : Nat) (w : World), RRep K w d p c xs → c ≤ 16 → m < xs.length → xs.length ≤ 1000000 →
      Calls Try.prog 50 #[.pointer p, .int .i64 (m : Int), .int .i64 x] w (Ret (fun v w' => ∃ r, v = .pointer r ∧ RRep (New K w) w' d r c (xs.set m x)) w)
  | 0, _, K, p, c, xs, m, w, h, hc, hm, hl => set_leaf K p c xs m x w h hm hl
  | d + 1, hd, K, p, c, xs, m, w, h, hc, hm, hl => set_inner K d (by omega) x (set_node x d (by omega)) p c xs m w h hc hm hl

/-- A TREE WITH ANOTHER THING AT A PLACE. -/
theorem set_c (K : Nat → Prop) (p : Option Addr) (xs : List Int) (m : Nat) (x : Int) (w : World) (h : Tree K w p xs) (hm : m < xs.length) (hl : xs.length ≤ 1000000) :
    Calls Try.prog 50 #[.pointer p, .int .i64 (m : Int), .int .i64 x] w (Ret (fun v w' => ∃ r, v = .pointer r ∧ Tree (New K w) w' r (xs.set m x)) w) := by
  rcases h with ⟨rfl, rfl⟩ | ⟨d, c, h, ht⟩
  · simp at hm
  · refine (set_node x d (by have := h.deep ht hl; omega) K p c xs m w h ht.2.1 hm hl).mono ?_
    rintro e w' ⟨v, rfl, ⟨r, rfl, hr⟩, hb⟩
    exact ⟨_, rfl, ⟨r, rfl, Or.inr ⟨d, c, hr, ht⟩⟩, hb⟩

set_option maxHeartbeats 2000000 in
theorem setr_out (K : Nat → Prop) (p : Option Addr) (xs : List Int) (i x : Int) (w : World) (h : Tree K w p xs) (hi : i < 0 ∨ (xs.length : Int) ≤ i) :
    Calls Try.prog 41 #[rope p, .int .i64 i, .int .i64 x] w (Ret (fun v _ => v = .tuple #[rope none, .int .i64 4]) w) := by
  have HH := Lib.hid (fun W (hw : Below w.heap.size w W) => has_no K p xs i W (h.below hw) hi)
  clear h
  go_enter Try.func41, Try.ntmps41
  go_wp2_with (go_at_call 33; ((with_reducible refine (HH.out _ (by go_grown)).mono ?_); rintro e w1 ⟨v, rfl, rfl, hb1⟩; have B : w1.heap[w.heap.size + 1]? = some (.cells #[.pointer none] RT (0, 0)) := (hb1.block _ (by simp)).trans (heap_k1 w _ _); obtain ⟨bc, bf⟩ := box1 B; have HB := Lib.hid B; clear B; have hB1 : Below w.heap.size w w1 := below_trans (by go_grown) hb1))
  refine bodyPost_ret (results_rt2 rfl _ _ (w.heap.size + 1) none _ rfl (blk_put HB.out 0 _ rfl) rfl) rfl ?_
  exact ⟨_, rfl, rfl, by go_grown⟩

set_option maxHeartbeats 4000000 in
/-- A ROPE WITH ANOTHER THING AT A PLACE. -/
theorem setr_in (K : Nat → Prop) (p : Option Addr) (xs : List Int) (m : Nat) (x : Int) (w : World) (h : Tree K w p xs) (hm : m < xs.length) (hl : xs.length ≤ 1000000) :
    Calls Try.prog 41 #[rope p, .int .i64 (m : Int), .int .i64 x] w (Ret (fun v w' => ∃ u, v = .tuple #[u, .int .i64 0] ∧ RopeV (New K w) w' u (xs.set m x)) w) := by
  have HH := Lib.hid (fun W (hw : Below w.heap.size w W) => has_yes K p xs (m : Int) W (h.below hw) (by omega) (by omega))
  have HS := Lib.hid (fun W (hw : Below w.heap.size w W) => set_c (fun b => K b ∧ b < w.heap.size) p xs m x W (h.bound.below hw) hm hl)
  clear h
  go_enter Try.func41, Try.ntmps41
  go_wp2_with (first
    | (go_at_call 33; ((with_reducible refine (HH.out _ (by go_grown)).mono ?_); rintro e w1 ⟨v, rfl, rfl, hb1⟩; have B0 : w1.heap[w.heap.size]? = some (.cells #[.pointer p] RT (0, 0)) := (hb1.block _ (by simp; omega)).trans (blk_alloc (blk_new w _) _); have B : w1.heap[w.heap.size + 1]? = some (.cells #[.pointer none] RT (0, 0)) := (hb1.block _ (by simp)).trans (heap_k1 w _ _); obtain ⟨bc0, bf0⟩ := box1 B0; have HB := Lib.hid B; clear B B0; have hB1 : Below w.heap.size w w1 := below_trans (by go_grown) hb1; have hn1 : w.heap.size + 2 ≤ w1.heap.size := by have := hb1.size; simpa using this))
    | (go_at_call 50; ((with_reducible refine (HS.out _ hB1).mono ?_); rintro e w5 ⟨v, rfl, ⟨tr, rfl, htr⟩, hb5⟩; have HTr := Lib.hid (htr.mono (K' := Off K w 2) fun b h => h.elim Or.inl fun h => Or.inr (Nat.le_trans hn1 h)); clear htr; have HB5 := Lib.hid (blk_below HB.out hb5); obtain ⟨bc5, bf5⟩ := box1 HB5.out; have hB5 := below_trans hB1 hb5)))
  refine bodyPost_ret (results_rt2 rfl _ _ (w.heap.size + 1) tr _ rfl (blk_put HB5.out 0 _ rfl) rfl) rfl ?_
  refine ⟨_, rfl, ⟨_, rfl, tr, rfl, ?_⟩, by go_grown⟩
  exact (tree_far HTr.out (w.heap.size + 1) 0 (.pointer tr) (by rintro (h | h) <;> omega)).mono off_new
end Go.Proofs.Ytcjpdjecgeenfaa.Ro
