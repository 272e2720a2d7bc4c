/- A tree with another thing at a place: a leaf. -/
import Derived.Test.YtcjpdjecgeenfaaRoP
set_option linter.unusedVariables false
set_option linter.unusedSimpArgs false
namespace Go.Proofs.Ytcjpdjecgeenfaa.Ro
open Go Go.RowKit Go.Proofs.Ytcjpdjecgeenfaa.Mem Go.Proofs.YtcjpdjecgeenfaaW.PrintWords

set_option maxHeartbeats 4000000 in
theorem set_leaf (K : Nat → Prop) (p : Option Addr) (c : Nat) (xs : List Int) (m : Nat) (x : Int) (w : World) (h : RRep K w 0 p c xs) (hm : m < xs.length) (hl : xs.length ≤ 1000000) :
    Calls Try.prog 50 #[.pointer p, .int .i64 (m : Int), .int .i64 x] w (Ret (fun v w' => ∃ r, v = .pointer r ∧ RRep (New K w) w' 0 r c (xs.set m x)) w) := by
  obtain ⟨g, s, rfl, hK, hg, hs, rfl⟩ := h
  obtain ⟨A, n, cap, rfl⟩ := hs.form
  obtain rfl : n = xs.length := by have := hs.len; simpa using this
  have hlt := blk_lt hg
  have dn : w.cell? ⟨g, 0, none⟩ = some (.int .i64 (xs.length : Int)) := blk_cell hg 0
  have dd : w.cell? ⟨g, 1, none⟩ = some (.int .i64 1) := blk_cell hg 1
  have k3 : w.cell? ⟨g, 3, none⟩ = some (.slice A xs.length cap) := blk_cell hg 3
  have HA := Lib.hid (fun W (hw : Below w.heap.size w W) => both_int' A xs.length cap (ints xs) none 0 0 [] W K (fun _ => False) (hs.below hw) (SlV.nil _ W) (by simp; omega) (by simp))
  have HP := Lib.hid (show 0 < (ints xs).length by rw [List.length_map]; omega)
  clear hs hg hK
  have hmI : (m : Int) < (xs.length : Int) := by omega
  have hm0 : (0 : Int) ≤ (m : Int) := by omega
  go_enter Try.func50, Try.ntmps50
  go_wp2_with fail
  go_region
  all_goals
    go_wp2_with (go_at_call 28; ((with_reducible refine (HA.out _ (Below.drew ((Below.refl _ _).alloc (Nat.le_refl _) _))).mono ?_); rintro e w1 ⟨v, rfl, hO, hb1⟩; rw [List.append_nil] at hO; obtain ⟨gv, cv, rfl, hgv, hI⟩ := hO.blk HP.out; have hlen : (ints xs).length = xs.length := (by simp); rw [hlen]; have B : w1.heap[w.heap.size]? = some (.cells #[.int .i64 (xs.length : Int), .int .i64 1, .slice none 0 0, .slice none 0 0] NT (0, 0)) := (hb1.block _ (by simp)).trans (by exact blk_new _ _); obtain ⟨⟨q0, q1, q2, q3⟩, f0, f1, f2, f3⟩ := box4 B; have hn1 : w.heap.size + 1 ≤ gv := (by simpa using hgv); have hne1 : gv ≠ w.heap.size := (by omega); have hne2 : w.heap.size ≠ gv := (by omega); have hfr := hI.frozen m; have hce := hI.cell (j := m) (u := .int .i64 xs[m]) (by simp [hm]); have hB1 : Below w.heap.size w w1 := below_trans (Below.drew ((Below.refl _ _).alloc (Nat.le_refl _) _)) hb1; have HI := Lib.hid hI; have HB := Lib.hid B; clear hO hI B hlen))
    go_returns
    refine ⟨_, rfl, ⟨_, rfl, w.heap.size, _, rfl, New.fresh (Nat.le_refl _), by rw [List.length_set]; exact blk_far (blk_put HB.out 3 _ rfl) hne2 _, ?_, (List.length_set).symm⟩, by go_grown⟩
    have h1 := ((HI.out.keep (w' := w1.setCell ⟨w.heap.size, 3, none⟩ (.slice (some ⟨gv, 0, none⟩) xs.length cv)) fun _ => Below.heap_setCell w1 ⟨w.heap.size, 3, none⟩ _ gv hne1).set m (.int .i64 x) rfl).slv (K := New K w) (New.fresh (by show w.heap.size ≤ gv; omega))
    rw [← List.map_set, List.length_map, List.length_set] at h1
    exact h1
end Go.Proofs.Ytcjpdjecgeenfaa.Ro
