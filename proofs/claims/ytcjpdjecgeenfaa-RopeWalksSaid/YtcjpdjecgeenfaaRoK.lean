/- A tree cut at whatever place. -/
import Derived.Test.YtcjpdjecgeenfaaRoJ
set_option linter.unusedVariables false
set_option linter.unusedSimpArgs false
namespace Go.Proofs.Ytcjpdjecgeenfaa.Ro
open Go Go.RowKit Go.Proofs.Ytcjpdjecgeenfaa.Mem Go.Proofs.YtcjpdjecgeenfaaW.PrintWords

theorem split_node (K : Nat → Prop) : ∀ (d : Nat), d ≤ 80 → ∀ (p : Option Addr) (c : Nat) (xs : List Int) (i : Int) (w : World), RRep K w d p c xs → Top d c → xs.length ≤ 1000000 →
      Calls Try.prog 35 #[.pointer p, .int .i64 i] w (Ret (CutP (New K w) xs i.toNat) w)
  | d, hd, p, c, xs, i, w, h, ht, hl => by
    by_cases h0 : i ≤ 0 ∨ (xs.length : Int) ≤ i
    · exact split_edge K p xs i w (Or.inr ⟨d, c, h, ht⟩) (Or.inr h0)
    · obtain ⟨m, rfl⟩ : ∃ m : Nat, i = (m : Int) := ⟨i.toNat, by omega⟩
      rw [Int.toNat_natCast]
      have hm0 : 0 < m := by omega
      have hm : m < xs.length := by omega
      match d, hd, h with
      | 0, _, h => exact split_leaf K p c xs m w h ht.2.1 hm0 hm
      | d + 1, hd, h => exact split_inner K d (by omega) (split_node K d (by omega)) p c xs m w h ht.2.1 hm0 hm hl

/-- A TREE'S FIRST i THINGS, AND THE OTHERS. -/
theorem split_c (K : Nat → Prop) (p : Option Addr) (xs : List Int) (i : Int) (w : World) (h : Tree K w p xs) (hl : xs.length ≤ 1000000) :
    Calls Try.prog 35 #[.pointer p, .int .i64 i] w (Ret (CutP (New K w) xs i.toNat) w) := by
  rcases h with ⟨rfl, rfl⟩ | ⟨d, c, h, ht⟩
  · exact split_edge K none [] i w (Or.inl ⟨rfl, rfl⟩) (Or.inl rfl)
  · exact split_node K d (by have := h.deep ht hl; omega) p c xs i w h ht hl
end Go.Proofs.Ytcjpdjecgeenfaa.Ro
