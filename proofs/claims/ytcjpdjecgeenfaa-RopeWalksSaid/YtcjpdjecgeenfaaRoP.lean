/- A tree with another thing at a place: a list of the call's own; a leaf. -/
import Derived.Test.YtcjpdjecgeenfaaRoO
set_option linter.unusedVariables false
set_option linter.unusedSimpArgs false
namespace Go.Proofs.Ytcjpdjecgeenfaa.Ro
open Go Go.RowKit Go.Proofs.Ytcjpdjecgeenfaa.Mem Go.Proofs.YtcjpdjecgeenfaaW.PrintWords

/-- a list in a block -/
def InB (w : World) (e : TypeId) (g cap : Nat) (xs : List Value) : Prop :=
  ∃ cur : Array Value, w.heap[g]? = some (.cells cur e (0, 0)) ∧ xs.length ≤ cap ∧ cap ≤ maxLen ∧ cur.size = cap ∧ cur.toList.take xs.length = xs ∧ ∀ u ∈ xs, u.oneCell' = true

theorem OwnR.blk {e : TypeId} {base : Nat} {w : World} {v : Value} {xs : List Value} (h : OwnR e base w v xs) (h1 : 0 < xs.length) : ∃ g cap, v = .slice (some ⟨g, 0, none⟩) xs.length cap ∧ base ≤ g ∧ InB w e g cap xs := by
  obtain ⟨⟨-, h2⟩, h3⟩ := h
  rcases h2 with ⟨_, h0⟩ | ⟨g, cap, cur, rfl, hb, hg, hn, hm, hs, ht⟩
  · omega
  · exact ⟨g, cap, rfl, hb, cur, hg, hn, hm, by rw [hs, Nat.mul_one], by rw [Nat.mul_one] at ht; exact ht, h3⟩

section
variable {w w' : World} {e : TypeId} {g cap : Nat} {xs : List Value}
theorem InB.keep (h : InB w e g cap xs) (hb : g < w.heap.size → w'.heap[g]? = w.heap[g]?) : InB w' e g cap xs := by
  obtain ⟨cur, hg, h⟩ := h
  exact ⟨cur, (hb (blk_lt hg)).trans hg, h⟩
theorem InB.below (h : InB w e g cap xs) (hb : Below w.heap.size w w') : InB w' e g cap xs := h.keep fun hlt => hb.block _ hlt
theorem InB.lt (h : InB w e g cap xs) : g < w.heap.size := by obtain ⟨cur, hg, _⟩ := h; exact blk_lt hg
theorem InB.frozen (h : InB w e g cap xs) (j : Nat) : w.frozen? ⟨g, j, none⟩ = false := by obtain ⟨cur, hg, _⟩ := h; exact blk_frozen hg j
theorem InB.cell (h : InB w e g cap xs) {j : Nat} {u : Value} (hu : xs[j]? = some u) : w.cell? ⟨g, j, none⟩ = some u := by
  obtain ⟨cur, hg, h1, h2, h3, h4, h5⟩ := h
  rw [blk_cell hg]
  have hj := (List.getElem?_eq_some_iff.1 hu).1
  rw [← h4, List.getElem?_take_of_lt hj] at hu
  simpa using hu
theorem InB.slv (h : InB w e g cap xs) {K : Nat → Prop} (hK : K g) : SlV K w (.slice (some ⟨g, 0, none⟩) xs.length cap) xs := by
  obtain ⟨cur, hg, h1, h2, h3, h4, h5⟩ := h
  refine SlV.blk hg (fun j u hu => ?_) h1 h2 h5 hK
  have hj := (List.getElem?_eq_some_iff.1 hu).1
  rw [← h4, List.getElem?_take_of_lt hj] at hu
  simpa using hu
theorem InB.set (h : InB w e g cap xs) (j : Nat) (u : Value) (hu : u.oneCell' = true) : InB (w.setCell ⟨g, j, none⟩ u) e g cap (xs.set j u) := by
  obtain ⟨cur, hg, h1, h2, h3, h4, h5⟩ := h
  refine ⟨_, blk_put hg j u rfl, by simpa using h1, h2, by simpa using h3, ?_, fun x hx => ?_⟩
  · rw [List.length_set, Array.toList_setIfInBounds, List.take_set, h4]
  · rcases List.mem_or_eq_of_mem_set hx with h | rfl
    · exact h5 x h
    · exact hu
end
end Go.Proofs.Ytcjpdjecgeenfaa.Ro
