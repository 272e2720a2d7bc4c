/- A rope: its length, its depth; two, one behind the other. -/
import Derived.Test.YtcjpdjecgeenfaaRoK
set_option linter.unusedVariables false
set_option linter.unusedSimpArgs false
namespace Go.Proofs.Ytcjpdjecgeenfaa.Ro
open Go Go.RowKit Go.Proofs.Ytcjpdjecgeenfaa.Mem Go.Proofs.YtcjpdjecgeenfaaW.PrintWords

abbrev RT : TypeId := 25
abbrev rope (p : Option Addr) : Value := .agg #[.pointer p]
/-- a value that is a rope of things -/
def RopeV (K : Nat → Prop) (w : World) (v : Value) (xs : List Int) : Prop := ∃ p, v = rope p ∧ Tree K w p xs

theorem Tree.keep {K K' : Nat → Prop} {w w' : World} {p : Option Addr} {xs : List Int} (hK : ∀ b, K b → b < w.heap.size → K' b) (hb : ∀ b, K b → b < w.heap.size → w'.heap[b]? = w.heap[b]?) (h : Tree K w p xs) : Tree K' w' p xs :=
  h.elim Or.inl fun ⟨d, c, h, ht⟩ => Or.inr ⟨d, c, h.keep hK hb, ht⟩
theorem tree_far {K : Nat → Prop} {w : World} {p : Option Addr} {xs : List Int} (h : Tree K w p xs) (g : Nat) (i : Nat) (u : Value) (hg : ¬ K g) : Tree K (w.setCell ⟨g, i, none⟩ u) p xs :=
  h.keep (fun _ h _ => h) fun b hb _ => Below.heap_setCell w ⟨g, i, none⟩ u b (fun e => hg (by have e' : b = g := e; rw [← e']; exact hb))

/-- the blocks that were K's at a call's beginning, and those that are made behind the call's own boxes -/
abbrev Off (K : Nat → Prop) (w : World) (n : Nat) : Nat → Prop := fun b => (K b ∧ b < w.heap.size) ∨ w.heap.size + n ≤ b
theorem off_new {K : Nat → Prop} {w : World} {n : Nat} (b : Nat) (h : Off K w n b) : New K w b := h.elim (fun h => New.old h.1) fun h => New.fresh (by show w.heap.size ≤ b; omega)

theorem join_off (K : Nat → Prop) (w : World) (n : Nat) (p q : Option Addr) (xs ys : List Int) (W : World) (hw : w.heap.size + n ≤ W.heap.size) (h : Tree (Off K w n) W p xs) (h' : Tree (Off K w n) W q ys) (hl : (xs ++ ys).length ≤ 1000000) :
    Calls Try.prog 26 #[.pointer p, .pointer q] W (Ret (fun v w' => ∃ r, v = .pointer r ∧ Tree (Off K w n) w' r (xs ++ ys)) W) := by
  refine (join_c (Off K w n) p q xs ys W h h' hl).mono ?_
  rintro e w' ⟨v, rfl, ⟨r, rfl, hT⟩, hb⟩
  exact ⟨_, rfl, ⟨r, rfl, hT.mono fun b h => h.elim id fun h => Or.inr (Nat.le_trans hw h)⟩, hb⟩

set_option maxHeartbeats 1000000 in
theorem len_c (K : Nat → Prop) (p : Option Addr) (xs : List Int) (w : World) (h : Tree K w p xs) :
    Calls Try.prog 21 #[rope p] w (Ret (fun v _ => v = .int .i64 (xs.length : Int)) w) := by
  rcases h with ⟨rfl, rfl⟩ | ⟨d, c, h, ht⟩
  · go_enter Try.func21, Try.ntmps21
    go_wp2
    go_returns
    exact ⟨_, rfl, rfl, by go_grown⟩
  · obtain ⟨g, a0, b0, rfl, -, hg⟩ := h.head
    have hlt := blk_lt hg
    have dn : w.cell? ⟨g, 0, none⟩ = some (.int .i64 (xs.length : Int)) := blk_cell hg 0
    have dn' : (w.alloc (.cells #[.pointer (some ⟨g, 0, none⟩)] RT)).cell? ⟨g, 0, none⟩ = some (.int .i64 (xs.length : Int)) := cell_below dn ((Below.refl _ _).alloc (Nat.le_refl _) _)
    clear h ht hg
    go_enter Try.func21, Try.ntmps21
    go_wp2
    go_returns
    exact ⟨_, rfl, rfl, by go_grown⟩

set_option maxHeartbeats 2000000 in
/-- THE ROPE OF TWO. -/
theorem concat_c (K : Nat → Prop) (p q : Option Addr) (xs ys : List Int) (w : World) (h : Tree K w p xs) (h' : Tree K w q ys) (hl : (xs ++ ys).length ≤ 1000000) :
    Calls Try.prog 23 #[rope p, rope q] w (Ret (fun v w' => RopeV (New K w) w' v (xs ++ ys)) w) := by
  have HJ := Lib.hid (fun W (hw : Below w.heap.size w W) (hn : w.heap.size + 3 ≤ W.heap.size) => join_off K w 3 p q xs ys W hn ((h.bound.below hw).mono fun b h => Or.inl h) ((h'.bound.below hw).mono fun b h => Or.inl h) hl)
  clear h h'
  go_enter Try.func23, Try.ntmps23
  go_wp2_with (go_at_call 26; ((with_reducible refine (HJ.out _ (by go_grown) (by simp)).mono ?_); rintro e w1 ⟨v, rfl, ⟨r, rfl, hT⟩, hb1⟩; have B : w1.heap[w.heap.size + 1 + 1]? = some (.cells #[.pointer none] RT (0, 0)) := (hb1.block _ (by simp)).trans (heap_k2 w _ _ _); obtain ⟨bc, bf⟩ := box1 B; have HB := Lib.hid B; clear B; have HT := Lib.hid hT; clear hT; have hB1 : Below w.heap.size w w1 := below_trans (by go_grown) hb1))
  refine bodyPost_ret (results_c1 rfl _ _ (w.heap.size + 1 + 1) RT #[.pointer r] (0, 0) _ rfl (blk_put HB.out 0 _ rfl) Try.underlying25 rfl (by kernel_rfl)) rfl ?_
  refine ⟨_, rfl, ⟨r, rfl, ?_⟩, by go_grown⟩
  exact (tree_far HT.out _ _ _ (by rintro (h | h) <;> omega)).mono off_new
end Go.Proofs.Ytcjpdjecgeenfaa.Ro
