/- What a node of a rope's tree tells; a leaf. -/
import Derived.Test.YtcjpdjecgeenfaaRoA
import Derived.Deep.LoopGhost
import Derived.RegionTactic
import Derived.Outline
set_option linter.unusedVariables false
set_option linter.unusedSimpArgs false
namespace Go.Proofs.Ytcjpdjecgeenfaa.Ro
open Go Go.RowKit Go.Proofs.Ytcjpdjecgeenfaa.Mem Go.Proofs.YtcjpdjecgeenfaaW.PrintWords

abbrev NT : TypeId := 64
abbrev ints (xs : List Int) : List Value := xs.map (Value.int .i64)
/-- a kid: its node, how many things or kids it has itself, and all things below -/
abbrev Kid := Option Addr × Nat × List Int
abbrev ptrs (ks : List Kid) : List Value := ks.map fun k => Value.pointer k.1
abbrev things (ks : List Kid) : List Int := ks.flatMap fun k => k.2.2

theorem ints_one (xs : List Int) : ∀ u ∈ ints xs, u.oneCell' = true := by intro u hu; obtain ⟨x, _, rfl⟩ := List.mem_map.1 hu; rfl

/-- what a node tells (of depth d + 1, with c things or kids): its things; all its blocks are of K -/
def RRep (K : Nat → Prop) (w : World) : Nat → Option Addr → Nat → List Int → Prop
  | 0, p, c, xs => ∃ (g : Nat) (s : Value), p = some ⟨g, 0, none⟩ ∧ K g ∧ w.heap[g]? = some (.cells #[.int .i64 (xs.length : Int), .int .i64 1, .slice none 0 0, s] 64 (0, 0)) ∧ SlV K w s (ints xs) ∧ c = xs.length
  | d + 1, p, c, xs => ∃ (g : Nat) (s : Value) (kids : List Kid), p = some ⟨g, 0, none⟩ ∧ K g ∧ w.heap[g]? = some (.cells #[.int .i64 (xs.length : Int), .int .i64 ((d : Int) + 2), s, .slice none 0 0] 64 (0, 0)) ∧ SlV K w s (ptrs kids) ∧
      (∀ k ∈ kids, RRep K w d k.1 k.2.1 k.2.2 ∧ 8 ≤ k.2.1 ∧ k.2.1 ≤ 16) ∧ xs = things kids ∧ c = kids.length

theorem RRep.keep {K K' : Nat → Prop} {w w' : World} (hK : ∀ b, K b → b < w.heap.size → K' b) (hb : ∀ b, K b → b < w.heap.size → w'.heap[b]? = w.heap[b]?) : ∀ {d : Nat} {p : Option Addr} {c : Nat} {xs : List Int}, RRep K w d p c xs → RRep K' w' d p c xs
  | 0, _, _, _, ⟨g, s, h1, hk, h2, h3, h4⟩ => ⟨g, s, h1, hK _ hk (blk_lt h2), (hb g hk (blk_lt h2)).trans h2, (h3.bound.keep fun b h _ => hb b h.1 h.2).mono fun b h => hK b h.1 h.2, h4⟩
  | d + 1, _, _, _, ⟨g, s, kids, h1, hk, h2, h3, h5, h6⟩ => ⟨g, s, kids, h1, hK _ hk (blk_lt h2), (hb g hk (blk_lt h2)).trans h2, (h3.bound.keep fun b h _ => hb b h.1 h.2).mono fun b h => hK b h.1 h.2, fun k hk' => ⟨RRep.keep hK hb (h5 k hk').1, (h5 k hk').2⟩, h6⟩

section
variable {K K' : Nat → Prop} {w w' : World} {d c : Nat} {p : Option Addr} {xs : List Int}
theorem RRep.below (h : RRep K w d p c xs) (hb : Below w.heap.size w w') : RRep K w' d p c xs := h.keep (fun _ h _ => h) (fun b _ hlt => hb.block b hlt)
theorem RRep.mono (h : RRep K w d p c xs) (hK : ∀ b, K b → K' b) : RRep K' w d p c xs := h.keep (fun b h _ => hK b h) (fun _ _ _ => rfl)
theorem RRep.bound (h : RRep K w d p c xs) : RRep (fun b => K b ∧ b < w.heap.size) w d p c xs := h.keep (fun _ h hl => ⟨h, hl⟩) (fun _ _ _ => rfl)

theorem RRep.head (h : RRep K w d p c xs) : ∃ g a b, p = some ⟨g, 0, none⟩ ∧ K g ∧ w.heap[g]? = some (.cells #[.int .i64 (xs.length : Int), .int .i64 ((d : Int) + 1), a, b] 64 (0, 0)) := by
  cases d with
  | zero => obtain ⟨g, s, h1, h2, h3, _⟩ := h; exact ⟨g, _, _, h1, h2, h3⟩
  | succ d =>
    obtain ⟨g, s, kids, h1, h2, h3, _⟩ := h
    refine ⟨g, s, .slice none 0 0, h1, h2, ?_⟩
    rw [h3, show (((d + 1 : Nat) : Int) + 1) = (d : Int) + 2 by push_cast; omega]
end

/-- how many things lie below -/
theorem RRep.len {K : Nat → Prop} {w : World} : ∀ {d : Nat} {p : Option Addr} {c : Nat} {xs : List Int}, RRep K w d p c xs → 8 ^ d * c ≤ xs.length ∧ xs.length ≤ 16 ^ d * c
  | 0, _, _, _, ⟨g, s, h1, hk, h2, h3, h4⟩ => by subst h4; simp
  | d + 1, _, _, _, ⟨g, s, kids, h1, hk, h2, h3, h5, h6, h7⟩ => by
    subst h6 h7
    have hall : ∀ k ∈ kids, 8 ^ (d + 1) ≤ k.2.2.length ∧ k.2.2.length ≤ 16 ^ (d + 1) := fun k hk' => by
      obtain ⟨h, h8, h16⟩ := h5 k hk'
      obtain ⟨a, b⟩ := RRep.len h
      have e1 := Nat.mul_le_mul_left (8 ^ d) h8
      have e2 := Nat.mul_le_mul_left (16 ^ d) h16
      rw [Nat.pow_succ, Nat.pow_succ]
      exact ⟨Nat.le_trans e1 a, Nat.le_trans b e2⟩
    clear h3 h5 h2
    induction kids with
    | nil => simp
    | cons k ks ih =>
      obtain ⟨a, b⟩ := hall k (by simp)
      obtain ⟨a', b'⟩ := ih fun k hk => hall k (by simp [hk])
      rw [List.length_cons, Nat.mul_add_one, Nat.mul_add_one]
      show _ ≤ ((k :: ks).flatMap _).length ∧ ((k :: ks).flatMap _).length ≤ _
      rw [List.flatMap_cons, List.length_append]
      have hl : (things ks).length = (List.flatMap (fun k : Kid => k.2.2) ks).length := rfl
      rw [hl] at a' b'
      exact ⟨by rw [Nat.add_comm]; exact Nat.add_le_add a a', by rw [Nat.add_comm (16 ^ (d + 1) * ks.length)]; exact Nat.add_le_add b b'⟩

set_option maxHeartbeats 1000000 in
theorem leaf_nil (A : Option Addr) (c : Nat) (w : World) :
    Calls Try.prog 27 #[.slice A 0 c] w (Ret (fun v _ => v = .pointer none) w) := by
  go_enter Try.func27, Try.ntmps27
  go_wp2
  go_returns
  exact ⟨_, rfl, rfl, Below.refl _ _⟩

set_option maxHeartbeats 1000000 in
theorem leaf_some (K : Nat → Prop) (A : Option Addr) (n c : Nat) (xs : List Int) (w : World) (h : SlV K w (.slice A n c) (ints xs)) (hx : xs ≠ []) :
    Calls Try.prog 27 #[.slice A n c] w (Ret (fun v w' => ∃ p, v = .pointer p ∧ RRep (New K w) w' 0 p xs.length xs) w) := by
  obtain rfl : n = xs.length := by have := h.len; simpa using this
  have hn : ((xs.length : Int) == 0) = false := beq_false_of_ne (by have := List.length_pos_iff.2 hx; omega)
  have H := Lib.hid h; clear h hx
  go_enter Try.func27, Try.ntmps27
  go_wp2
  go_returns
  have hb : Below w.heap.size w (w.alloc (.cells #[.int .i64 (xs.length : Int), .int .i64 1, .slice none 0 0, .slice A xs.length c] NT)) := by go_grown
  exact ⟨_, rfl, ⟨_, rfl, w.heap.size, _, rfl, New.fresh (Nat.le_refl _), blk_new w _, (H.out.mono fun b h => New.old h).below hb, rfl⟩, hb⟩
end Go.Proofs.Ytcjpdjecgeenfaa.Ro
