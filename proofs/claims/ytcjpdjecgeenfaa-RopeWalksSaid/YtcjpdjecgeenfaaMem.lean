/- Memory that is never written again: slices of values read as lists, blocks known whole, and what becomes of them in a later world. -/
import Derived.Test.YtcjpdjecgeenfaaWWords
import Derived.Laws.CopyOwn
import Derived.Laws.MakeOwn
import Derived.Handy
import Derived.Lib.Hide
set_option linter.unusedVariables false
set_option linter.unusedSimpArgs false
namespace Go.Proofs.Ytcjpdjecgeenfaa.Mem
open Go Go.RowKit Go.Proofs.YtcjpdjecgeenfaaW.PrintWords

/-- a slice's elements, each one cell; the block in which they lie is one of K -/
def SlV (K : Nat → Prop) (w : World) (v : Value) (xs : List Value) : Prop :=
  ∃ A c, v = .slice A xs.length c ∧ xs.length ≤ c ∧ c ≤ maxLen ∧ (0 < xs.length → ∃ ad : Addr, A = some ad ∧ K ad.block ∧ ∀ (j : Nat) (u : Value), xs[j]? = some u → w.cell? (ad.add j) = some u) ∧ ∀ u ∈ xs, u.oneCell' = true

/-- the blocks that are made from a world on -/
def Fresh (w : World) : Nat → Prop := fun b => w.heap.size ≤ b
/-- the blocks of K, and those that are made from a world on -/
def New (K : Nat → Prop) (w : World) : Nat → Prop := fun b => K b ∨ w.heap.size ≤ b
theorem New.old {K : Nat → Prop} {w : World} {b : Nat} (h : K b) : New K w b := Or.inl h
theorem New.fresh {K : Nat → Prop} {w : World} {b : Nat} (h : Fresh w b) : New K w b := Or.inr h
theorem Fresh.of {w w1 : World} (hb : w.heap.size ≤ w1.heap.size) {b : Nat} (h : Fresh w1 b) : Fresh w b := Nat.le_trans hb h
theorem New.of {K : Nat → Prop} {w w1 : World} (hb : w.heap.size ≤ w1.heap.size) {b : Nat} (h : New K w1 b) : New K w b := h.imp id (Nat.le_trans hb)
theorem New.twice {K : Nat → Prop} {w w1 : World} (hb : w.heap.size ≤ w1.heap.size) {b : Nat} (h : New (New K w) w1 b) : New K w b := h.elim id (fun h => Or.inr (Nat.le_trans hb h))

section
variable {K K' : Nat → Prop} {w w' : World} {v : Value} {xs : List Value}
theorem SlV.nil (K : Nat → Prop) (w : World) : SlV K w (.slice none 0 0) [] := ⟨none, 0, rfl, Nat.le_refl _, by simp [maxLen], fun h => absurd h (by simp), fun u h => by cases h⟩

theorem SlV.len {A : Option Addr} {n c : Nat} (h : SlV K w (.slice A n c) xs) : n = xs.length := by
  obtain ⟨A', c', he, _⟩ := h
  injection he

theorem SlV.form (h : SlV K w v xs) : ∃ A n c, v = .slice A n c := by
  obtain ⟨A, c, rfl, _⟩ := h
  exact ⟨A, _, c, rfl⟩

theorem SlV.one (h : SlV K w v xs) : ∀ u ∈ xs, u.oneCell' = true := by
  obtain ⟨_, _, _, _, _, _, h4⟩ := h; exact h4

theorem SlV.addr {A : Option Addr} {n c : Nat} (h : SlV K w (.slice A n c) xs) (hp : 0 < xs.length) : ∃ ad, A = some ad ∧ ∀ (j : Nat) (u : Value), xs[j]? = some u → w.cell? (ad.add j) = some u := by
  obtain ⟨A', c', he, _, _, h3, _⟩ := h
  injection he with hA _ _
  obtain ⟨ad, e, _, hc⟩ := h3 hp
  exact ⟨ad, by rw [hA, e], hc⟩

theorem block_lt {a : Addr} {u : Value} (h : w.cell? a = some u) : a.block < w.heap.size := World.block_lt_of_cell? w a h

theorem cell_below {a : Addr} {u : Value} (h : w.cell? a = some u) (hb : Below w.heap.size w w') : w'.cell? a = some u := (hb.cell (p := a) (block_lt h)).trans h

theorem SlV.mono (h : SlV K w v xs) (hK : ∀ b, K b → K' b) : SlV K' w v xs := by
  obtain ⟨A, c, rfl, h1, h2, h3, h4⟩ := h
  refine ⟨A, c, rfl, h1, h2, fun hp => ?_, h4⟩
  obtain ⟨ad, rfl, hk, hc⟩ := h3 hp
  exact ⟨ad, rfl, hK _ hk, hc⟩

/-- where the blocks of K lie as they lay, a slice of theirs has what it had -/
theorem SlV.keep (h : SlV K w v xs) (hk : ∀ b, K b → b < w.heap.size → w'.heap[b]? = w.heap[b]?) : SlV K w' v xs := by
  obtain ⟨A, c, rfl, h1, h2, h3, h4⟩ := h
  refine ⟨A, c, rfl, h1, h2, fun hp => ?_, h4⟩
  obtain ⟨ad, rfl, hK, hc⟩ := h3 hp
  refine ⟨ad, rfl, hK, fun j u hu => ?_⟩
  have hb : (ad.add j).block = ad.block := by unfold Addr.add; split <;> rfl
  have hc' := hc j u hu
  have hlt := block_lt hc'
  rw [hb] at hlt
  rw [← hc']
  exact World.cell?_of_block (by rw [hb]; exact hk _ hK hlt)

theorem SlV.below (h : SlV K w v xs) (hb : Below w.heap.size w w') : SlV K w' v xs := h.keep fun b _ hlt => hb.block b hlt

/-- a slice's block is one that is there -/
theorem SlV.bound (h : SlV K w v xs) : SlV (fun b => K b ∧ b < w.heap.size) w v xs := by
  obtain ⟨A, c, rfl, h1, h2, h3, h4⟩ := h
  refine ⟨A, c, rfl, h1, h2, fun hp => ?_, h4⟩
  obtain ⟨ad, rfl, hK, hc⟩ := h3 hp
  have hlt := block_lt (hc 0 (xs[0]'hp) (List.getElem?_eq_getElem hp))
  have hb : (ad.add 0).block = ad.block := by unfold Addr.add; split <;> rfl
  rw [hb] at hlt
  exact ⟨ad, rfl, ⟨hK, hlt⟩, hc⟩
end

theorem add_head (g j : Nat) : (⟨g, 0, none⟩ : Addr).add j = ⟨g, j, none⟩ := by unfold Addr.add; split <;> simp_all
theorem add_off (g o j : Nat) : (⟨g, o, none⟩ : Addr).add j = ⟨g, o + j, none⟩ := by unfold Addr.add; split <;> simp_all

/-- a slice at the head of a block that is known whole -/
theorem SlV.blk {K : Nat → Prop} {w : World} {g c : Nat} {cs : Array Value} {t : TypeId} {xs : List Value} (h : w.heap[g]? = some (.cells cs t (0, 0))) (hx : ∀ (j : Nat) (u : Value), xs[j]? = some u → cs[j]? = some u) (hc : xs.length ≤ c) (hm : c ≤ maxLen) (h1 : ∀ u ∈ xs, u.oneCell' = true) (hK : K g) :
    SlV K w (.slice (some ⟨g, 0, none⟩) xs.length c) xs :=
  ⟨some ⟨g, 0, none⟩, c, rfl, hc, hm, fun _ => ⟨_, rfl, hK, fun j u hu => by
    rw [add_head, blk_cell h]; exact hx j u hu⟩, h1⟩

theorem madeCells_one (z : Value) (n : Nat) : madeCells #[z] n = Array.replicate n z := by
  unfold madeCells
  apply Array.ext
  · simp
  · intro i h1 h2
    simp [Nat.mod_one]
theorem madeCells_list (z : Value) (n : Nat) : madeCells #[z] n = (List.replicate n z).toArray := by
  rw [madeCells_one]; simp

/-- what a call gives: a value, what is known of it in the world behind it, and nothing elder has changed -/
def Ret (P : Value → World → Prop) (w : World) (e : Ending) (w' : World) : Prop := ∃ v, e = .returned v ∧ P v w' ∧ Below w.heap.size w w'

theorem below_trans {w w1 w2 : World} (h : Below w.heap.size w w1) (k : Below w1.heap.size w1 w2) : Below w.heap.size w w2 := below_then h h.size k

theorem heap_k1 (w : World) (a o : Obj) : ((w.alloc a).alloc o).heap[w.heap.size + 1]? = some o := by
  have := heap_alloc_new (w.alloc a) o; rwa [World.size_alloc] at this
theorem heap_k2 (w : World) (a b o : Obj) : (((w.alloc a).alloc b).alloc o).heap[w.heap.size + 1 + 1]? = some o := by
  have := heap_alloc_new ((w.alloc a).alloc b) o; rwa [World.size_alloc, World.size_alloc] at this
theorem heap_k3 (w : World) (a b c o : Obj) : ((((w.alloc a).alloc b).alloc c).alloc o).heap[w.heap.size + 1 + 1 + 1]? = some o := by
  have := heap_alloc_new (((w.alloc a).alloc b).alloc c) o; rwa [World.size_alloc, World.size_alloc, World.size_alloc] at this
theorem heap_k4 (w : World) (a b c d o : Obj) : (((((w.alloc a).alloc b).alloc c).alloc d).alloc o).heap[w.heap.size + 1 + 1 + 1 + 1]? = some o := by
  have := heap_alloc_new ((((w.alloc a).alloc b).alloc c).alloc d) o; rwa [World.size_alloc, World.size_alloc, World.size_alloc, World.size_alloc] at this
theorem heap_k5 (w : World) (a b c d e o : Obj) : ((((((w.alloc a).alloc b).alloc c).alloc d).alloc e).alloc o).heap[w.heap.size + 1 + 1 + 1 + 1 + 1]? = some o := by
  have := heap_alloc_new (((((w.alloc a).alloc b).alloc c).alloc d).alloc e) o; rwa [World.size_alloc, World.size_alloc, World.size_alloc, World.size_alloc, World.size_alloc] at this

theorem results_c1 {P : Program} {fn : Func} {p : Tmp} {ty : TypeId} (h : fn.results = #[.cell p ty]) (tmps : Array Value) (w : World) (g : Nat) (t : TypeId) (cs : Array Value) (fr : Nat × Nat) (d : TypeDesc)
    (hp : tmps.getD p undef = .pointer (some ⟨g, 0, none⟩)) (hg : w.heap[g]? = some (.cells cs t fr))
    (hu : P.underlying ty = some d) (hd : (match d with | .struct _ | .array _ _ => true | _ => false) = true) (hi : (P.info? ty).map (·.size) = some cs.size) :
    (results fn tmps).run P w = .ok (.agg cs) w := by
  have hp' : tmps[p]?.getD undef = .pointer (some ⟨g, 0, none⟩) := by simpa using hp
  simp [results, h, hp', asAddr, run_loadVar_row w g t ty cs fr d hg hu hd hi]
/-- four stores into a block of four cells -/
theorem put4 {w : World} {g : Nat} {a b c d a' b' c' d' : Value} {t : TypeId} (h : w.heap[g]? = some (.cells #[a, b, c, d] t (0, 0))) :
    ((((w.setCell ⟨g, 0, none⟩ a').setCell ⟨g, 1, none⟩ b').setCell ⟨g, 2, none⟩ c').setCell ⟨g, 3, none⟩ d').heap[g]? = some (.cells #[a', b', c', d'] t (0, 0)) :=
  blk_put (cs := #[a', b', c', d]) (blk_put (cs := #[a', b', c, d]) (blk_put (cs := #[a', b, c, d]) (blk_put (cs := #[a, b, c, d]) h 0 a' rfl) 1 b' rfl) 2 c' rfl) 3 d' rfl

/-- a block of four cells, cell by cell -/
theorem box4 {w : World} {g : Nat} {a b c d : Value} {t : TypeId} (h : w.heap[g]? = some (.cells #[a, b, c, d] t (0, 0))) :
    (w.cell? ⟨g, 0, none⟩ = some a ∧ w.cell? ⟨g, 1, none⟩ = some b ∧ w.cell? ⟨g, 2, none⟩ = some c ∧ w.cell? ⟨g, 3, none⟩ = some d) ∧ (w.frozen? ⟨g, 0, none⟩ = false ∧ w.frozen? ⟨g, 1, none⟩ = false ∧ w.frozen? ⟨g, 2, none⟩ = false ∧ w.frozen? ⟨g, 3, none⟩ = false) :=
  ⟨⟨blk_cell h 0, blk_cell h 1, blk_cell h 2, blk_cell h 3⟩, blk_frozen h 0, blk_frozen h 1, blk_frozen h 2, blk_frozen h 3⟩
theorem box1 {w : World} {g : Nat} {a : Value} {t : TypeId} (h : w.heap[g]? = some (.cells #[a] t (0, 0))) : w.cell? ⟨g, 0, none⟩ = some a ∧ w.frozen? ⟨g, 0, none⟩ = false := ⟨blk_cell h 0, blk_frozen h 0⟩

/-- 'out := make([]T, N); copy(out, l)', N at least l's length: behind it the new block holds l's cells and zeros. -/
theorem wpList_copy_fresh {P : Program} {w : World} {ops : Array Oper} {rest : List Oper} {o : Oper} {a : Act} {Q : Exit → Act → World → Prop} (hgd : o.guard = none) (d s : Operand) (T : TypeId)
    (ho : o.op = .call { callee := .builtin .copy, args := #[d, s], argTypes := #[T, T] }) (E : TypeId) (hu : P.underlying T = some (.slice E)) (hsz : (P.info? E).map (·.size) = some 1)
    (A : Option Addr) (n c N dC : Nat) (z : Value) (xs : List Value) (hd : a.eval d = .slice (some ⟨w.heap.size, 0, none⟩) N dC) (hs : a.eval s = .slice A n c)
    (K : Nat → Prop) (hx : SlV K w (.slice A n c) xs) (hN : n ≤ N)
    (h : ∀ w', Hid (w'.heap[w.heap.size]? = some (.cells (xs ++ List.replicate (N - n) z).toArray E (0, 0))) → Below w.heap.size w w' → wpList P ops Q rest (a.put o.dst (goInt n)) w') :
    wpList P ops Q (o :: rest) a (w.alloc (.cells (Array.replicate N z) E)) := by
  obtain ⟨A', c', he, h1, h2, h3, h4⟩ := hx
  injection he with hA hl hc
  subst hA hc hl
  refine wpList_copy_splice hgd d s T T ho E hu hsz _ _ _ _ _ _ hd hs w.heap.size 0 (List.replicate N z) E ?_ xs ?_ ?_ ?_ h4 w.heap.size w ?_ (Nat.le_refl _) ?_
  · exact (heap_alloc_new _ _).trans (by rw [← List.toArray_replicate])
  · exact (Nat.min_eq_left hN).symm
  · intro hp
    obtain ⟨ad, rfl, _, hcell⟩ := h3 hp
    exact ⟨rfl, ad, rfl, fun j v hv => cell_below (hcell j v hv) ((Below.refl _ _).alloc (Nat.le_refl _) _)⟩
  · simp; omega
  · exact (Below.refl _ _).alloc (Nat.le_refl _) _
  · intro w' hg hb
    refine h w' ?_ hb
    have := hg.out
    rw [show splice (List.replicate N z) 0 xs = xs ++ List.replicate (N - xs.length) z by simp [splice]] at this
    exact Lib.hid this

/-- 'out := make([]T, N); copy(out, l)', N at most l's length: behind it the new block holds l's first N cells. -/
theorem wpList_copy_part {P : Program} {w : World} {ops : Array Oper} {rest : List Oper} {o : Oper} {a : Act} {Q : Exit → Act → World → Prop} (hgd : o.guard = none) (d s : Operand) (T : TypeId)
    (ho : o.op = .call { callee := .builtin .copy, args := #[d, s], argTypes := #[T, T] }) (E : TypeId) (hu : P.underlying T = some (.slice E)) (hsz : (P.info? E).map (·.size) = some 1)
    (A : Option Addr) (n c N dC : Nat) (z : Value) (xs : List Value) (w0 : World) (hb0 : Below w0.heap.size w0 w) (hd : a.eval d = .slice (some ⟨w.heap.size, 0, none⟩) N dC) (hs : a.eval s = .slice A n c)
    (K : Nat → Prop) (hx : SlV K w0 (.slice A n c) xs) (hN : N ≤ n)
    (h : ∀ w', Hid (w'.heap[w.heap.size]? = some (.cells (xs.take N).toArray E (0, 0))) → Below w.heap.size w w' → wpList P ops Q rest (a.put o.dst (goInt N)) w') :
    wpList P ops Q (o :: rest) a (w.alloc (.cells (Array.replicate N z) E)) := by
  obtain ⟨A', c', he, h1, h2, h3, h4⟩ := hx.below hb0
  injection he with hA hl hc
  subst hA hc hl
  have hlen : (xs.take N).length = N := by rw [List.length_take]; omega
  refine wpList_copy_splice hgd d s T T ho E hu hsz _ _ _ _ _ _ hd hs w.heap.size 0 (List.replicate N z) E ?_ (xs.take N) ?_ ?_ ?_ (fun v hv => h4 v (List.mem_of_mem_take hv)) w.heap.size w ?_ (Nat.le_refl _) ?_
  · exact (heap_alloc_new _ _).trans (by rw [← List.toArray_replicate])
  · rw [hlen]; exact (Nat.min_eq_right hN).symm
  · intro hp
    obtain ⟨ad, rfl, _, hcell⟩ := h3 (by omega)
    refine ⟨rfl, ad, rfl, fun j v hv => cell_below (hcell j v ?_) ((Below.refl _ _).alloc (Nat.le_refl _) _)⟩
    have hj : j < N := by have := (List.getElem?_eq_some_iff.1 hv).1; omega
    rwa [List.getElem?_take_of_lt hj] at hv
  · rw [hlen]; simp
  · exact (Below.refl _ _).alloc (Nat.le_refl _) _
  · intro w' hg hb
    rw [hlen]
    refine h w' ?_ hb
    have := hg.out
    rw [show splice (List.replicate N z) 0 (xs.take N) = xs.take N by unfold splice; rw [List.drop_eq_nil_of_le (by rw [hlen]; simp)]; simp] at this
    exact Lib.hid this
end Go.Proofs.Ytcjpdjecgeenfaa.Mem
