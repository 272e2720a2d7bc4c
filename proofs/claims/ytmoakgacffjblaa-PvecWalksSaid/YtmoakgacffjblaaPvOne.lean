/- Memory that is never written again: slices of values read as lists, blocks known whole, and what becomes of them in a later world. -/
import Derived.Test.YtmoakgacffjblaaWWords
import Derived.Laws.CopyOwn
import Derived.Laws.MakeOwn
import Derived.Handy
import Derived.Lib.Hide
import Derived.Maps.AppendAt
import Derived.Test.YtmoakgacffjblaaProg
import Derived.Outline
import Derived.Deep.RegionHeld3
import Derived.Deep.QuietTactic
import Derived.BigQuiet
import Derived.Deep.LoopGhost
set_option linter.unusedVariables false
set_option linter.unusedSimpArgs false
section
namespace Go.Proofs.Ytmoakgacffjblaa.Mem
open Go Go.RowKit Go.Proofs.YtmoakgacffjblaaW.PrintWords

/-- a slice's elements, each one cell; the block in which they lie is one of K -/
def SlV (K : Nat → Prop) (w : World) (v : Value) (xs : List Value) : Prop :=
  ∃ A c, v = .slice A xs.length c ∧ xs.length ≤ c ∧ c ≤ maxLen ∧ (0 < xs.length → ∃ ad : Addr, A = some ad ∧ K ad.block ∧ ∀ (j : Nat) (u : Value), xs[j]? = some u → w.cell? (ad.add j) = some u) ∧ ∀ u ∈ xs, u.oneCell' = true

/-- the blocks that are made from a world on -/
def Fresh (w : World) : Nat → Prop := fun b => w.heap.size ≤ b
/-- the blocks of K, and those that are made from a world on -/
def New (K : Nat → Prop) (w : World) : Nat → Prop := fun b => K b ∨ w.heap.size ≤ b
theorem New.old {K : Nat → Prop} {w : World} {b : Nat} (h : K b) : New K w b := Or.inl h
theorem New.fresh {K : Nat → Prop} {w : World} {b : Nat} (h : Fresh w b) : New K w b := Or.inr h
theorem Fresh.of {w w1 : World} (hb : w.heap.size ≤ w1.heap.size) {b : Nat} (h : Fresh w1 b) : Fresh w b := Nat.le_trans hb h
theorem New.of {K : Nat → Prop} {w w1 : World} (hb : w.heap.size ≤ w1.heap.size) {b : Nat} (h : New K w1 b) : New K w b := h.imp id (Nat.le_trans hb)
theorem New.twice {K : Nat → Prop} {w w1 : World} (hb : w.heap.size ≤ w1.heap.size) {b : Nat} (h : New (New K w) w1 b) : New K w b := h.elim id (fun h => Or.inr (Nat.le_trans hb h))

section
variable {K K' : Nat → Prop} {w w' : World} {v : Value} {xs : List Value}
theorem SlV.nil (K : Nat → Prop) (w : World) : SlV K w (.slice none 0 0) [] := ⟨none, 0, rfl, Nat.le_refl _, by simp [maxLen], fun h => absurd h (by simp), fun u h => by cases h⟩

theorem SlV.len {A : Option Addr} {n c : Nat} (h : SlV K w (.slice A n c) xs) : n = xs.length := by
  obtain ⟨A', c', he, _⟩ := h
  injection he

theorem SlV.form (h : SlV K w v xs) : ∃ A n c, v = .slice A n c := by
  obtain ⟨A, c, rfl, _⟩ := h
  exact ⟨A, _, c, rfl⟩

theorem SlV.one (h : SlV K w v xs) : ∀ u ∈ xs, u.oneCell' = true := by
  obtain ⟨_, _, _, _, _, _, h4⟩ := h; exact h4

theorem SlV.addr {A : Option Addr} {n c : Nat} (h : SlV K w (.slice A n c) xs) (hp : 0 < xs.length) : ∃ ad, A = some ad ∧ ∀ (j : Nat) (u : Value), xs[j]? = some u → w.cell? (ad.add j) = some u := by
  obtain ⟨A', c', he, _, _, h3, _⟩ := h
  injection he with hA _ _
  obtain ⟨ad, e, _, hc⟩ := h3 hp
  exact ⟨ad, by rw [hA, e], hc⟩

theorem block_lt {a : Addr} {u : Value} (h : w.cell? a = some u) : a.block < w.heap.size := World.block_lt_of_cell? w a h

theorem cell_below {a : Addr} {u : Value} (h : w.cell? a = some u) (hb : Below w.heap.size w w') : w'.cell? a = some u := (hb.cell (p := a) (block_lt h)).trans h

theorem SlV.mono (h : SlV K w v xs) (hK : ∀ b, K b → K' b) : SlV K' w v xs := by
  obtain ⟨A, c, rfl, h1, h2, h3, h4⟩ := h
  refine ⟨A, c, rfl, h1, h2, fun hp => ?_, h4⟩
  obtain ⟨ad, rfl, hk, hc⟩ := h3 hp
  exact ⟨ad, rfl, hK _ hk, hc⟩

/-- where the blocks of K lie as they lay, a slice of theirs has what it had -/
theorem SlV.keep (h : SlV K w v xs) (hk : ∀ b, K b → b < w.heap.size → w'.heap[b]? = w.heap[b]?) : SlV K w' v xs := by
  obtain ⟨A, c, rfl, h1, h2, h3, h4⟩ := h
  refine ⟨A, c, rfl, h1, h2, fun hp => ?_, h4⟩
  obtain ⟨ad, rfl, hK, hc⟩ := h3 hp
  refine ⟨ad, rfl, hK, fun j u hu => ?_⟩
  have hb : (ad.add j).block = ad.block := by unfold Addr.add; split <;> rfl
  have hc' := hc j u hu
  have hlt := block_lt hc'
  rw [hb] at hlt
  rw [← hc']
  exact World.cell?_of_block (by rw [hb]; exact hk _ hK hlt)

theorem SlV.below (h : SlV K w v xs) (hb : Below w.heap.size w w') : SlV K w' v xs := h.keep fun b _ hlt => hb.block b hlt

/-- a slice's block is one that is there -/
theorem SlV.bound (h : SlV K w v xs) : SlV (fun b => K b ∧ b < w.heap.size) w v xs := by
  obtain ⟨A, c, rfl, h1, h2, h3, h4⟩ := h
  refine ⟨A, c, rfl, h1, h2, fun hp => ?_, h4⟩
  obtain ⟨ad, rfl, hK, hc⟩ := h3 hp
  have hlt := block_lt (hc 0 (xs[0]'hp) (List.getElem?_eq_getElem hp))
  have hb : (ad.add 0).block = ad.block := by unfold Addr.add; split <;> rfl
  rw [hb] at hlt
  exact ⟨ad, rfl, ⟨hK, hlt⟩, hc⟩
end

theorem add_head (g j : Nat) : (⟨g, 0, none⟩ : Addr).add j = ⟨g, j, none⟩ := by unfold Addr.add; split <;> simp_all
theorem add_off (g o j : Nat) : (⟨g, o, none⟩ : Addr).add j = ⟨g, o + j, none⟩ := by unfold Addr.add; split <;> simp_all

/-- a slice at the head of a block that is known whole -/
theorem SlV.blk {K : Nat → Prop} {w : World} {g c : Nat} {cs : Array Value} {t : TypeId} {xs : List Value} (h : w.heap[g]? = some (.cells cs t (0, 0))) (hx : ∀ (j : Nat) (u : Value), xs[j]? = some u → cs[j]? = some u) (hc : xs.length ≤ c) (hm : c ≤ maxLen) (h1 : ∀ u ∈ xs, u.oneCell' = true) (hK : K g) :
    SlV K w (.slice (some ⟨g, 0, none⟩) xs.length c) xs :=
  ⟨some ⟨g, 0, none⟩, c, rfl, hc, hm, fun _ => ⟨_, rfl, hK, fun j u hu => by
    rw [add_head, blk_cell h]; exact hx j u hu⟩, h1⟩

theorem madeCells_one (z : Value) (n : Nat) : madeCells #[z] n = Array.replicate n z := by
  unfold madeCells
  apply Array.ext
  · simp
  · intro i h1 h2
    simp [Nat.mod_one]
theorem madeCells_list (z : Value) (n : Nat) : madeCells #[z] n = (List.replicate n z).toArray := by
  rw [madeCells_one]; simp

/-- what a call gives: a value, what is known of it in the world behind it, and nothing elder has changed -/
def Ret (P : Value → World → Prop) (w : World) (e : Ending) (w' : World) : Prop := ∃ v, e = .returned v ∧ P v w' ∧ Below w.heap.size w w'

theorem below_trans {w w1 w2 : World} (h : Below w.heap.size w w1) (k : Below w1.heap.size w1 w2) : Below w.heap.size w w2 := below_then h h.size k

theorem heap_k1 (w : World) (a o : Obj) : ((w.alloc a).alloc o).heap[w.heap.size + 1]? = some o := by
  have := heap_alloc_new (w.alloc a) o; rwa [World.size_alloc] at this
theorem heap_k2 (w : World) (a b o : Obj) : (((w.alloc a).alloc b).alloc o).heap[w.heap.size + 1 + 1]? = some o := by
  have := heap_alloc_new ((w.alloc a).alloc b) o; rwa [World.size_alloc, World.size_alloc] at this
theorem heap_k3 (w : World) (a b c o : Obj) : ((((w.alloc a).alloc b).alloc c).alloc o).heap[w.heap.size + 1 + 1 + 1]? = some o := by
  have := heap_alloc_new (((w.alloc a).alloc b).alloc c) o; rwa [World.size_alloc, World.size_alloc, World.size_alloc] at this
theorem heap_k4 (w : World) (a b c d o : Obj) : (((((w.alloc a).alloc b).alloc c).alloc d).alloc o).heap[w.heap.size + 1 + 1 + 1 + 1]? = some o := by
  have := heap_alloc_new ((((w.alloc a).alloc b).alloc c).alloc d) o; rwa [World.size_alloc, World.size_alloc, World.size_alloc, World.size_alloc] at this
theorem heap_k5 (w : World) (a b c d e o : Obj) : ((((((w.alloc a).alloc b).alloc c).alloc d).alloc e).alloc o).heap[w.heap.size + 1 + 1 + 1 + 1 + 1]? = some o := by
  have := heap_alloc_new (((((w.alloc a).alloc b).alloc c).alloc d).alloc e) o; rwa [World.size_alloc, World.size_alloc, World.size_alloc, World.size_alloc, World.size_alloc] at this

theorem results_c1 {P : Program} {fn : Func} {p : Tmp} {ty : TypeId} (h : fn.results = #[.cell p ty]) (tmps : Array Value) (w : World) (g : Nat) (t : TypeId) (cs : Array Value) (fr : Nat × Nat) (d : TypeDesc)
    (hp : tmps.getD p undef = .pointer (some ⟨g, 0, none⟩)) (hg : w.heap[g]? = some (.cells cs t fr))
    (hu : P.underlying ty = some d) (hd : (match d with | .struct _ | .array _ _ => true | _ => false) = true) (hi : (P.info? ty).map (·.size) = some cs.size) :
    (results fn tmps).run P w = .ok (.agg cs) w := by
  have hp' : tmps[p]?.getD undef = .pointer (some ⟨g, 0, none⟩) := by simpa using hp
  simp [results, h, hp', asAddr, run_loadVar_row w g t ty cs fr d hg hu hd hi]
/-- four stores into a block of four cells -/
theorem put4 {w : World} {g : Nat} {a b c d a' b' c' d' : Value} {t : TypeId} (h : w.heap[g]? = some (.cells #[a, b, c, d] t (0, 0))) :
    ((((w.setCell ⟨g, 0, none⟩ a').setCell ⟨g, 1, none⟩ b').setCell ⟨g, 2, none⟩ c').setCell ⟨g, 3, none⟩ d').heap[g]? = some (.cells #[a', b', c', d'] t (0, 0)) :=
  blk_put (cs := #[a', b', c', d]) (blk_put (cs := #[a', b', c, d]) (blk_put (cs := #[a', b, c, d]) (blk_put (cs := #[a, b, c, d]) h 0 a' rfl) 1 b' rfl) 2 c' rfl) 3 d' rfl

/-- a block of four cells, cell by cell -/
theorem box4 {w : World} {g : Nat} {a b c d : Value} {t : TypeId} (h : w.heap[g]? = some (.cells #[a, b, c, d] t (0, 0))) :
    (w.cell? ⟨g, 0, none⟩ = some a ∧ w.cell? ⟨g, 1, none⟩ = some b ∧ w.cell? ⟨g, 2, none⟩ = some c ∧ w.cell? ⟨g, 3, none⟩ = some d) ∧ (w.frozen? ⟨g, 0, none⟩ = false ∧ w.frozen? ⟨g, 1, none⟩ = false ∧ w.frozen? ⟨g, 2, none⟩ = false ∧ w.frozen? ⟨g, 3, none⟩ = false) :=
  ⟨⟨blk_cell h 0, blk_cell h 1, blk_cell h 2, blk_cell h 3⟩, blk_frozen h 0, blk_frozen h 1, blk_frozen h 2, blk_frozen h 3⟩
theorem box1 {w : World} {g : Nat} {a : Value} {t : TypeId} (h : w.heap[g]? = some (.cells #[a] t (0, 0))) : w.cell? ⟨g, 0, none⟩ = some a ∧ w.frozen? ⟨g, 0, none⟩ = false := ⟨blk_cell h 0, blk_frozen h 0⟩

/-- 'out := make([]T, N); copy(out, l)', N at least l's length: behind it the new block holds l's cells and zeros. -/
theorem wpList_copy_fresh {P : Program} {w : World} {ops : Array Oper} {rest : List Oper} {o : Oper} {a : Act} {Q : Exit → Act → World → Prop} (hgd : o.guard = none) (d s : Operand) (T : TypeId)
    (ho : o.op = .call { callee := .builtin .copy, args := #[d, s], argTypes := #[T, T] }) (E : TypeId) (hu : P.underlying T = some (.slice E)) (hsz : (P.info? E).map (·.size) = some 1)
    (A : Option Addr) (n c N dC : Nat) (z : Value) (xs : List Value) (hd : a.eval d = .slice (some ⟨w.heap.size, 0, none⟩) N dC) (hs : a.eval s = .slice A n c)
    (K : Nat → Prop) (hx : SlV K w (.slice A n c) xs) (hN : n ≤ N)
    (h : ∀ w', Hid (w'.heap[w.heap.size]? = some (.cells (xs ++ List.replicate (N - n) z).toArray E (0, 0))) → Below w.heap.size w w' → wpList P ops Q rest (a.put o.dst (goInt n)) w') :
    wpList P ops Q (o :: rest) a (w.alloc (.cells (Array.replicate N z) E)) := by
  obtain ⟨A', c', he, h1, h2, h3, h4⟩ := hx
  injection he with hA hl hc
  subst hA hc hl
  refine wpList_copy_splice hgd d s T T ho E hu hsz _ _ _ _ _ _ hd hs w.heap.size 0 (List.replicate N z) E ?_ xs ?_ ?_ ?_ h4 w.heap.size w ?_ (Nat.le_refl _) ?_
  · exact (heap_alloc_new _ _).trans (by rw [← List.toArray_replicate])
  · exact (Nat.min_eq_left hN).symm
  · intro hp
    obtain ⟨ad, rfl, _, hcell⟩ := h3 hp
    exact ⟨rfl, ad, rfl, fun j v hv => cell_below (hcell j v hv) ((Below.refl _ _).alloc (Nat.le_refl _) _)⟩
  · simp; omega
  · exact (Below.refl _ _).alloc (Nat.le_refl _) _
  · intro w' hg hb
    refine h w' ?_ hb
    have := hg.out
    rw [show splice (List.replicate N z) 0 xs = xs ++ List.replicate (N - xs.length) z by simp [splice]] at this
    exact Lib.hid this

/-- 'out := make([]T, N); copy(out, l)', N at most l's length: behind it the new block holds l's first N cells. -/
theorem wpList_copy_part {P : Program} {w : World} {ops : Array Oper} {rest : List Oper} {o : Oper} {a : Act} {Q : Exit → Act → World → Prop} (hgd : o.guard = none) (d s : Operand) (T : TypeId)
    (ho : o.op = .call { callee := .builtin .copy, args := #[d, s], argTypes := #[T, T] }) (E : TypeId) (hu : P.underlying T = some (.slice E)) (hsz : (P.info? E).map (·.size) = some 1)
    (A : Option Addr) (n c N dC : Nat) (z : Value) (xs : List Value) (w0 : World) (hb0 : Below w0.heap.size w0 w) (hd : a.eval d = .slice (some ⟨w.heap.size, 0, none⟩) N dC) (hs : a.eval s = .slice A n c)
    (K : Nat → Prop) (hx : SlV K w0 (.slice A n c) xs) (hN : N ≤ n)
    (h : ∀ w', Hid (w'.heap[w.heap.size]? = some (.cells (xs.take N).toArray E (0, 0))) → Below w.heap.size w w' → wpList P ops Q rest (a.put o.dst (goInt N)) w') :
    wpList P ops Q (o :: rest) a (w.alloc (.cells (Array.replicate N z) E)) := by
  obtain ⟨A', c', he, h1, h2, h3, h4⟩ := hx.below hb0
  injection he with hA hl hc
  subst hA hc hl
  have hlen : (xs.take N).length = N := by rw [List.length_take]; omega
  refine wpList_copy_splice hgd d s T T ho E hu hsz _ _ _ _ _ _ hd hs w.heap.size 0 (List.replicate N z) E ?_ (xs.take N) ?_ ?_ ?_ (fun v hv => h4 v (List.mem_of_mem_take hv)) w.heap.size w ?_ (Nat.le_refl _) ?_
  · exact (heap_alloc_new _ _).trans (by rw [← List.toArray_replicate])
  · rw [hlen]; exact (Nat.min_eq_right hN).symm
  · intro hp
    obtain ⟨ad, rfl, _, hcell⟩ := h3 (by omega)
    refine ⟨rfl, ad, rfl, fun j v hv => cell_below (hcell j v ?_) ((Below.refl _ _).alloc (Nat.le_refl _) _)⟩
    have hj : j < N := by have := (List.getElem?_eq_some_iff.1 hv).1; omega
    rwa [List.getElem?_take_of_lt hj] at hv
  · rw [hlen]; simp
  · exact (Below.refl _ _).alloc (Nat.le_refl _) _
  · intro w' hg hb
    rw [hlen]
    refine h w' ?_ hb
    have := hg.out
    rw [show splice (List.replicate N z) 0 (xs.take N) = xs.take N by unfold splice; rw [List.drop_eq_nil_of_le (by rw [hlen]; simp)]; simp] at this
    exact Lib.hid this
end Go.Proofs.Ytmoakgacffjblaa.Mem
end

section
namespace Go.Proofs.Ytmoakgacffjblaa.Mem
open Go Go.RowKit Go.Proofs.YtmoakgacffjblaaW.PrintWords

theorem run_append_slv {P : Program} (W : World) (base : Nat) (t tt e : TypeId) (z : Value) (bytes : Nat) (ht : P.underlying t = some (.slice e)) (hinfo : (P.info? e).map (fun i => (i.zero, i.size, i.bytes)) = some (some z, 1, bytes)) (hz : z.cells.size = 1) (hb0 : 0 < bytes)
    (v : Value) (n : Nat) (xs ys : List Value) (A : Option Addr) (m c : Nat) (K : Nat → Prop) (HO : W.ownsRow base e 1 v n xs) (HR : SlV K W (.slice A m c) ys) (hbase : base ≤ W.heap.size) (hl : (n + ys.length) * bytes ≤ 140737488355328) :
    ∃ v1 w1, (Builtin.append_ #[t, t] tt #[v, .slice A m c]).run P W = .ok v1 w1 ∧ w1.ownsRow base e 1 v1 (n + ys.length) (xs ++ ys) ∧ W.grownBy w1 v.ownBlock ∧ (v1.ownBlock = v.ownBlock ∨ v1.ownBlock = some W.heap.size) := by
  obtain ⟨i0, hi, hzz⟩ := Option.map_eq_some_iff.1 hinfo
  simp only [Prod.mk.injEq] at hzz
  obtain ⟨hz0, hz1, hz2⟩ := hzz
  have hm := HR.len
  have hlen : n + ys.length ≤ 140737488355328 := Nat.le_trans (Nat.le_mul_of_pos_right _ hb0) hl
  rcases Nat.eq_zero_or_pos ys.length with h0 | h0
  · obtain rfl := List.eq_nil_of_length_eq_zero h0
    obtain rfl : m = 0 := hm
    refine ⟨v, W, ?_, by simpa using HO, World.grownBy.refl W _, .inl rfl⟩
    cases A <;> rcases HO.2 with ⟨rfl, hn⟩ | ⟨g, cap, cur, rfl, _, _, hnc, _⟩
    · simp [Builtin.append_, run_underlying ht, sizeOf, typeInfo, hi, Builtin.lenOf, Builtin.firstCells]
    · simp [Builtin.append_, run_underlying ht, sizeOf, typeInfo, hi, Builtin.lenOf, Builtin.firstCells, hnc, storeCells]
    · simp [Builtin.append_, run_underlying ht, sizeOf, typeInfo, hi, Builtin.lenOf, Builtin.firstCells, loadCells, loadCellsFrom]
    · simp [Builtin.append_, run_underlying ht, sizeOf, typeInfo, hi, Builtin.lenOf, Builtin.firstCells, hnc, storeCells, loadCells, loadCellsFrom]
  · obtain ⟨ad, rfl, hc⟩ := HR.addr h0
    obtain ⟨v1, w1, hr, h2, h3, _, h5⟩ := run_append_own_at (P := P) W base t tt e i0 z 1 bytes ht hi hz0 hz1 hz2 hz (by omega) v n xs HO ad m c ys (by omega) hc HR.one (by simp only [maxLen]; omega) (by rw [hm]; exact hl) hbase
    rw [hm] at h2
    exact ⟨v1, w1, hr, h2, h3, h5⟩

section
variable {P : Program} {ops : Array Oper} {o : Oper} {rest : List Oper} {a : Act} {Q : Exit → Act → World → Prop} {KK : Act → World → Prop}
/-- append to a row of the call's own as one step of a region that draws its order -/
theorem step_append_slv {W : World} {E : Prop} (hgd : o.guard = none) (s x : Operand) (t e : TypeId) (z : Value) (bytes : Nat) (ho : o.op = .call { callee := .builtin .append, args := #[s, x], argTypes := #[t, t] })
    (ht : P.underlying t = some (.slice e)) (hinfo : (P.info? e).map (fun i => (i.zero, i.size, i.bytes)) = some (some z, 1, bytes)) (hz : z.cells.size = 1) (hb0 : 0 < bytes)
    (base : Nat) (v : Value) (n : Nat) (xs ys : List Value) (A : Option Addr) (m c : Nat) (K : Nat → Prop) (hs : a.eval s = v) (hx : a.eval x = .slice A m c)
    (HO : W.ownsRow base e 1 v n xs) (HR : SlV K W (.slice A m c) ys) (hbase : base ≤ W.heap.size) (hl : (n + ys.length) * bytes ≤ 140737488355328)
    (h : ∀ v1 w1, w1.ownsRow base e 1 v1 (n + ys.length) (xs ++ ys) → W.grownBy w1 v.ownBlock → (v1.ownBlock = v.ownBlock ∨ v1.ownBlock = some W.heap.size) → KK (a.put o.dst v1) w1) :
    if Region.wanted o (yielded ops a.tmps) = true then Oper.wp P o a W KK Q else E := by
  have hw : Region.wanted o (yielded ops a.tmps) = true := by simp [Region.wanted, hgd]
  rw [if_pos hw]
  obtain ⟨v1, w1, hr, hown, hg, hat⟩ := run_append_slv (P := P) W base t o.type e z bytes ht hinfo hz hb0 v n xs ys A m c K HO HR hbase hl
  unfold Oper.wp execOp
  simp only [ho, resolve, invoke, builtin, Sem.run_bind, Sem.run_pure, Result.andThen_ok, List.map_toArray, List.map_cons, List.map_nil, hs, hx, hr]
  exact h v1 w1 hown hg hat

/-- append to a row of the call's own in a plain region -/
theorem wpList_append_slv {W : World} (hgd : o.guard = none) (s x : Operand) (t e : TypeId) (z : Value) (bytes : Nat) (ho : o.op = .call { callee := .builtin .append, args := #[s, x], argTypes := #[t, t] })
    (ht : P.underlying t = some (.slice e)) (hinfo : (P.info? e).map (fun i => (i.zero, i.size, i.bytes)) = some (some z, 1, bytes)) (hz : z.cells.size = 1) (hb0 : 0 < bytes)
    (base : Nat) (v : Value) (n : Nat) (xs ys : List Value) (A : Option Addr) (m c : Nat) (K : Nat → Prop) (hs : a.eval s = v) (hx : a.eval x = .slice A m c)
    (HO : W.ownsRow base e 1 v n xs) (HR : SlV K W (.slice A m c) ys) (hbase : base ≤ W.heap.size) (hl : (n + ys.length) * bytes ≤ 140737488355328)
    (h : ∀ v1 w1, w1.ownsRow base e 1 v1 (n + ys.length) (xs ++ ys) → W.grownBy w1 v.ownBlock → (v1.ownBlock = v.ownBlock ∨ v1.ownBlock = some W.heap.size) → wpList P ops Q rest (a.put o.dst v1) w1) :
    wpList P ops Q (o :: rest) a W := by
  obtain ⟨v1, w1, hr, hown, hg, hat⟩ := run_append_slv (P := P) W base t o.type e z bytes ht hinfo hz hb0 v n xs ys A m c K HO HR hbase hl
  refine wpList_plain hgd fun K hK => ?_
  unfold Oper.wp execOp
  simp only [ho, resolve, invoke, builtin, Sem.run_bind, Sem.run_pure, Result.andThen_ok, List.map_toArray, List.map_cons, List.map_nil, hs, hx, hr]
  exact hK _ _ (h v1 w1 hown hg hat)
end

/-- what an append to a row of the call's own leaves of elder worlds -/
theorem below_grown {w W w1 : World} {base : Nat} {e : TypeId} {size n : Nat} {v : Value} {xs : List Value} (h : Below w.heap.size w W) (hg : W.grownBy w1 v.ownBlock) (ho : W.ownsRow base e size v n xs) (hb : w.heap.size ≤ base) : Below w.heap.size w w1 :=
  h.grown hg h.size fun k hk => Nat.le_trans hb (own_base ho k hk)
end Go.Proofs.Ytmoakgacffjblaa.Mem
end

section
namespace Go.Proofs.Ytmoakgacffjblaa.Pv
open Go Go.RowKit Go.Proofs.Ytmoakgacffjblaa.Mem Go.Proofs.YtmoakgacffjblaaW.PrintWords

theorem info_int : (Try.prog.info? 3).map (fun i => (i.zero, i.size, i.bytes)) = some (some (.int .i64 0), 1, 8) := by kernel_rfl
theorem size_int : (Try.prog.info? 3).map (·.size) = some 1 := by kernel_rfl
theorem info_ptr : (Try.prog.info? 23).map (fun i => (i.zero, i.size, i.bytes)) = some (some (.pointer none), 1, 8) := by kernel_rfl
theorem size_ptr : (Try.prog.info? 23).map (·.size) = some 1 := by kernel_rfl

set_option maxHeartbeats 1000000 in
theorem grown_int (A : Option Addr) (c : Nat) (xs : List Value) (x : Int) (w : World) (K : Nat → Prop) (h : SlV K w (.slice A xs.length c) xs) (hn : xs.length ≤ 1000000) :
    Calls Try.prog 27 #[.slice A xs.length c, .int .i64 x] w (Ret (fun v w' => SlV (Fresh w) w' v (xs ++ [.int .i64 x])) w) := by
  obtain ⟨i0, hi, hz0, hz1, hz2⟩ := info_parts info_int
  have hmk : ∀ W, (Instr.makeSlice 24 (.int .i64 ((xs.length : Int) + 1)) (.int .i64 ((xs.length : Int) + 1))).run Try.prog W = .ok (.slice (some ⟨W.heap.size, 0, none⟩) (xs.length + 1) (xs.length + 1)) (W.alloc (.cells (Array.replicate (xs.length + 1) (.int .i64 0)) 3)) := by
    intro W
    have := run_make (P := Try.prog) W 24 3 i0 (.int .i64 0) Try.underlying24 hi hz0 .i64 .i64 ((xs.length : Int) + 1) ((xs.length : Int) + 1) (by omega) (Int.le_refl _) (by rw [hz2]; omega) (by omega)
    rw [hz1, Nat.mul_one, show Value.cells (.int .i64 0) = #[(.int .i64 0)] from rfl, madeCells_one] at this
    exact this
  have hone : ∀ u ∈ xs ++ [Value.int .i64 x], u.oneCell' = true := by
    have h4 := h.one
    intro u hu
    rcases List.mem_append.1 hu with hu | hu
    · exact h4 u hu
    · rw [List.mem_singleton.1 hu]; rfl
  have HO := Lib.hid hone; clear hone
  have HX := Lib.hid h; clear h
  clear hi hz0 hz1 hz2 i0
  go_enter Try.func27, Try.ntmps27
  go_wp2_with ((with_reducible show wpList _ _ _ (⟨some 12, _, _, _, _, _⟩ :: _) _ _); refine wpList_copy_fresh rfl (.tmp 10) (.tmp 11) 24 rfl 3 Try.underlying24 size_int A xs.length c (xs.length + 1) (xs.length + 1) (.int .i64 0) xs rfl rfl K HX.out (Nat.le_succ _) ?_; intro w2 hg2 hb2; have hcx : w2.cell? ⟨w.heap.size, xs.length, none⟩ = some (.int .i64 0) := (by rw [blk_cell hg2.out]; simp); have hfx := blk_frozen hg2.out xs.length)
  go_returns
  refine ⟨_, rfl, ?_, hb2.setCell (Nat.le_refl _) _⟩
  have hb := hg2.out
  rw [show xs.length + 1 - xs.length = 1 by omega] at hb
  have hs := blk_set hb xs.length (.int .i64 x)
  have := SlV.blk (K := Fresh w) (xs := xs ++ [.int .i64 x]) (c := xs.length + 1) hs (fun j u hu => by simpa using hu) (by simp) (by simp [maxLen]; omega) HO.out (Nat.le_refl _ : Fresh w w.heap.size)
  simpa using this

set_option maxHeartbeats 1000000 in
theorem grown_ptr (A : Option Addr) (c : Nat) (xs : List Value) (x : Option Addr) (w : World) (K : Nat → Prop) (h : SlV K w (.slice A xs.length c) xs) (hn : xs.length ≤ 1000000) :
    Calls Try.prog 41 #[.slice A xs.length c, .pointer x] w (Ret (fun v w' => SlV (Fresh w) w' v (xs ++ [.pointer x])) w) := by
  obtain ⟨i0, hi, hz0, hz1, hz2⟩ := info_parts info_ptr
  have hmk : ∀ W, (Instr.makeSlice 62 (.int .i64 ((xs.length : Int) + 1)) (.int .i64 ((xs.length : Int) + 1))).run Try.prog W = .ok (.slice (some ⟨W.heap.size, 0, none⟩) (xs.length + 1) (xs.length + 1)) (W.alloc (.cells (Array.replicate (xs.length + 1) (.pointer none)) 23)) := by
    intro W
    have := run_make (P := Try.prog) W 62 23 i0 (.pointer none) Try.underlying62 hi hz0 .i64 .i64 ((xs.length : Int) + 1) ((xs.length : Int) + 1) (by omega) (Int.le_refl _) (by rw [hz2]; omega) (by omega)
    rw [hz1, Nat.mul_one, show Value.cells (.pointer none) = #[(.pointer none)] from rfl, madeCells_one] at this
    exact this
  have hone : ∀ u ∈ xs ++ [Value.pointer x], u.oneCell' = true := by
    have h4 := h.one
    intro u hu
    rcases List.mem_append.1 hu with hu | hu
    · exact h4 u hu
    · rw [List.mem_singleton.1 hu]; rfl
  have HO := Lib.hid hone; clear hone
  have HX := Lib.hid h; clear h
  clear hi hz0 hz1 hz2 i0
  go_enter Try.func41, Try.ntmps41
  go_wp2_with ((with_reducible show wpList _ _ _ (⟨some 12, _, _, _, _, _⟩ :: _) _ _); refine wpList_copy_fresh rfl (.tmp 10) (.tmp 11) 62 rfl 23 Try.underlying62 size_ptr A xs.length c (xs.length + 1) (xs.length + 1) (.pointer none) xs rfl rfl K HX.out (Nat.le_succ _) ?_; intro w2 hg2 hb2; have hcx : w2.cell? ⟨w.heap.size, xs.length, none⟩ = some (.pointer none) := (by rw [blk_cell hg2.out]; simp); have hfx := blk_frozen hg2.out xs.length)
  go_returns
  refine ⟨_, rfl, ?_, hb2.setCell (Nat.le_refl _) _⟩
  have hb := hg2.out
  rw [show xs.length + 1 - xs.length = 1 by omega] at hb
  have hs := blk_set hb xs.length (.pointer x)
  have := SlV.blk (K := Fresh w) (xs := xs ++ [.pointer x]) (c := xs.length + 1) hs (fun j u hu => by simpa using hu) (by simp) (by simp [maxLen]; omega) HO.out (Nat.le_refl _ : Fresh w w.heap.size)
  simpa using this

set_option maxHeartbeats 1000000 in
theorem turned_int (A : Option Addr) (c : Nat) (xs : List Value) (i : Nat) (x : Int) (w : World) (K : Nat → Prop) (h : SlV K w (.slice A xs.length c) xs) (hi : i < xs.length) (hn : xs.length ≤ 1000000) :
    Calls Try.prog 38 #[.slice A xs.length c, .int .i64 (i : Int), .int .i64 x] w (Ret (fun v w' => SlV (Fresh w) w' v (xs.set i (.int .i64 x))) w) := by
  have hI := hi
  obtain ⟨i0, hi, hz0, hz1, hz2⟩ := info_parts info_int
  have hmk : ∀ W, (Instr.makeSlice 24 (.int .i64 ((xs.length : Int))) (.int .i64 ((xs.length : Int)))).run Try.prog W = .ok (.slice (some ⟨W.heap.size, 0, none⟩) (xs.length) (xs.length)) (W.alloc (.cells (Array.replicate (xs.length) (.int .i64 0)) 3)) := by
    intro W
    have := run_make (P := Try.prog) W 24 3 i0 (.int .i64 0) Try.underlying24 hi hz0 .i64 .i64 ((xs.length : Int)) ((xs.length : Int)) (by omega) (Int.le_refl _) (by rw [hz2]; omega) (by omega)
    rw [hz1, Nat.mul_one, show Value.cells (.int .i64 0) = #[(.int .i64 0)] from rfl, madeCells_one] at this
    exact this
  have hone : ∀ u ∈ xs.set i (Value.int .i64 x), u.oneCell' = true := by
    have h4 := h.one
    intro u hu
    rcases List.mem_or_eq_of_mem_set hu with hu | hu
    · exact h4 u hu
    · rw [hu]; rfl
  have HO := Lib.hid hone; clear hone
  have HX := Lib.hid h; clear h
  clear hi hz0 hz1 hz2 i0
  have hi : i < xs.length := hI
  clear hI
  obtain ⟨u0, hu0⟩ : ∃ u0, xs[i]? = some u0 := ⟨_, List.getElem?_eq_getElem hi⟩
  have HU := Lib.hid hu0; clear hu0
  go_enter Try.func38, Try.ntmps38
  go_wp2_with ((with_reducible show wpList _ _ _ (⟨some 13, _, _, _, _, _⟩ :: _) _ _); refine wpList_copy_fresh rfl (.tmp 11) (.tmp 12) 24 rfl 3 Try.underlying24 size_int A xs.length c xs.length xs.length (.int .i64 0) xs rfl rfl K HX.out (Nat.le_refl _) ?_; intro w2 hg2 hb2; have hcx : w2.cell? ⟨w.heap.size, i, none⟩ = some u0 := (by rw [blk_cell hg2.out]; simpa using HU.out); have hfx := blk_frozen hg2.out i)
  go_returns
  refine ⟨_, rfl, ?_, hb2.setCell (Nat.le_refl _) _⟩
  have hb := hg2.out
  rw [show xs.length - xs.length = 0 by omega, List.replicate_zero, List.append_nil] at hb
  have hs := blk_set hb i (.int .i64 x)
  have := SlV.blk (K := Fresh w) (xs := xs.set i (.int .i64 x)) (c := xs.length) hs (fun j u hu => by simpa using hu) (by simp) (by simp [maxLen]; omega) HO.out (Nat.le_refl _ : Fresh w w.heap.size)
  simpa using this

set_option maxHeartbeats 1000000 in
theorem turned_ptr (A : Option Addr) (c : Nat) (xs : List Value) (i : Nat) (x : Option Addr) (w : World) (K : Nat → Prop) (h : SlV K w (.slice A xs.length c) xs) (hi : i < xs.length) (hn : xs.length ≤ 1000000) :
    Calls Try.prog 40 #[.slice A xs.length c, .int .i64 (i : Int), .pointer x] w (Ret (fun v w' => SlV (Fresh w) w' v (xs.set i (.pointer x))) w) := by
  have hI := hi
  obtain ⟨i0, hi, hz0, hz1, hz2⟩ := info_parts info_ptr
  have hmk : ∀ W, (Instr.makeSlice 62 (.int .i64 ((xs.length : Int))) (.int .i64 ((xs.length : Int)))).run Try.prog W = .ok (.slice (some ⟨W.heap.size, 0, none⟩) (xs.length) (xs.length)) (W.alloc (.cells (Array.replicate (xs.length) (.pointer none)) 23)) := by
    intro W
    have := run_make (P := Try.prog) W 62 23 i0 (.pointer none) Try.underlying62 hi hz0 .i64 .i64 ((xs.length : Int)) ((xs.length : Int)) (by omega) (Int.le_refl _) (by rw [hz2]; omega) (by omega)
    rw [hz1, Nat.mul_one, show Value.cells (.pointer none) = #[(.pointer none)] from rfl, madeCells_one] at this
    exact this
  have hone : ∀ u ∈ xs.set i (Value.pointer x), u.oneCell' = true := by
    have h4 := h.one
    intro u hu
    rcases List.mem_or_eq_of_mem_set hu with hu | hu
    · exact h4 u hu
    · rw [hu]; rfl
  have HO := Lib.hid hone; clear hone
  have HX := Lib.hid h; clear h
  clear hi hz0 hz1 hz2 i0
  have hi : i < xs.length := hI
  clear hI
  obtain ⟨u0, hu0⟩ : ∃ u0, xs[i]? = some u0 := ⟨_, List.getElem?_eq_getElem hi⟩
  have HU := Lib.hid hu0; clear hu0
  go_enter Try.func40, Try.ntmps40
  go_wp2_with ((with_reducible show wpList _ _ _ (⟨some 13, _, _, _, _, _⟩ :: _) _ _); refine wpList_copy_fresh rfl (.tmp 11) (.tmp 12) 62 rfl 23 Try.underlying62 size_ptr A xs.length c xs.length xs.length (.pointer none) xs rfl rfl K HX.out (Nat.le_refl _) ?_; intro w2 hg2 hb2; have hcx : w2.cell? ⟨w.heap.size, i, none⟩ = some u0 := (by rw [blk_cell hg2.out]; simpa using HU.out); have hfx := blk_frozen hg2.out i)
  go_returns
  refine ⟨_, rfl, ?_, hb2.setCell (Nat.le_refl _) _⟩
  have hb := hg2.out
  rw [show xs.length - xs.length = 0 by omega, List.replicate_zero, List.append_nil] at hb
  have hs := blk_set hb i (.pointer x)
  have := SlV.blk (K := Fresh w) (xs := xs.set i (.pointer x)) (c := xs.length) hs (fun j u hu => by simpa using hu) (by simp) (by simp [maxLen]; omega) HO.out (Nat.le_refl _ : Fresh w w.heap.size)
  simpa using this

theorem grown_int_n (A : Option Addr) (n c : Nat) (xs : List Value) (x : Int) (w : World) (K : Nat → Prop) (h : SlV K w (.slice A n c) xs) (hn : xs.length ≤ 1000000) :
    Calls Try.prog 27 #[.slice A n c, .int .i64 x] w (Ret (fun v w' => SlV (Fresh w) w' v (xs ++ [.int .i64 x])) w) := by
  obtain rfl := h.len; exact grown_int A c xs x w K h hn
theorem turned_int_n (A : Option Addr) (n c : Nat) (xs : List Value) (i : Nat) (I : Int) (x : Int) (w : World) (hI : I = (i : Int)) (K : Nat → Prop) (h : SlV K w (.slice A n c) xs) (hi : i < xs.length) (hn : xs.length ≤ 1000000) :
    Calls Try.prog 38 #[.slice A n c, .int .i64 I, .int .i64 x] w (Ret (fun v w' => SlV (Fresh w) w' v (xs.set i (.int .i64 x))) w) := by
  obtain rfl := h.len; subst hI; exact turned_int A c xs i x w K h hi hn

theorem grown_ptr_n (A : Option Addr) (n c : Nat) (xs : List Value) (x : Option Addr) (w : World) (K : Nat → Prop) (h : SlV K w (.slice A n c) xs) (hn : xs.length ≤ 1000000) :
    Calls Try.prog 41 #[.slice A n c, .pointer x] w (Ret (fun v w' => SlV (Fresh w) w' v (xs ++ [.pointer x])) w) := by
  obtain rfl := h.len; exact grown_ptr A c xs x w K h hn
theorem turned_ptr_n (A : Option Addr) (n c : Nat) (xs : List Value) (i : Nat) (I : Int) (x : Option Addr) (w : World) (hI : I = (i : Int)) (K : Nat → Prop) (h : SlV K w (.slice A n c) xs) (hi : i < xs.length) (hn : xs.length ≤ 1000000) :
    Calls Try.prog 40 #[.slice A n c, .int .i64 I, .pointer x] w (Ret (fun v w' => SlV (Fresh w) w' v (xs.set i (.pointer x))) w) := by
  obtain rfl := h.len; subst hI; exact turned_ptr A c xs i x w K h hi hn
end Go.Proofs.Ytmoakgacffjblaa.Pv
end

section
namespace Go.Proofs.Ytmoakgacffjblaa.Pv
open Go Go.RowKit Go.Proofs.Ytmoakgacffjblaa.Mem Go.Proofs.YtmoakgacffjblaaW.PrintWords

abbrev ints (xs : List Int) : List Value := xs.map (Value.int .i64)
abbrev ptrs (ps : List (Option Addr)) : List Value := ps.map Value.pointer

/-- what a node of a level tells: its things; all its blocks are of K -/
def NRep (K : Nat → Prop) (w : World) : Nat → Option Addr → List Int → Prop
  | 0, _, _ => False
  | 1, p, xs => ∃ (g : Nat) (s : Value), p = some ⟨g, 0, none⟩ ∧ K g ∧ w.heap[g]? = some (.cells #[.slice none 0 0, s] 64 (0, 0)) ∧ SlV K w s (ints xs) ∧ xs.length = 32
  | d + 2, p, xs => ∃ (g : Nat) (s : Value) (ps : List (Option Addr)) (yss : List (List Int)), p = some ⟨g, 0, none⟩ ∧ K g ∧ w.heap[g]? = some (.cells #[s, .slice none 0 0] 64 (0, 0)) ∧ SlV K w s (ptrs ps) ∧ ps.length = yss.length ∧
      (∀ (i : Nat) q ys, ps[i]? = some q → yss[i]? = some ys → NRep K w (d + 1) q ys) ∧ xs = yss.flatten ∧ 1 ≤ yss.length ∧ yss.length ≤ 32 ∧
      (∀ (i : Nat) ys, yss[i]? = some ys → i + 1 < yss.length → ys.length = 32 ^ (d + 1))

theorem blk_lt' {w : World} {g : Nat} {o : Obj} (h : w.heap[g]? = some o) : g < w.heap.size := blk_lt h

theorem NRep.keep {K K' : Nat → Prop} {w w' : World} (hK : ∀ b, K b → K' b) (hb : ∀ b, K b → b < w.heap.size → w'.heap[b]? = w.heap[b]?) : ∀ {d : Nat} {p : Option Addr} {xs : List Int}, NRep K w d p xs → NRep K' w' d p xs
  | 0, _, _, h => h.elim
  | 1, _, _, ⟨g, s, h1, hk, h2, h3, h4⟩ => ⟨g, s, h1, hK _ hk, (hb g hk (blk_lt h2)).trans h2, (h3.keep hb).mono hK, h4⟩
  | d + 2, _, _, ⟨g, s, ps, yss, h1, hk, h2, h3, h4, h5, h6⟩ => ⟨g, s, ps, yss, h1, hK _ hk, (hb g hk (blk_lt h2)).trans h2, (h3.keep hb).mono hK, h4, fun i q ys hq hy => NRep.keep hK hb (h5 i q ys hq hy), h6⟩

theorem NRep.below {K : Nat → Prop} {w w' : World} (hb : Below w.heap.size w w') {d : Nat} {p : Option Addr} {xs : List Int} (h : NRep K w d p xs) : NRep K w' d p xs := NRep.keep (fun _ h => h) (fun b _ hlt => hb.block b hlt) h
theorem NRep.mono {K K' : Nat → Prop} {w : World} {d : Nat} {p : Option Addr} {xs : List Int} (h : NRep K w d p xs) (hK : ∀ b, K b → K' b) : NRep K' w d p xs := NRep.keep hK (fun _ _ _ => rfl) h
theorem NRep.new {K : Nat → Prop} {w w0 : World} {d : Nat} {p : Option Addr} {xs : List Int} (h : NRep K w d p xs) : NRep (New K w0) w d p xs := h.mono fun _ h => Or.inl h

theorem and31_i64 (i : Nat) (hi : i ≤ 1000000000) : Go.bits .and .i64 (i : Int) 31 = ((i % 32 : Nat) : Int) := by
  have := bits_mask .i64 63 (by decide) (fun n h0 h1 => by rw [IntKind.wrap_i64]; omega) 5 (by decide) (i : Int) (by omega) (by omega)
  rw [show ((2 : Int) ^ 5 - 1) = 31 by decide, show ((2 : Int) ^ 5) = 32 by decide] at this
  rw [this]; omega

set_option maxHeartbeats 1000000 in
theorem way_c (leaf d : Nat) (level : Int) (hl : level = (d : Int) + 2) (hd : d ≤ 10) (hn : leaf ≤ 1000000000) (w : World) :
    Calls Try.prog 34 #[.int .i64 (leaf : Int), .int .i64 level] w fun e w' => e = .returned (.int .i64 ((leaf / 32 ^ d % 32 : Nat) : Int)) ∧ w = w' := by
  subst hl
  have hp : ((leaf : Int) / 2 ^ (5 * d)) = ((leaf / 32 ^ d : Nat) : Int) := by
    have e : (2 : Int) ^ (5 * d) = ((32 ^ d : Nat) : Int) := by
      rw [show (32 : Nat) ^ d = 2 ^ (5 * d) by rw [Nat.pow_mul]]; push_cast; rfl
    rw [e, Int.natCast_ediv]
  have hb := and31_i64 (leaf / 32 ^ d) (by have := Nat.div_le_self leaf (32 ^ d); omega)
  have HP := Lib.hid hp; clear hp
  have HB := Lib.hid hb; clear hb
  go_enter Try.func34, Try.ntmps34
  go_wp2
  go_ret
  exact ⟨by rw [← HB.out, ← HP.out]; rfl, rfl⟩
end Go.Proofs.Ytmoakgacffjblaa.Pv
end

section
namespace Go.Proofs.Ytmoakgacffjblaa.Pv

/-- all lists but the last one have B things; none has none, or more -/
def Uni (B : Nat) (yss : List (List Int)) : Prop :=
  (∀ (i : Nat) (ys : List Int), yss[i]? = some ys → i + 1 < yss.length → ys.length = B) ∧ ∀ (i : Nat) (ys : List Int), yss[i]? = some ys → 1 ≤ ys.length ∧ ys.length ≤ B

theorem Uni.tail {B : Nat} {y : List Int} {yss : List (List Int)} (h : Uni B (y :: yss)) : Uni B yss :=
  ⟨fun i ys hi hl => h.1 (i + 1) ys (by simpa using hi) (by simp; omega), fun i ys hi => h.2 (i + 1) ys (by simpa using hi)⟩
theorem Uni.head {B : Nat} {y : List Int} {yss : List (List Int)} (h : Uni B (y :: yss)) : 1 ≤ y.length ∧ y.length ≤ B := h.2 0 y rfl
theorem Uni.head' {B : Nat} {y z : List Int} {yss : List (List Int)} (h : Uni B (y :: z :: yss)) : y.length = B := h.1 0 y rfl (by simp)

theorem flat_get {B : Nat} (hB : 0 < B) : ∀ (yss : List (List Int)), Uni B yss → ∀ i, i < yss.flatten.length → ∃ ys, yss[i / B]? = some ys ∧ i % B < ys.length ∧ yss.flatten[i]? = ys[i % B]?
  | [], _, i, h => by simp at h
  | [y], hu, i, h => by
    have h' : i < y.length := by simpa using h
    have := hu.head
    exact ⟨y, by rw [Nat.div_eq_of_lt (by omega)]; rfl, by rw [Nat.mod_eq_of_lt (by omega)]; exact h', by rw [Nat.mod_eq_of_lt (by omega)]; simp⟩
  | y :: z :: yss, hu, i, h => by
    have hy := hu.head'
    rw [List.flatten_cons] at h ⊢
    by_cases hi : i < B
    · exact ⟨y, by rw [Nat.div_eq_of_lt hi]; rfl, by rw [Nat.mod_eq_of_lt hi]; omega, by rw [Nat.mod_eq_of_lt hi, List.getElem?_append_left (by omega)]⟩
    · obtain ⟨ys, h1, h2, h3⟩ := flat_get hB (z :: yss) hu.tail (i - B) (by rw [List.length_append] at h; omega)
      have e1 : i / B = (i - B) / B + 1 := by
        conv => lhs; rw [show i = i - B + B by omega]
        exact Nat.add_div_right _ hB
      have e2 : i % B = (i - B) % B := by
        conv => lhs; rw [show i = i - B + B by omega]
        exact Nat.add_mod_right _ _
      exact ⟨ys, by rw [e1]; exact h1, by rw [e2]; exact h2, by rw [e2, List.getElem?_append_right (by omega), hy]; exact h3⟩

theorem flat_set {B : Nat} (hB : 0 < B) (x : Int) : ∀ (yss : List (List Int)), Uni B yss → ∀ i, i < yss.flatten.length → ∀ ys, yss[i / B]? = some ys → yss.flatten.set i x = (yss.set (i / B) (ys.set (i % B) x)).flatten
  | [], _, i, h, _, _ => by simp at h
  | [y], hu, i, h, ys, hy => by
    have h' : i < y.length := by simpa using h
    have := hu.head
    rw [Nat.div_eq_of_lt (by omega)] at hy ⊢
    rw [Nat.mod_eq_of_lt (by omega)]
    simp at hy
    subst hy
    simp
  | y :: z :: yss, hu, i, h, ys, hys => by
    have hy := hu.head'
    rw [List.flatten_cons] at h ⊢
    by_cases hi : i < B
    · rw [Nat.div_eq_of_lt hi] at hys ⊢
      rw [Nat.mod_eq_of_lt hi]
      simp at hys
      subst hys
      rw [List.set_append_left _ _ (by omega)]; simp
    · have e1 : i / B = (i - B) / B + 1 := by
        conv => lhs; rw [show i = i - B + B by omega]
        exact Nat.add_div_right _ hB
      have e2 : i % B = (i - B) % B := by
        conv => lhs; rw [show i = i - B + B by omega]
        exact Nat.add_mod_right _ _
      rw [e1] at hys ⊢
      rw [e2]
      have := flat_set hB x (z :: yss) hu.tail (i - B) (by rw [List.length_append] at h; omega) ys (by simpa using hys)
      rw [List.set_append_right _ _ (by omega), hy, this]
      simp

theorem flat_len {B : Nat} : ∀ (yss : List (List Int)), Uni B yss → 1 ≤ yss.length → (yss.length - 1) * B < yss.flatten.length ∧ yss.flatten.length ≤ yss.length * B
  | [], _, h => by simp at h
  | [y], hu, _ => by have := hu.head; simp; omega
  | y :: z :: yss, hu, _ => by
    have hy := hu.head'
    obtain ⟨h1, h2⟩ := flat_len (z :: yss) hu.tail (by simp)
    rw [List.flatten_cons, List.length_append, hy]
    simp only [List.length_cons] at h1 h2 ⊢
    rw [show yss.length + 1 + 1 - 1 = (yss.length + 1 - 1) + 1 by omega, Nat.succ_mul, Nat.succ_mul (yss.length + 1)]
    omega

/-- another list of the same length at a place -/
theorem Uni.set {B : Nat} {yss : List (List Int)} (h : Uni B yss) {k : Nat} {ys zs : List Int} (hk : yss[k]? = some ys) (hl : zs.length = ys.length) : Uni B (yss.set k zs) := by
  have hkl : k < yss.length := (List.getElem?_eq_some_iff.1 hk).1
  refine ⟨fun i w hw hi => ?_, fun i w hw => ?_⟩
  · rw [List.length_set] at hi
    by_cases e : k = i
    · subst e
      rw [List.getElem?_set_self hkl] at hw
      injection hw with hw
      rw [← hw, hl]; exact h.1 k ys hk hi
    · rw [List.getElem?_set_ne e] at hw; exact h.1 i w hw hi
  · by_cases e : k = i
    · subst e
      rw [List.getElem?_set_self hkl] at hw
      injection hw with hw
      rw [← hw, hl]; exact h.2 k ys hk
    · rw [List.getElem?_set_ne e] at hw; exact h.2 i w hw
end Go.Proofs.Ytmoakgacffjblaa.Pv
end

section
namespace Go.Proofs.Ytmoakgacffjblaa.Pv
open Go Go.RowKit Go.Proofs.Ytmoakgacffjblaa.Mem Go.Proofs.YtmoakgacffjblaaW.PrintWords

theorem NRep.len {K : Nat → Prop} {w : World} : ∀ {d : Nat} {p : Option Addr} {xs : List Int}, NRep K w d p xs → 1 ≤ xs.length ∧ xs.length ≤ 32 ^ d
  | 0, _, _, h => h.elim
  | 1, _, _, ⟨g, s, _, _, _, _, h⟩ => by simp [h]
  | d + 2, _, _, ⟨g, s, ps, yss, _, _, _, _, h4, h5, rfl, h6, h7, h8⟩ => by
    have hu : Uni (32 ^ (d + 1)) yss := ⟨h8, fun i ys hi => by
      obtain ⟨hlt, _⟩ := List.getElem?_eq_some_iff.1 hi
      exact NRep.len (h5 i (ps[i]'(by omega)) ys (List.getElem?_eq_getElem (by omega)) hi)⟩
    have := flat_len yss hu h6
    refine ⟨by omega, Nat.le_trans this.2 ?_⟩
    rw [Nat.pow_succ 32 (d + 1), Nat.mul_comm]
    exact Nat.mul_le_mul_left _ h7

theorem kids_uni {K : Nat → Prop} {w : World} {d : Nat} {ps : List (Option Addr)} {yss : List (List Int)} (h4 : ps.length = yss.length)
    (h5 : ∀ (i : Nat) q ys, ps[i]? = some q → yss[i]? = some ys → NRep K w (d + 1) q ys) (h8 : ∀ (i : Nat) ys, yss[i]? = some ys → i + 1 < yss.length → ys.length = 32 ^ (d + 1)) : Uni (32 ^ (d + 1)) yss :=
  ⟨h8, fun i ys hi => by
    obtain ⟨hlt, _⟩ := List.getElem?_eq_some_iff.1 hi
    exact NRep.len (h5 i (ps[i]'(by omega)) ys (List.getElem?_eq_getElem (by omega)) hi)⟩

/-- what set gives -/
def SetP (K : Nat → Prop) (d : Nat) (zs : List Int) (v : Value) (w' : World) : Prop := ∃ q, v = .pointer q ∧ NRep K w' d q zs

set_option maxHeartbeats 2000000 in
theorem set_leaf (K : Nat → Prop) (p : Option Addr) (xs : List Int) (i : Nat) (x : Int) (w : World) (h : NRep K w 1 p xs) (hi : i ≤ 1000000000) :
    Calls Try.prog 39 #[.pointer p, .int .i64 1, .int .i64 (i : Int), .int .i64 x] w (Ret (SetP (New K w) 1 (xs.set (i % 32) x)) w) := by
  obtain ⟨g, s, rfl, hK, hg, hs, hl⟩ := h
  obtain ⟨A, n, c, rfl⟩ := hs.form
  have hc1 := (blk_cell hg 1)
  simp at hc1
  have hb := and31_i64 i hi
  have ht := fun w' (hw : Below w.heap.size w w') => turned_int_n A n c (ints xs) (i % 32) ((i : Int) % 32) x w' (by omega) K (hs.below hw) (by simp [hl]; omega) (by simp [hl])
  have HT := Lib.hid ht; clear ht
  have HL := Lib.hid hl; clear hl
  clear hs hg
  go_enter Try.func39, Try.ntmps39
  go_wp2_with (go_at_call 38; (with_reducible refine (HT.out _ (Below.refl _ _)).mono ?_); rintro e w1 ⟨v, rfl, hP, hb1⟩; obtain ⟨A', n', c', rfl⟩ := hP.form)
  go_returns
  refine ⟨_, rfl, ⟨_, rfl, w1.heap.size, _, rfl, New.fresh hb1.size, heap_alloc_new _ _, ?_, by rw [List.length_set]; exact HL.out⟩, hb1.alloc hb1.size _⟩
  have := (hP.mono fun _ h => New.fresh (K := K) h).below ((Below.refl _ _).alloc (Nat.le_refl _) (.cells #[.slice none 0 0, .slice A' n' c'] 64))
  show SlV _ _ _ ((xs.set (i % 32) x).map (Value.int .i64))
  rw [List.map_set]
  exact this

set_option maxHeartbeats 4000000 in
theorem set_inner (K : Nat → Prop) (d : Nat) (hd : d ≤ 9)
    (ih : ∀ (L : Int) (p : Option Addr) (xs : List Int) (i : Nat) (x : Int) (w : World), L = (d : Int) + 1 → NRep K w (d + 1) p xs → i ≤ 1000000000 → i % 32 ^ (d + 1) < xs.length →
      Calls Try.prog 39 #[.pointer p, .int .i64 L, .int .i64 (i : Int), .int .i64 x] w (Ret (SetP (New K w) (d + 1) (xs.set (i % 32 ^ (d + 1)) x)) w))
    (L : Int) (p : Option Addr) (xs : List Int) (i : Nat) (x : Int) (w : World) (hL : L = (d : Int) + 2) (h : NRep K w (d + 2) p xs) (hi : i ≤ 1000000000) (hx : i % 32 ^ (d + 2) < xs.length) :
    Calls Try.prog 39 #[.pointer p, .int .i64 L, .int .i64 (i : Int), .int .i64 x] w (Ret (SetP (New K w) (d + 2) (xs.set (i % 32 ^ (d + 2)) x)) w) := by
  subst hL
  obtain ⟨g, s, ps, yss, rfl, hK, hg, hs, h4, h5, rfl, h6, h7, h8⟩ := h
  have hu := kids_uni h4 h5 h8
  have hB : 0 < 32 ^ (d + 1) := Nat.pow_pos (by decide)
  obtain ⟨ys, hy, hlt, _⟩ := flat_get hB yss hu _ hx
  have hset := flat_set hB x yss hu _ hx ys hy
  have e32 : 32 ^ (d + 2) = 32 ^ (d + 1) * 32 := Nat.pow_succ ..
  have ek : i % 32 ^ (d + 2) / 32 ^ (d + 1) = i / 32 ^ (d + 1) % 32 := by rw [e32, Nat.mod_mul_right_div_self]
  have em : i % 32 ^ (d + 2) % 32 ^ (d + 1) = i % 32 ^ (d + 1) := by rw [e32, Nat.mod_mul_right_mod]
  rw [ek] at hy hset
  rw [em] at hlt hset
  have ew : i / 32 / 32 ^ d % 32 = i / 32 ^ (d + 1) % 32 := by rw [Nat.div_div_eq_div_mul, Nat.pow_succ, Nat.mul_comm 32]
  obtain ⟨A, n, c, rfl⟩ := hs.form
  have hn : n = ps.length := by have := hs.len; simpa using this
  generalize hk : i / 32 ^ (d + 1) % 32 = k at *
  have hkl : k < yss.length := (List.getElem?_eq_some_iff.1 hy).1
  have hkp : k < ps.length := by omega
  obtain ⟨q, hq⟩ : ∃ q, ps[k]? = some q := ⟨_, List.getElem?_eq_getElem hkp⟩
  have hN := h5 k q ys hq hy
  obtain ⟨ad, rfl, hcell⟩ := hs.addr (by simp; omega)
  have hkc : w.cell? (ad.add k) = some (.pointer q) := hcell k _ (by simp [hq])
  have hc0 := blk_cell hg 0
  simp at hc0
  have hm := fun W => way_c (i / 32) d ((d : Int) + 2) rfl (by omega) (by omega) W
  rw [ew] at hm
  have hcall := fun w' (L : Int) (hL : L = (d : Int) + 1) (hw : Below w.heap.size w w') => ih L q ys i x w' hL (hN.below hw) hi hlt
  have hwr : IntKind.i64.wrap ((d : Int) + 2 - 1) = (d : Int) + 1 := by rw [IntKind.wrap_i64]; omega
  have HWR := Lib.hid hwr; clear hwr
  have hturn := fun w' (r : Option Addr) (hw : Below w.heap.size w w') => turned_ptr_n (some ad) n c (ptrs ps) k (k : Int) r w' rfl K (hs.below hw) (by simp; omega) (by simp; omega)
  have HM := Lib.hid hm; clear hm
  have HC := Lib.hid hcall; clear hcall
  have HT := Lib.hid hturn; clear hturn
  have hkn : (k : Int) < (n : Int) := by omega
  have hlev : ((d : Int) + 2 == 1) = false := beq_false_of_ne (by omega)
  have FIN : Hid (∀ w3 w4 : World, ∀ r v, SlV (New K w) w3 v ((ptrs ps).set k (.pointer r)) → NRep (New K w) w3 (d + 1) r (ys.set (i % 32 ^ (d + 1)) x) → Below w.heap.size w w3 → w4 = w3.alloc (.cells #[v, .slice none 0 0] 64) → SetP (New K w) (d + 2) (yss.flatten.set (i % 32 ^ (d + 2)) x) (.pointer (some ⟨w3.heap.size, 0, none⟩)) w4) := by
    rintro w3 w4 r v hv hr hb rfl
    have hb4 : Below w3.heap.size w3 (w3.alloc (.cells #[v, .slice none 0 0] 64)) := (Below.refl _ _).alloc (Nat.le_refl _) _
    refine ⟨_, rfl, w3.heap.size, v, ps.set k r, yss.set k (ys.set (i % 32 ^ (d + 1)) x), rfl, New.fresh hb.size, heap_alloc_new _ _, ?_, by simp [h4], fun j q' ys' hq' hy' => ?_, hset, by simpa using h6, by simpa using h7, (hu.set hy (by simp)).1⟩
    · have := hv.below hb4
      show SlV _ _ _ ((ps.set k r).map Value.pointer)
      rw [List.map_set]; exact this
    · by_cases e : k = j
      · subst e
        rw [List.getElem?_set_self hkp] at hq'
        rw [List.getElem?_set_self hkl] at hy'
        injection hq' with hq'; injection hy' with hy'
        subst hq' hy'
        exact hr.below hb4
      · rw [List.getElem?_set_ne e] at hq' hy'
        exact ((h5 j q' ys' hq' hy').new.below hb).below hb4
  clear hset hy hN hq hcell h5 h8 hu hs hg hn h4 h6 h7 ew ek em e32 hlt hx ih hkl hkp
  go_enter Try.func39, Try.ntmps39
  go_wp2_with (go_at_call 34; ((refine (HM.out _).mono ?_); rintro e w1 ⟨rfl, rfl⟩))
  go_region_held3 (fun w' => w'.cell? ⟨g, 0, none⟩ = some (.slice (some ad) n c) ∧ w'.cell? (ad.add k) = some (.pointer q) ∧ Below w.heap.size w w')
    ((go_split_ands; refine ⟨?_, ?_, ?_⟩ <;> first | (go_keep; done) | exact cell_below (by assumption) (by assumption) | exact (Below.refl _ _).drew | exact Below.drew (by assumption) | exact below_trans (by assumption) (by assumption) | exact Below.alloc (by assumption) (by first | exact Nat.le_refl _ | exact Below.size (by assumption)) _))
    (first
      | (go_at_call 39; (with_reducible refine (HC.out _ _ ?_ ?_).mono ?_); (exact HWR.out); (go_split_ands; assumption); go_split_ands; rintro e w1 ⟨v, rfl, ⟨r, rfl, hr⟩, hb1⟩)
      | (go_at_call 40; (with_reducible refine (HT.out _ _ ?_).mono ?_); (go_split_ands; assumption); go_split_ands; rintro e w2 ⟨v, rfl, hv, hb2⟩; obtain ⟨A', n', c', rfl⟩ := hv.form))
  go_wp2
  go_returns
  have hB2 : Below w.heap.size w w2 := below_trans (by assumption : Below w.heap.size w w1) hb2
  exact ⟨_, rfl, FIN.out w2 _ r _ (hv.mono fun _ h => New.fresh (Fresh.of (Below.size (by assumption : Below w.heap.size w w1)) h)) (hr.below hb2) hB2 rfl, hB2.alloc hB2.size _⟩

/-- A NODE WITH ANOTHER THING AT A PLACE. -/
theorem set_c (K : Nat → Prop) (d : Nat) (hd : d ≤ 10) : ∀ (L : Int) (p : Option Addr) (xs : List Int) (i : Nat) (x : Int) (w : World), L = (d : Int) + 1 → NRep K w (d + 1) p xs → i ≤ 1000000000 → i % 32 ^ (d + 1) < xs.length →
    Calls Try.prog 39 #[.pointer p, .int .i64 L, .int .i64 (i : Int), .int .i64 x] w (Ret (SetP (New K w) (d + 1) (xs.set (i % 32 ^ (d + 1)) x)) w) := by
  induction d with
  | zero =>
    intro L p xs i x w hL h hi _
    obtain rfl : L = 1 := by omega
    have := set_leaf K p xs i x w h hi
    simpa using this
  | succ d ih =>
    intro L p xs i x w hL h hi hx
    exact set_inner K d (by omega) (ih (by omega)) L p xs i x w (by omega) h hi hx
end Go.Proofs.Ytmoakgacffjblaa.Pv
end

section
namespace Go.Proofs.Ytmoakgacffjblaa.Pv
open Go Go.RowKit Go.Proofs.Ytmoakgacffjblaa.Mem Go.Proofs.YtmoakgacffjblaaW.PrintWords

/-- all lists but the last one -/
theorem last_form {yss : List (List Int)} (h : 1 ≤ yss.length) : ∃ ini ys, yss = ini ++ [ys] := by
  rcases List.eq_nil_or_concat yss with h1 | ⟨ini, ys, h1⟩
  · rw [h1] at h; simp at h
  · exact ⟨ini, ys, by rw [h1, List.concat_eq_append]⟩
theorem Uni.ini {B : Nat} {ini : List (List Int)} {ys : List Int} (h : Uni B (ini ++ [ys])) : ini.flatten.length = ini.length * B ∧ (∀ zs ∈ ini, zs.length = B) ∧ 1 ≤ ys.length ∧ ys.length ≤ B := by
  have hz : ∀ zs ∈ ini, zs.length = B := by
    intro zs hzs
    obtain ⟨i, hi, rfl⟩ := List.mem_iff_getElem.1 hzs
    exact h.1 i _ (by rw [List.getElem?_append_left hi, List.getElem?_eq_getElem hi]) (by simp; omega)
  refine ⟨?_, hz, h.2 ini.length ys (by simp)⟩
  clear h
  induction ini with
  | nil => simp
  | cons y ini ih =>
    rw [List.flatten_cons, List.length_append, ih (fun zs h => hz zs (List.mem_cons_of_mem _ h)), hz y List.mem_cons_self, List.length_cons, Nat.succ_mul]
    omega
theorem Uni.mk {B : Nat} {ini : List (List Int)} {ys : List Int} (h : ∀ zs ∈ ini, zs.length = B) (hB : 1 ≤ B) (h1 : 1 ≤ ys.length) (h2 : ys.length ≤ B) : Uni B (ini ++ [ys]) := by
  refine ⟨fun i zs hi hl => ?_, fun i zs hi => ?_⟩
  · simp at hl
    rw [List.getElem?_append_left hl] at hi
    exact h zs (List.mem_of_getElem? hi)
  · by_cases hl : i < ini.length
    · rw [List.getElem?_append_left hl] at hi
      have := h zs (List.mem_of_getElem? hi)
      omega
    · rw [List.getElem?_append_right (by omega)] at hi
      have : i - ini.length = 0 := by
        rcases Nat.eq_zero_or_pos (i - ini.length) with h0 | h0
        · exact h0
        · rw [List.getElem?_eq_none (by simp; omega)] at hi; cases hi
      rw [this] at hi
      simp at hi
      subst hi
      exact ⟨h1, h2⟩

/-- where a leaf goes in a node that has some -/
theorem hang_where {B c : Nat} (hB : 0 < B) {ini : List (List Int)} {ys : List Int} (hu : Uni (32 * B) (ini ++ [ys])) (hl : (ini ++ [ys]).flatten.length = 32 * c) :
    (ys.length < 32 * B → c / B = ini.length ∧ 32 * (c % B) = ys.length) ∧ (ys.length = 32 * B → c / B = ini.length + 1 ∧ c % B = 0) := by
  obtain ⟨h1, _, h3, h4⟩ := hu.ini
  rw [List.flatten_append, List.length_append, h1] at hl
  simp at hl
  constructor
  · intro hlt
    have e : c = B * ini.length + ys.length / 32 := by
      have : ini.length * (32 * B) = 32 * (B * ini.length) := by rw [Nat.mul_comm, Nat.mul_assoc]
      omega
    have hr : ys.length / 32 < B := by omega
    have hm : 32 * (ys.length / 32) = ys.length := by
      have : ini.length * (32 * B) = 32 * (B * ini.length) := by rw [Nat.mul_comm, Nat.mul_assoc]
      omega
    rw [e, Nat.mul_add_div hB, Nat.mul_add_mod, Nat.div_eq_of_lt hr, Nat.mod_eq_of_lt hr]
    exact ⟨rfl, hm⟩
  · intro heq
    have e : c = B * (ini.length + 1) := by
      have : ini.length * (32 * B) = 32 * (B * ini.length) := by rw [Nat.mul_comm, Nat.mul_assoc]
      rw [Nat.mul_add, Nat.mul_one]
      omega
    rw [e, Nat.mul_div_cancel_left _ hB, Nat.mul_mod_right]
    exact ⟨rfl, rfl⟩

set_option maxHeartbeats 2000000 in
theorem hang_leaf (K : Nat → Prop) (p q : Option Addr) (number : Nat) (ls : List Int) (w : World) (h : NRep K w 1 q ls) :
    Calls Try.prog 36 #[.pointer p, .int .i64 1, .int .i64 (number : Int), .pointer q] w (Ret (SetP (New K w) 1 ls) w) := by
  have H := Lib.hid h; clear h
  go_enter Try.func36, Try.ntmps36
  go_wp2
  go_returns
  exact ⟨_, rfl, ⟨_, rfl, H.out.new⟩, Below.refl _ _⟩

/-- what a nil node tells: nothing -/
def NRep0 (K : Nat → Prop) (w : World) (d : Nat) (p : Option Addr) (xs : List Int) : Prop := (p = none ∧ xs = []) ∨ NRep K w d p xs

/-- a node of one kid -/
theorem one_kid {K : Nat → Prop} {w : World} {d : Nat} {s : Value} {r : Option Addr} {zs : List Int} (h : NRep K w (d + 1) r zs) (hs : SlV K w s (ptrs [r])) (hK : K w.heap.size) :
    SetP K (d + 2) zs (.pointer (some ⟨w.heap.size, 0, none⟩)) (w.alloc (.cells #[s, .slice none 0 0] 64)) := by
  have hb : Below w.heap.size w (w.alloc (.cells #[s, .slice none 0 0] 64)) := (Below.refl _ _).alloc (Nat.le_refl _) _
  refine ⟨_, rfl, w.heap.size, s, [r], [zs], rfl, hK, heap_alloc_new _ _, hs.below hb, rfl, fun i q ys hq hy => ?_, by simp, by simp, by simp, fun i ys hi hl => by simp at hl⟩
  have : i = 0 := by
    rcases Nat.eq_zero_or_pos i with h0 | h0
    · exact h0
    · rw [List.getElem?_eq_none (by simp; omega)] at hq; cases hq
  subst this
  simp at hq hy
  subst hq hy
  exact h.below hb

set_option maxHeartbeats 4000000 in
theorem hang_none (K : Nat → Prop) (d : Nat) (hd : d ≤ 9) (q : Option Addr) (number : Nat) (ls : List Int) (w : World) (hn : number ≤ 1000000000) (hk : number % 32 ^ (d + 1) = 0)
    (ih : ∀ (L : Int) (w : World), L = (d : Int) + 1 → NRep K w 1 q ls → Calls Try.prog 36 #[.pointer none, .int .i64 L, .int .i64 (number : Int), .pointer q] w (Ret (SetP (New K w) (d + 1) ls) w))
    (L : Int) (hL : L = (d : Int) + 2) (h : NRep K w 1 q ls) :
    Calls Try.prog 36 #[.pointer none, .int .i64 L, .int .i64 (number : Int), .pointer q] w (Ret (SetP (New K w) (d + 2) ls) w) := by
  subst hL
  have e : number / 32 ^ d % 32 = 0 := by
    rw [Nat.pow_succ] at hk
    rw [← Nat.mod_mul_right_div_self, hk, Nat.zero_div]
  have hm := fun W => way_c number d ((d : Int) + 2) rfl (by omega) hn W
  rw [e] at hm
  have hg := fun W r => grown_ptr_n none 0 0 [] r W (fun _ => False) (SlV.nil _ W) (by simp)
  have hcall := fun w' (L : Int) (hL : L = (d : Int) + 1) (hw : Below w.heap.size w w') => ih L w' hL (h.below hw)
  have HM := Lib.hid hm; clear hm
  have HG := Lib.hid hg; clear hg
  have HC := Lib.hid hcall; clear hcall
  have hlev : ((d : Int) + 2 == 1) = false := beq_false_of_ne (by omega)
  have hwr : (d : Int) + 2 - 1 = (d : Int) + 1 := by omega
  have HWR := Lib.hid hwr; clear hwr e ih h hk
  go_enter Try.func36, Try.ntmps36
  go_wp2_with (first
    | (go_at_call 34; ((refine (HM.out _).mono ?_); rintro e w1 ⟨rfl, rfl⟩))
    | (go_at_call 36; ((with_reducible refine (HC.out _ _ (by omega) (Below.refl _ _)).mono ?_); rintro e w1 ⟨v, rfl, ⟨r, rfl, hr⟩, hb1⟩))
    | (go_at_call 41; ((with_reducible refine (HG.out _ _).mono ?_); rintro e w2 ⟨v, rfl, hv, hb2⟩; obtain ⟨A', n', c', rfl⟩ := hv.form)))
  go_returns
  have hB2 : Below w.heap.size w w2 := below_trans hb1 hb2
  exact ⟨_, rfl, one_kid ((hr.mono fun _ h => h.of (Nat.le_refl _)).below hb2) (hv.mono fun _ h => New.fresh (Fresh.of hb1.size h)) (New.fresh hB2.size), hB2.alloc hB2.size _⟩

set_option maxHeartbeats 4000000 in
/-- the last kid is full, or there is none: a kid more -/
theorem hang_more (K : Nat → Prop) (d : Nat) (hd : d ≤ 9) (g : Nat) (ad : Option Addr) (n c : Nat) (ps : List (Option Addr)) (yss : List (List Int)) (q : Option Addr) (number : Nat) (ls : List Int) (w : World) (hn : number ≤ 1000000000)
    (hg : w.heap[g]? = some (.cells #[.slice ad n c, .slice none 0 0] 64 (0, 0))) (hs : SlV K w (.slice ad n c) (ptrs ps)) (hp : ps.length ≤ 31) (hk : number / 32 ^ d % 32 = ps.length)
    (ih : ∀ (L : Int) (w : World), L = (d : Int) + 1 → NRep K w 1 q ls → Calls Try.prog 36 #[.pointer none, .int .i64 L, .int .i64 (number : Int), .pointer q] w (Ret (SetP (New K w) (d + 1) ls) w))
    (L : Int) (hL : L = (d : Int) + 2) (h : NRep K w 1 q ls) (zs : List Int)
    (fin : ∀ (w2 w3 : World) (r : Option Addr) (v : Value), Below w.heap.size w w2 → SlV (New K w) w2 v (ptrs ps ++ [.pointer r]) → NRep (New K w) w2 (d + 1) r ls → w3 = w2.alloc (.cells #[v, .slice none 0 0] 64) → SetP (New K w) (d + 2) zs (.pointer (some ⟨w2.heap.size, 0, none⟩)) w3) :
    Calls Try.prog 36 #[.pointer (some ⟨g, 0, none⟩), .int .i64 L, .int .i64 (number : Int), .pointer q] w (Ret (SetP (New K w) (d + 2) zs) w) := by
  subst hL
  have hnp : n = ps.length := by have := hs.len; simpa using this
  subst hnp
  have hm := fun W => way_c number d ((d : Int) + 2) rfl (by omega) hn W
  rw [hk] at hm
  have hg' := fun w' r (hw : Below w.heap.size w w') => grown_ptr_n ad ps.length c (ptrs ps) r w' K (hs.below hw) (by simp; omega)
  have hcall := fun w' (L : Int) (hL : L = (d : Int) + 1) (hw : Below w.heap.size w w') => ih L w' hL (h.below hw)
  have hc0 := blk_cell hg 0
  simp at hc0
  have HM := Lib.hid hm; clear hm
  have HG := Lib.hid hg'; clear hg'
  have HC := Lib.hid hcall; clear hcall
  have FIN := Lib.hid fin; clear fin
  have hlev : ((d : Int) + 2 == 1) = false := beq_false_of_ne (by omega)
  clear ih h hk hs hg
  go_enter Try.func36, Try.ntmps36
  go_wp2_with (first
    | (go_at_call 34; ((refine (HM.out _).mono ?_); rintro e w1 ⟨rfl, rfl⟩))
    | (go_at_call 36; ((with_reducible refine (HC.out _ _ (by omega) (Below.refl _ _)).mono ?_); rintro e w1 ⟨v, rfl, ⟨r, rfl, hr⟩, hb1⟩))
    | (go_at_call 41; ((with_reducible refine (HG.out _ _ (by assumption)).mono ?_); rintro e w2 ⟨v, rfl, hv, hb2⟩; obtain ⟨A', n', c', rfl⟩ := hv.form)))
  go_returns
  have hB2 : Below w.heap.size w w2 := below_trans hb1 hb2
  exact ⟨_, rfl, FIN.out w2 _ r _ hB2 (hv.mono fun _ h => New.fresh (Fresh.of hb1.size h)) (hr.below hb2) rfl, hB2.alloc hB2.size _⟩

set_option maxHeartbeats 4000000 in
/-- the last kid has room: it takes the leaf -/
theorem hang_last (K : Nat → Prop) (d : Nat) (hd : d ≤ 9) (g : Nat) (ad : Addr) (n c : Nat) (ps : List (Option Addr)) (k : Nat) (o : Option Addr) (ys : List Int) (q : Option Addr) (number : Nat) (ls : List Int) (w : World) (hn : number ≤ 1000000000)
    (hg : w.heap[g]? = some (.cells #[.slice (some ad) n c, .slice none 0 0] 64 (0, 0))) (hs : SlV K w (.slice (some ad) n c) (ptrs ps)) (hp : ps.length ≤ 32) (hk : number / 32 ^ d % 32 = k) (hkl : k < ps.length) (ho : ps[k]? = some o)
    (hcell : w.cell? (ad.add k) = some (.pointer o)) (hN : NRep K w (d + 1) o ys)
    (ih : ∀ (L : Int) (w : World), L = (d : Int) + 1 → NRep K w (d + 1) o ys → NRep K w 1 q ls → Calls Try.prog 36 #[.pointer o, .int .i64 L, .int .i64 (number : Int), .pointer q] w (Ret (SetP (New K w) (d + 1) (ys ++ ls)) w))
    (L : Int) (hL : L = (d : Int) + 2) (h : NRep K w 1 q ls) (zs : List Int)
    (fin : ∀ (w2 w3 : World) (r : Option Addr) (v : Value), Below w.heap.size w w2 → SlV (New K w) w2 v ((ptrs ps).set k (.pointer r)) → NRep (New K w) w2 (d + 1) r (ys ++ ls) → w3 = w2.alloc (.cells #[v, .slice none 0 0] 64) → SetP (New K w) (d + 2) zs (.pointer (some ⟨w2.heap.size, 0, none⟩)) w3) :
    Calls Try.prog 36 #[.pointer (some ⟨g, 0, none⟩), .int .i64 L, .int .i64 (number : Int), .pointer q] w (Ret (SetP (New K w) (d + 2) zs) w) := by
  subst hL
  have hnp : n = ps.length := by have := hs.len; simpa using this
  subst hnp
  have hm := fun W => way_c number d ((d : Int) + 2) rfl (by omega) hn W
  rw [hk] at hm
  have hg' := fun w' r (hw : Below w.heap.size w w') => turned_ptr_n (some ad) ps.length c (ptrs ps) k (k : Int) r w' rfl K (hs.below hw) (by simpa using hkl) (by simp; omega)
  have hcall := fun w' (L : Int) (hL : L = (d : Int) + 1) (hw : Below w.heap.size w w') => ih L w' hL (hN.below hw) (h.below hw)
  have hc0 := blk_cell hg 0
  simp at hc0
  have HM := Lib.hid hm; clear hm
  have HG := Lib.hid hg'; clear hg'
  have HC := Lib.hid hcall; clear hcall
  have FIN := Lib.hid fin; clear fin
  have hlev : ((d : Int) + 2 == 1) = false := beq_false_of_ne (by omega)
  have hkn : (k : Int) < (ps.length : Int) := by omega
  clear ih h hk hs hg hN ho
  go_enter Try.func36, Try.ntmps36
  go_wp2_with (first
    | (go_at_call 34; ((refine (HM.out _).mono ?_); rintro e w1 ⟨rfl, rfl⟩))
    | (go_at_call 36; ((with_reducible refine (HC.out _ _ (by omega) (Below.refl _ _)).mono ?_); rintro e w1 ⟨v, rfl, ⟨r, rfl, hr⟩, hb1⟩))
    | (go_at_call 40; ((with_reducible refine (HG.out _ _ (by assumption)).mono ?_); rintro e w2 ⟨v, rfl, hv, hb2⟩; obtain ⟨A', n', c', rfl⟩ := hv.form)))
  go_returns
  have hB2 : Below w.heap.size w w2 := below_trans hb1 hb2
  exact ⟨_, rfl, FIN.out w2 _ r _ hB2 (hv.mono fun _ h => New.fresh (Fresh.of hb1.size h)) (hr.below hb2) rfl, hB2.alloc hB2.size _⟩

/-- A NODE WITH A LEAF MORE. -/
theorem hang_c (K : Nat → Prop) (d : Nat) (hd : d ≤ 10) : ∀ (L : Int) (p : Option Addr) (xs : List Int) (q : Option Addr) (number : Nat) (ls : List Int) (w : World), L = (d : Int) + 1 → NRep0 K w (d + 1) p xs → NRep K w 1 q ls → number ≤ 1000000000 → 32 * (number % 32 ^ d) = xs.length →
    Calls Try.prog 36 #[.pointer p, .int .i64 L, .int .i64 (number : Int), .pointer q] w (Ret (SetP (New K w) (d + 1) (xs ++ ls)) w) := by
  induction d with
  | zero =>
    intro L p xs q number ls w hL h hq hn hx
    obtain rfl : L = 1 := by omega
    obtain rfl : xs = [] := List.eq_nil_of_length_eq_zero (by rw [← hx]; simp [Nat.mod_one])
    exact hang_leaf K p q number ls w hq
  | succ d ih =>
    intro L p xs q number ls w hL h hq hn hx
    have hlsl : ls.length = 32 := by obtain ⟨g, s, _, _, _, _, e⟩ := hq; exact e
    have hB : 0 < 32 ^ d := Nat.pow_pos (by decide)
    have ih := ih (by omega)
    rcases h with ⟨rfl, rfl⟩ | h
    · refine hang_none K d (by omega) q number ls w hn (by simp at hx; omega) (fun L w hL hq => ?_) L (by omega) hq
      have := ih L none [] q number ls w hL (Or.inl ⟨rfl, rfl⟩) hq hn (by
        have e : number % 32 ^ (d + 1) = 0 := by simp at hx; omega
        have : number % 32 ^ d = 0 := by
          rw [Nat.pow_succ] at e
          rw [← Nat.mod_mul_right_mod number (32 ^ d) 32, e, Nat.zero_mod]
        simp [this])
      simpa using this
    · obtain ⟨g, s, ps, yss, rfl, hK, hg, hs, h4, h5, rfl, h6, h7, h8⟩ := h
      have hu := kids_uni h4 h5 h8
      obtain ⟨ini, ys, rfl⟩ := last_form h6
      rw [Nat.pow_succ 32 d, Nat.mul_comm (32 ^ d)] at hu
      obtain ⟨w1, w2⟩ := hang_where hB hu hx.symm
      have hdv : number / 32 ^ d % 32 = number % 32 ^ (d + 1) / 32 ^ d := by rw [Nat.pow_succ, Nat.mod_mul_right_div_self]
      have hmd : number % 32 ^ (d + 1) % 32 ^ d = number % 32 ^ d := by rw [Nat.pow_succ, Nat.mod_mul_right_mod]
      have hdlt : number / 32 ^ d % 32 < 32 := Nat.mod_lt _ (by decide)
      have hps : ps.length = ini.length + 1 := by simpa using h4
      obtain ⟨A, n, c, rfl⟩ := hs.form
      obtain ⟨ad, rfl, hcell⟩ := hs.addr (by simp; omega)
      obtain ⟨hi1, hi2, hi3, hi4⟩ := hu.ini
      rcases Nat.lt_or_ge ys.length (32 * 32 ^ d) with hlt | hge
      · obtain ⟨e1, e2⟩ := w1 hlt
        have hk : number / 32 ^ d % 32 = ini.length := by rw [hdv, e1]
        obtain ⟨o, ho⟩ : ∃ o, ps[ini.length]? = some o := ⟨_, List.getElem?_eq_getElem (by omega)⟩
        have hN := h5 ini.length o ys ho (by simp)
        refine hang_last K d (by omega) g ad n c ps ini.length o ys q number ls w hn hg hs (by simp at h7; omega) hk (by omega) ho (hcell _ _ (by simp [ho])) hN
          (fun L w hL hN hq => ih L o ys q number ls w hL (Or.inr hN) hq hn (by rw [← hmd]; exact e2)) L (by omega) hq _ ?_
        rintro w2 w3 r v hb hv hr rfl
        have hb3 : Below w2.heap.size w2 (w2.alloc (.cells #[v, .slice none 0 0] 64)) := (Below.refl _ _).alloc (Nat.le_refl _) _
        have hrl := hr.len
        rw [List.length_append] at hrl
        refine ⟨_, rfl, w2.heap.size, v, ps.set ini.length r, ini ++ [ys ++ ls], rfl, New.fresh hb.size, heap_alloc_new _ _, ?_, by simp [hps], fun j q' ys' hq' hy' => ?_, by simp, by simp, by simpa using h7, fun j ys' hj hl => ?_⟩
        · have := hv.below hb3
          show SlV _ _ _ ((ps.set ini.length r).map Value.pointer)
          rw [List.map_set]; exact this
        · by_cases e : ini.length = j
          · subst e
            rw [List.getElem?_set_self (by omega)] at hq'
            simp at hq' hy'
            subst hq' hy'
            exact hr.below hb3
          · have hj : j < ini.length := by
              have := (List.getElem?_eq_some_iff.1 hy').1
              simp at this
              omega
            rw [List.getElem?_set_ne e] at hq'
            rw [List.getElem?_append_left hj] at hy'
            exact ((h5 j q' ys' hq' (by rw [List.getElem?_append_left hj]; exact hy')).new.below hb).below hb3
        · simp at hl
          rw [List.getElem?_append_left hl] at hj
          rw [Nat.pow_succ, Nat.mul_comm]
          exact hi2 ys' (List.mem_of_getElem? hj)
      · have heq : ys.length = 32 * 32 ^ d := by omega
        obtain ⟨e1, e2⟩ := w2 heq
        have hk : number / 32 ^ d % 32 = ps.length := by rw [hdv, e1, hps]
        refine hang_more K d (by omega) g (some ad) n c ps (ini ++ [ys]) q number ls w hn hg hs (by omega) hk
          (fun L w hL hq => by
            have := ih L none [] q number ls w hL (Or.inl ⟨rfl, rfl⟩) hq hn (by rw [← hmd, e2]; rfl)
            simpa using this) L (by omega) hq _ ?_
        rintro w2 w3 r v hb hv hr rfl
        have hb3 : Below w2.heap.size w2 (w2.alloc (.cells #[v, .slice none 0 0] 64)) := (Below.refl _ _).alloc (Nat.le_refl _) _
        refine ⟨_, rfl, w2.heap.size, v, ps ++ [r], (ini ++ [ys]) ++ [ls], rfl, New.fresh hb.size, heap_alloc_new _ _, ?_, by simp [hps], fun j q' ys' hq' hy' => ?_, by simp, by simp, by simp; omega, fun j ys' hj hl => ?_⟩
        · have := hv.below hb3
          show SlV _ _ _ ((ps ++ [r]).map Value.pointer)
          rw [List.map_append]; exact this
        · rcases Nat.lt_or_ge j ps.length with hj | hj
          · rw [List.getElem?_append_left hj] at hq'
            rw [List.getElem?_append_left (by rw [← h4]; exact hj)] at hy'
            exact ((h5 j q' ys' hq' hy').new.below hb).below hb3
          · obtain rfl : j = ps.length := by
              have := (List.getElem?_eq_some_iff.1 hq').1
              simp at this
              omega
            rw [List.getElem?_append_right (Nat.le_refl _)] at hq'
            rw [List.getElem?_append_right (by rw [h4]; exact Nat.le_refl _), h4, Nat.sub_self] at hy'
            simp at hq' hy'
            subst hq' hy'
            exact hr.below hb3
        · rw [Nat.pow_succ, Nat.mul_comm]
          have hjl : j < (ini ++ [ys]).length := by simp at hl ⊢; omega
          rw [List.getElem?_append_left hjl] at hj
          rcases List.mem_append.1 (List.mem_of_getElem? hj) with hm | hm
          · exact hi2 ys' hm
          · rw [List.mem_singleton.1 hm]; exact heq
end Go.Proofs.Ytmoakgacffjblaa.Pv
end

section
namespace Go.Proofs.Ytmoakgacffjblaa.Pv
open Go Go.RowKit Go.Proofs.Ytmoakgacffjblaa.Mem Go.Proofs.YtmoakgacffjblaaW.PrintWords

/-- what drop gives: the node that is left, or nil; the last leaf's things -/
def DropP (K : Nat → Prop) (d : Nat) (xs : List Int) (u : Value) (w' : World) : Prop :=
  ∃ q v, u = .tuple #[.pointer q, v] ∧ SlV K w' v (ints (xs.drop (xs.length - 32))) ∧ ((q = none ∧ xs.length = 32) ∨ ∃ g, q = some ⟨g, 0, none⟩ ∧ NRep K w' d q (xs.take (xs.length - 32)))

set_option maxHeartbeats 2000000 in
theorem drop_leaf (K : Nat → Prop) (p : Option Addr) (xs : List Int) (w : World) (h : NRep K w 1 p xs) :
    Calls Try.prog 37 #[.pointer p, .int .i64 1] w (Ret (DropP (New K w) 1 xs) w) := by
  obtain ⟨g, s, rfl, hK, hg, hs, hl⟩ := h
  have hc1 := (blk_cell hg 1)
  simp at hc1
  have HS := Lib.hid hs; clear hs
  have HL := Lib.hid hl; clear hl hg
  go_enter Try.func37, Try.ntmps37
  go_wp2
  go_quiet (fail)
  go_wp2
  go_returns
  refine ⟨_, rfl, ⟨none, s, rfl, ?_, Or.inl ⟨rfl, HL.out⟩⟩, pw_below_drewN (Below.refl _ _) _⟩
  rw [HL.out, Nat.sub_self, List.drop_zero]
  exact (HS.out.mono fun _ h => Or.inl h).below (pw_below_drewN (Below.refl _ _) _)

set_option maxHeartbeats 4000000 in
theorem drop_walk (K : Nat → Prop) (d : Nat) (hd : d ≤ 9) (g : Nat) (ad : Addr) (m c : Nat) (ps : List (Option Addr)) (o : Option Addr) (ys : List Int) (w : World)
    (hg : w.heap[g]? = some (.cells #[.slice (some ad) (m + 1) c, .slice none 0 0] 64 (0, 0))) (hs : SlV K w (.slice (some ad) (m + 1) c) (ptrs ps)) (hp : ps.length ≤ 32) (ho : ps[m]? = some o)
    (hcell : w.cell? (ad.add m) = some (.pointer o)) (hN : NRep K w (d + 1) o ys)
    (ih : ∀ (L : Int) (w : World), L = (d : Int) + 1 → NRep K w (d + 1) o ys → Calls Try.prog 37 #[.pointer o, .int .i64 L] w (Ret (DropP (New K w) (d + 1) ys) w))
    (L : Int) (hL : L = (d : Int) + 2) (P : Value → World → Prop)
    (fin1 : ∀ (w2 w3 : World) (r : Option Addr) (v s : Value), Below w.heap.size w w2 → SlV (New K w) w2 s ((ptrs ps).set m (.pointer r)) → SlV (New K w) w2 v (ints (ys.drop (ys.length - 32))) → NRep (New K w) w2 (d + 1) r (ys.take (ys.length - 32)) → w3 = w2.alloc (.cells #[s, .slice none 0 0] 64) → P (.tuple #[.pointer (some ⟨w2.heap.size, 0, none⟩), v]) w3)
    (fin2 : ∀ (w2 : World) (v : Value), m = 0 → Below w.heap.size w w2 → SlV (New K w) w2 v (ints (ys.drop (ys.length - 32))) → ys.length = 32 → P (.tuple #[.pointer none, v]) w2)
    (fin3 : ∀ (w2 w3 : World) (v s : Value), m ≠ 0 → Below w.heap.size w w2 → SlV (New K w) w2 s ((ptrs ps).take m) → SlV (New K w) w2 v (ints (ys.drop (ys.length - 32))) → ys.length = 32 → w3 = w2.alloc (.cells #[s, .slice none 0 0] 64) → P (.tuple #[.pointer (some ⟨w2.heap.size, 0, none⟩), v]) w3) :
    Calls Try.prog 37 #[.pointer (some ⟨g, 0, none⟩), .int .i64 L] w (Ret P w) := by
  subst hL
  have hnp : m + 1 = ps.length := by have := hs.len; simpa using this
  have hg' := fun w' r (n : Nat) (I : Int) (hn : n = m + 1) (hI : I = (m : Int)) (hw : Below w.heap.size w w') => turned_ptr_n (some ad) n c (ptrs ps) m I r w' hI K (hn ▸ hs.below hw) (by simp; omega) (by simp; omega)
  have hcall := fun w' (L : Int) (hL : L = (d : Int) + 1) (hw : Below w.heap.size w w') => ih L w' hL (hN.below hw)
  have hc0 := blk_cell hg 0
  simp at hc0
  obtain ⟨i0, hi, hz0, hz1, hz2⟩ := info_parts info_ptr
  have hmk : ∀ W, (Instr.makeSlice 62 (.int .i64 (m : Int)) (.int .i64 (m : Int))).run Try.prog W = .ok (.slice (some ⟨W.heap.size, 0, none⟩) m m) (W.alloc (.cells (Array.replicate m (.pointer none)) 23)) := by
    intro W
    have := run_make (P := Try.prog) W 62 23 i0 (.pointer none) Try.underlying62 hi hz0 .i64 .i64 (m : Int) (m : Int) (by omega) (Int.le_refl _) (by rw [hz2]; omega) (by omega)
    rw [hz1, Nat.mul_one, show Value.cells (.pointer none) = #[.pointer none] from rfl, madeCells_one] at this
    simpa using this
  have HG := Lib.hid hg'; clear hg'
  have HC := Lib.hid hcall; clear hcall
  have F1 := Lib.hid fin1; clear fin1
  have F2 := Lib.hid fin2; clear fin2
  have F3 := Lib.hid fin3; clear fin3
  have HS := Lib.hid hs; clear hs
  have hlev : ((d : Int) + 2 == 1) = false := beq_false_of_ne (by omega)
  have hm31 : m ≤ 31 := by omega
  have HP := Lib.hid hnp; clear hnp hp
  clear ih hg hN ho hi hz0 hz1 hz2 i0
  by_cases hm : m = 0
  · subst hm
    have hcell0 : w.cell? ad = some (.pointer o) := by have := hcell; unfold Addr.add at this; simpa using this
    clear hcell
    go_enter Try.func37, Try.ntmps37
    go_wp2_with (first
      | (go_at_call 37; ((with_reducible refine (HC.out _ _ (by omega) (Below.refl _ _)).mono ?_); rintro e w1 ⟨u, rfl, ⟨q, v, rfl, hv, hq⟩, hb1⟩; have hcc := cell_below hc0 hb1; have hgl : g < w1.heap.size := block_lt hcc; rcases hq with ⟨rfl, ht⟩ | ⟨g', rfl, hr⟩))
      | (go_at_call 40; ((with_reducible refine (HG.out _ _ _ _ (by omega) (by omega) (by assumption)).mono ?_); rintro e w2 ⟨s, rfl, hw, hb2⟩; obtain ⟨A', n', c', rfl⟩ := hw.form)))
    · go_returns
      exact ⟨_, rfl, F2.out w1 v (by first | rfl | trivial) hb1 hv ht, hb1⟩
    · go_returns
      have hB2 : Below w.heap.size w w2 := below_trans hb1 hb2
      exact ⟨_, rfl, F1.out w2 _ _ v _ hB2 (hw.mono fun _ h => New.fresh (Fresh.of hb1.size h)) (hv.below hb2) (hr.below hb2) rfl, hB2.alloc hB2.size _⟩
  · have hme : ((m : Int) == 0) = false := beq_false_of_ne (by omega)
    have HM := Lib.hid hm; clear hm
    go_enter Try.func37, Try.ntmps37
    go_wp2_with (first
      | (go_at_call 37; ((with_reducible refine (HC.out _ _ (by omega) (Below.refl _ _)).mono ?_); rintro e w1 ⟨u, rfl, ⟨q, v, rfl, hv, hq⟩, hb1⟩; have hcc := cell_below hc0 hb1; have hgl : g < w1.heap.size := block_lt hcc; rcases hq with ⟨rfl, ht⟩ | ⟨g', rfl, hr⟩))
      | (go_at_call 40; ((with_reducible refine (HG.out _ _ _ _ (by omega) (by omega) (by assumption)).mono ?_); rintro e w2 ⟨s, rfl, hw, hb2⟩; obtain ⟨A', n', c', rfl⟩ := hw.form))
      | ((with_reducible show wpList _ _ _ (⟨some 57, _, _, _, _, _⟩ :: _) _ _); refine wpList_copy_part rfl (.tmp 52) (.tmp 56) 62 rfl 23 Try.underlying62 size_ptr (some ad) (m + 1) c m m (.pointer none) (ptrs ps) w (by assumption) rfl rfl K HS.out (Nat.le_succ _) ?_; intro w2 hg2 hb2))
    · go_returns
      have hB2 : Below w.heap.size w w2 := below_trans hb1 hb2
      have hlp : ((ptrs ps).take m).length = m := by have := HP.out; simp; omega
      have hsl := SlV.blk (K := New K w) (xs := (ptrs ps).take m) (c := m) hg2.out (fun j u hu => by simpa using hu) (by omega) (by simp [maxLen]; omega) (fun u hu => HS.out.one u (List.mem_of_mem_take hu)) (New.fresh hb1.size)
      rw [hlp] at hsl
      exact ⟨_, rfl, F3.out w2 _ v _ (by first | exact HM.out | trivial) hB2 hsl (hv.below hb2) ht rfl, hB2.alloc hB2.size _⟩
    · go_returns
      have hB2 : Below w.heap.size w w2 := below_trans hb1 hb2
      exact ⟨_, rfl, F1.out w2 _ _ v _ hB2 (hw.mono fun _ h => New.fresh (Fresh.of hb1.size h)) (hv.below hb2) (hr.below hb2) rfl, hB2.alloc hB2.size _⟩

/-- A NODE WITHOUT ITS LAST LEAF. -/
theorem drop_c (K : Nat → Prop) (d : Nat) (hd : d ≤ 10) : ∀ (L : Int) (p : Option Addr) (xs : List Int) (w : World), L = (d : Int) + 1 → NRep K w (d + 1) p xs → 32 ∣ xs.length →
    Calls Try.prog 37 #[.pointer p, .int .i64 L] w (Ret (DropP (New K w) (d + 1) xs) w) := by
  induction d with
  | zero =>
    intro L p xs w hL h _
    obtain rfl : L = 1 := by omega
    exact drop_leaf K p xs w h
  | succ d ih =>
    intro L p xs w hL h hdv
    have ih := ih (by omega)
    obtain ⟨g, s, ps, yss, rfl, hK, hg, hs, h4, h5, rfl, h6, h7, h8⟩ := h
    have hu := kids_uni h4 h5 h8
    obtain ⟨ini, ys, rfl⟩ := last_form h6
    obtain ⟨hi1, hi2, hi3, hi4⟩ := hu.ini
    have hps : ps.length = ini.length + 1 := by simpa using h4
    have hfl : (ini ++ [ys]).flatten = ini.flatten ++ ys := by simp
    have hyd : 32 ∣ ys.length := by
      rw [hfl, List.length_append, hi1, Nat.pow_succ] at hdv
      have : 32 ∣ ini.length * (32 ^ d * 32) := ⟨ini.length * 32 ^ d, by rw [← Nat.mul_assoc, Nat.mul_comm]⟩
      omega
    obtain ⟨A, n, c, rfl⟩ := hs.form
    obtain rfl : n = ini.length + 1 := by have := hs.len; simp at this; omega
    obtain ⟨ad, rfl, hcell⟩ := hs.addr (by simp; omega)
    obtain ⟨o, ho⟩ : ∃ o, ps[ini.length]? = some o := ⟨_, List.getElem?_eq_getElem (by omega)⟩
    have hN := h5 ini.length o ys ho (by simp)
    have hy32 : 32 ≤ ys.length := by omega
    have hlen : (ini ++ [ys]).flatten.length - 32 = ini.flatten.length + (ys.length - 32) := by rw [hfl, List.length_append]; omega
    have hdrop : (ini ++ [ys]).flatten.drop ((ini ++ [ys]).flatten.length - 32) = ys.drop (ys.length - 32) := by
      rw [hlen, hfl, List.drop_append, List.drop_eq_nil_of_le (by omega), List.nil_append, Nat.add_sub_cancel_left]
    have htake : (ini ++ [ys]).flatten.take ((ini ++ [ys]).flatten.length - 32) = ini.flatten ++ ys.take (ys.length - 32) := by
      rw [hlen, hfl, List.take_append, List.take_of_length_le (by omega), Nat.add_sub_cancel_left]
    refine drop_walk K d (by omega) g ad ini.length c ps o ys w hg hs (by simp at h7; omega) ho (hcell _ _ (by simp [ho])) hN (fun L w hL hN => ih L o ys w hL hN hyd) L (by omega) _ ?_ ?_ ?_
    · rintro w2 w3 r v s hb hv hvv hr rfl
      have hb3 : Below w2.heap.size w2 (w2.alloc (.cells #[s, .slice none 0 0] 64)) := (Below.refl _ _).alloc (Nat.le_refl _) _
      refine ⟨_, v, rfl, by rw [hdrop]; exact hvv.below hb3, Or.inr ⟨_, rfl, ?_⟩⟩
      rw [htake]
      refine ⟨w2.heap.size, s, ps.set ini.length r, ini ++ [ys.take (ys.length - 32)], rfl, New.fresh hb.size, heap_alloc_new _ _, ?_, by simp [hps], fun j q' ys' hq' hy' => ?_, by simp, by simp, by simpa using h7, fun j ys' hj hl => ?_⟩
      · have := hv.below hb3
        show SlV _ _ _ ((ps.set ini.length r).map Value.pointer)
        rw [List.map_set]; exact this
      · by_cases e : ini.length = j
        · subst e
          rw [List.getElem?_set_self (by omega)] at hq'
          simp at hq' hy'
          subst hq' hy'
          exact hr.below hb3
        · have hj : j < ini.length := by
            have := (List.getElem?_eq_some_iff.1 hy').1
            simp at this
            omega
          rw [List.getElem?_set_ne e] at hq'
          rw [List.getElem?_append_left hj] at hy'
          exact ((h5 j q' ys' hq' (by rw [List.getElem?_append_left hj]; exact hy')).new.below hb).below hb3
      · simp at hl
        rw [List.getElem?_append_left hl] at hj
        exact hi2 ys' (List.mem_of_getElem? hj)
    · rintro w2 v hm0 hb hvv h32
      obtain rfl : ini = [] := List.eq_nil_of_length_eq_zero hm0
      exact ⟨none, v, rfl, by rw [hdrop]; exact hvv, Or.inl ⟨rfl, by simpa using h32⟩⟩
    · rintro w2 w3 v s hm0 hb hv hvv h32 rfl
      have hb3 : Below w2.heap.size w2 (w2.alloc (.cells #[s, .slice none 0 0] 64)) := (Below.refl _ _).alloc (Nat.le_refl _) _
      refine ⟨_, v, rfl, by rw [hdrop]; exact hvv.below hb3, Or.inr ⟨_, rfl, ?_⟩⟩
      rw [htake, h32, Nat.sub_self, List.take_zero, List.append_nil]
      refine ⟨w2.heap.size, s, ps.take ini.length, ini, rfl, New.fresh hb.size, heap_alloc_new _ _, ?_, by simp [hps], fun j q' ys' hq' hy' => ?_, rfl, by omega, by simp at h7; omega, fun j ys' hj hl => hi2 ys' (List.mem_of_getElem? hj)⟩
      · have := hv.below hb3
        show SlV _ _ _ ((ps.take ini.length).map Value.pointer)
        rw [List.map_take]; exact this
      · have hj : j < ini.length := (List.getElem?_eq_some_iff.1 hy').1
        rw [List.getElem?_take_of_lt hj] at hq'
        exact ((h5 j q' ys' hq' (by rw [List.getElem?_append_left hj]; exact hy')).new.below hb).below hb3
end Go.Proofs.Ytmoakgacffjblaa.Pv
end

section
namespace Go.Proofs.Ytmoakgacffjblaa.Pv
open Go Go.RowKit Go.Proofs.Ytmoakgacffjblaa.Mem Go.Proofs.YtmoakgacffjblaaW.PrintWords

abbrev VT : TypeId := 26

theorem inner_c (n L : Int) (p : Option Addr) (A : Option Addr) (m c : Nat) (w : World) (h0 : (m : Int) ≤ n) (hn : n ≤ 1000000000) :
    Calls Try.prog 25 #[.agg #[.int .i64 n, .int .i64 L, .pointer p, .slice A m c]] w fun e w' => e = .returned (.int .i64 (n - m)) ∧ w' = w.alloc (.cells #[.int .i64 n, .int .i64 L, .pointer p, .slice A m c] VT) := by
  go_enter Try.func25, Try.ntmps25
  go_wp2
  go_returns
  exact ⟨rfl, rfl⟩

theorem len_c (n L : Int) (p : Option Addr) (t : Value) (w : World) :
    Calls Try.prog 16 #[.agg #[.int .i64 n, .int .i64 L, .pointer p, t]] w fun e w' => e = .returned (.int .i64 n) ∧ w' = w.alloc (.cells #[.int .i64 n, .int .i64 L, .pointer p, t] VT) := by
  go_enter Try.func16, Try.ntmps16
  go_wp2
  go_returns
  exact ⟨rfl, rfl⟩

theorem levels_c (n L : Int) (p : Option Addr) (t : Value) (w : World) :
    Calls Try.prog 17 #[.agg #[.int .i64 n, .int .i64 L, .pointer p, t]] w fun e w' => e = .returned (.int .i64 L) ∧ w' = w.alloc (.cells #[.int .i64 n, .int .i64 L, .pointer p, t] VT) := by
  go_enter Try.func17, Try.ntmps17
  go_wp2
  go_returns
  exact ⟨rfl, rfl⟩

set_option maxHeartbeats 2000000 in
theorem sink_zero (n : Int) (p : Option Addr) (A : Option Addr) (c : Nat) (w : World) (h0 : 32 ≤ n) (hn : n ≤ 1000000000) :
    Calls Try.prog 26 #[.agg #[.int .i64 n, .int .i64 0, .pointer p, .slice A 32 c]] w
      (Ret (fun v w' => ∃ g, v = .agg #[.int .i64 n, .int .i64 1, .pointer (some ⟨g, 0, none⟩), .slice none 0 0] ∧ w.heap.size ≤ g ∧ w'.heap[g]? = some (.cells #[.slice none 0 0, .slice A 32 c] 64 (0, 0))) w) := by
  have HI := fun W => inner_c n 0 p A 32 c W (by simpa using h0) hn
  go_enter Try.func26, Try.ntmps26
  go_wp2_with (go_at_call 25; ((refine (HI _).mono ?_); rintro e w1 ⟨rfl, rfl⟩))
  go_returns
  exact ⟨_, rfl, ⟨w.heap.size + 1 + 1 + 1, rfl, by omega, heap_k3 w _ _ _ _⟩, by go_grown⟩

set_option maxHeartbeats 4000000 in
theorem sink_hang (K : Nat → Prop) (d number : Nat) (hd : d ≤ 9) (n : Int) (g0 : Nat) (A : Option Addr) (c : Nat) (xs ls : List Int) (w : World) (h0 : n = 32 * (number : Int) + 32) (hn : number ≤ 10000000) (hne : number ≠ 32 ^ d)
    (hN : NRep K w (d + 1) (some ⟨g0, 0, none⟩) xs) (hx : 32 * (number % 32 ^ d) = xs.length) (hs : SlV K w (.slice A 32 c) (ints ls)) (hl : ls.length = 32) (hK : ∀ b, K b → b < w.heap.size) :
    Calls Try.prog 26 #[.agg #[.int .i64 n, .int .i64 ((d : Int) + 1), .pointer (some ⟨g0, 0, none⟩), .slice A 32 c]] w
      (Ret (fun v w' => ∃ q, v = .agg #[.int .i64 n, .int .i64 ((d : Int) + 1), .pointer q, .slice none 0 0] ∧ NRep (New K w) w' (d + 1) q (xs ++ ls)) w) := by
  have HI := fun W => inner_c n ((d : Int) + 1) (some ⟨g0, 0, none⟩) A 32 c W (by omega) (by omega)
  have hsh : wrap64 (2 ^ (5 * d)) = ((32 ^ d : Nat) : Int) := by
    have e : (2 : Int) ^ (5 * d) = ((32 ^ d : Nat) : Int) := by
      rw [show (32 : Nat) ^ d = 2 ^ (5 * d) by rw [Nat.pow_mul]]; push_cast; rfl
    have hlt : (32 : Nat) ^ d ≤ 32 ^ 9 := Nat.pow_le_pow_right (by decide) hd
    have h9 : (32 : Nat) ^ 9 = 35184372088832 := by decide
    rw [e]; unfold wrap64; omega
  have hnum : (n - 32) / 32 = (number : Int) := by omega
  have hne2 : ((n - 32) / 32 == wrap64 (2 ^ (5 * d))) = false := beq_false_of_ne (by rw [hsh]; omega)
  have hcall2 : ∀ w' (I : Int) (g : Nat), I = (n - 32) / 32 → w.heap.size + 1 < g → Below w.heap.size w w' → w'.heap[g]? = some (.cells #[.slice none 0 0, .slice A 32 c] 64 (0, 0)) →
      Calls Try.prog 36 #[.pointer (some ⟨g0, 0, none⟩), .int .i64 ((d : Int) + 1), .int .i64 I, .pointer (some ⟨g, 0, none⟩)] w' (Ret (SetP (New (fun b => K b ∨ w.heap.size + 1 < b) w') (d + 1) (xs ++ ls)) w') := by
    intro w' I g hI hg hb hq
    have := hang_c (fun b => K b ∨ w.heap.size + 1 < b) d (by omega) ((d : Int) + 1) (some ⟨g0, 0, none⟩) xs (some ⟨g, 0, none⟩) number ls w' rfl (Or.inr ((hN.below hb).mono fun _ h => Or.inl h)) ⟨g, _, rfl, Or.inr hg, hq, (hs.below hb).mono (fun _ h => Or.inl h), hl⟩ (by omega) hx
    rw [← hnum, ← hI] at this
    exact this
  have HC := Lib.hid hcall2; clear hcall2 hsh hnum hN hs
  have hl0 : ((d : Int) + 1 == 0) = false := beq_false_of_ne (by omega)
  have hnb : n ≤ 1000000000 := by omega
  have hn32 : 32 ≤ n := by omega
  have HK := Lib.hid hK; clear hK
  clear h0 hne
  go_enter Try.func26, Try.ntmps26
  go_wp2_with (first
    | (go_at_call 25; ((refine (HI _).mono ?_); rintro e w1 ⟨rfl, rfl⟩))
    | (go_at_call 36; ((with_reducible refine (HC.out _ _ _ rfl (by omega) (by go_grown) (heap_k3 w _ _ _ _)).mono ?_); rintro e w1 ⟨v, rfl, ⟨q, rfl, hr⟩, hb1⟩; have BK : w1.heap[w.heap.size]? = some (.cells #[.int .i64 n, .int .i64 ((d : Int) + 1), .pointer (some ⟨g0, 0, none⟩), .slice A 32 c] VT (0, 0)) := blk_below (blk_alloc (blk_alloc (blk_alloc (blk_new w _) _) _) _) hb1; have BR : w1.heap[w.heap.size + 1]? = some (.cells #[.int .i64 0, .int .i64 0, .pointer none, .slice none 0 0] VT (0, 0)) := blk_below (blk_alloc (blk_alloc (heap_k1 w _ _) _) _) hb1; obtain ⟨⟨k0, k1, k2, k3⟩, f0, f1, f2, f3⟩ := box4 BK; obtain ⟨⟨r0, r1, r2, r3⟩, e0, e1, e2, e3⟩ := box4 BR; have HBK := Lib.hid BK; have HBR := Lib.hid BR; clear BK BR)))
  have hne12 : w.heap.size + 1 ≠ w.heap.size := by omega
  refine bodyPost_ret (results_c1 rfl _ _ (w.heap.size + 1) VT #[.int .i64 n, .int .i64 ((d : Int) + 1), .pointer q, .slice none 0 0] (0, 0) _ rfl (put4 (blk_far (blk_far HBR.out hne12 _) hne12 _)) Try.underlying26 rfl (by kernel_rfl)) rfl ?_
  have hB1 : Below w.heap.size w w1 := below_trans (by go_grown) hb1
  refine ⟨_, rfl, ⟨q, rfl, ?_⟩, by go_grown⟩
  refine hr.keep (fun b hb => ?_) (fun b hb hlt => ?_)
  · rcases hb with (h | h) | h
    · exact Or.inl h
    · exact Or.inr (by omega)
    · rw [World.size_alloc, World.size_alloc, World.size_alloc, World.size_alloc] at h
      exact Or.inr (by omega)
  · have hnb1 : b ≠ w.heap.size ∧ b ≠ w.heap.size + 1 := by
      rcases hb with (h | h) | h
      · have := HK.out b h; omega
      · omega
      · rw [World.size_alloc, World.size_alloc, World.size_alloc, World.size_alloc] at h
        omega
    repeat rw [Below.heap_setCell _ _ _ _ (by first | exact hnb1.1 | exact hnb1.2)]
end Go.Proofs.Ytmoakgacffjblaa.Pv
end

section
namespace Go.Proofs.Ytmoakgacffjblaa.Pv
open Go Go.RowKit Go.Proofs.Ytmoakgacffjblaa.Mem Go.Proofs.YtmoakgacffjblaaW.PrintWords

/-- a node that is built over a root -/
theorem grow_rep {K K' : Nat → Prop} {w w1 : World} {d : Nat} {p : Option Addr} {xs : List Int} {g1 g2 : Nat} {t : TypeId} (hN : NRep K w (d + 1) p xs) (hb : Below w.heap.size w w1) (h1 : w1.heap[g1]? = some (.cells #[.pointer p] t (0, 0)))
    (h2 : w1.heap[g2]? = some (.cells #[.slice (some ⟨g1, 0, none⟩) 1 1, .slice none 0 0] 64 (0, 0))) (hK : ∀ b, K b → K' b) (k1 : K' g1) (k2 : K' g2) : NRep K' w1 (d + 2) (some ⟨g2, 0, none⟩) xs := by
  refine ⟨g2, .slice (some ⟨g1, 0, none⟩) 1 1, [p], [xs], rfl, k2, h2, ?_, rfl, fun i q ys hq hy => ?_, by simp, by simp, by simp, fun i ys hi hl => by simp at hl⟩
  · exact SlV.blk (xs := [.pointer p]) (c := 1) h1 (fun j u hu => by simpa using hu) (by simp) (by simp [maxLen]) (by intro u hu; rw [List.mem_singleton.1 hu]; rfl) k1
  · have : i = 0 := by
      rcases Nat.eq_zero_or_pos i with h0 | h0
      · exact h0
      · rw [List.getElem?_eq_none (by simp; omega)] at hq; cases hq
    subst this
    simp at hq hy
    subst hq hy
    exact (hN.below hb).mono hK

set_option maxHeartbeats 4000000 in
theorem sink_grow (K : Nat → Prop) (d P : Nat) (hP : 32 ^ d = P) (hd : d ≤ 8) (n : Int) (g0 : Nat) (A : Option Addr) (c : Nat) (xs ls : List Int) (w : World) (h0 : n = 32 * (P : Int) + 32) (hn : P ≤ 10000000)
    (hN : NRep K w (d + 1) (some ⟨g0, 0, none⟩) xs) (hx : xs.length = 32 * P) (hs : SlV K w (.slice A 32 c) (ints ls)) (hl : ls.length = 32) (hK : ∀ b, K b → b < w.heap.size) :
    Calls Try.prog 26 #[.agg #[.int .i64 n, .int .i64 ((d : Int) + 1), .pointer (some ⟨g0, 0, none⟩), .slice A 32 c]] w
      (Ret (fun v w' => ∃ q, v = .agg #[.int .i64 n, .int .i64 ((d : Int) + 1 + 1), .pointer q, .slice none 0 0] ∧ NRep (New K w) w' (d + 2) q (xs ++ ls)) w) := by
  have HI := fun W => inner_c n ((d : Int) + 1) (some ⟨g0, 0, none⟩) A 32 c W (by omega) (by omega)
  have hsh : wrap64 (2 ^ (5 * d)) = (P : Int) := by
    have e : (2 : Int) ^ (5 * d) = (P : Int) := by
      rw [← hP, show (32 : Nat) ^ d = 2 ^ (5 * d) by rw [Nat.pow_mul]]; push_cast; rfl
    rw [e]; unfold wrap64; omega
  have hnum : (n - 32) / 32 = (P : Int) := by omega
  have hne2 : ((n - 32) / 32 == wrap64 (2 ^ (5 * d))) = true := by rw [hsh, hnum]; simp
  have hmod : P % 32 ^ (d + 1) = P := hP ▸ Nat.mod_eq_of_lt (Nat.pow_lt_pow_right (by decide) (by omega))
  have hcall2 : ∀ w' (I L : Int) (g g1 g2 : Nat) (t : TypeId), I = (n - 32) / 32 → L = (d : Int) + 2 → w.heap.size + 1 < g → w.heap.size + 1 < g1 → w.heap.size + 1 < g2 → Below w.heap.size w w' → w'.heap[g]? = some (.cells #[.slice none 0 0, .slice A 32 c] 64 (0, 0)) →
      w'.heap[g1]? = some (.cells #[.pointer (some ⟨g0, 0, none⟩)] t (0, 0)) → w'.heap[g2]? = some (.cells #[.slice (some ⟨g1, 0, none⟩) 1 1, .slice none 0 0] 64 (0, 0)) →
      Calls Try.prog 36 #[.pointer (some ⟨g2, 0, none⟩), .int .i64 L, .int .i64 I, .pointer (some ⟨g, 0, none⟩)] w' (Ret (SetP (New (fun b => K b ∨ w.heap.size + 1 < b) w') (d + 2) (xs ++ ls)) w') := by
    intro w' I L g g1 g2 t hI hL hg hg1 hg2 hb hq h1 h2
    have := hang_c (fun b => K b ∨ w.heap.size + 1 < b) (d + 1) (by omega) L (some ⟨g2, 0, none⟩) xs (some ⟨g, 0, none⟩) P ls w' (by omega) (Or.inr (grow_rep hN hb h1 h2 (fun _ h => Or.inl h) (Or.inr hg1) (Or.inr hg2))) ⟨g, _, rfl, Or.inr hg, hq, (hs.below hb).mono (fun _ h => Or.inl h), hl⟩ (by omega) (by rw [hmod, hx])
    rw [← hnum, ← hI] at this
    exact this
  have HC := Lib.hid hcall2; clear hcall2 hsh hnum hN hs hmod hx
  have hl0 : ((d : Int) + 1 == 0) = false := beq_false_of_ne (by omega)
  have hnb : n ≤ 1000000000 := by omega
  have hn32 : 32 ≤ n := by omega
  have HK := Lib.hid hK; clear hK
  clear h0
  go_enter Try.func26, Try.ntmps26
  go_wp2_with (first
    | (go_at_call 25; ((refine (HI _).mono ?_); rintro e w1 ⟨rfl, rfl⟩))
    | (go_at_call 36; ((with_reducible refine (HC.out _ _ _ _ (w.heap.size + 1 + 1 + 1 + 1) _ 23 rfl (by omega) (by omega) (by omega) (by omega) (by go_grown) (blk_alloc (blk_alloc (heap_k3 w _ _ _ _) _) _) (blk_alloc (heap_k4 w _ _ _ _ _) _) (heap_k5 w _ _ _ _ _ _)).mono ?_); rintro e w1 ⟨v, rfl, ⟨q, rfl, hr⟩, hb1⟩; have BK : w1.heap[w.heap.size]? = some (.cells #[.int .i64 n, .int .i64 ((d : Int) + 1 + 1), .pointer (some ⟨w.heap.size + 1 + 1 + 1 + 1 + 1, 0, none⟩), .slice A 32 c] VT (0, 0)) := blk_below (blk_alloc (blk_alloc (blk_alloc (blk_alloc (blk_alloc (blk_new w _) _) _) _) _) _) hb1; have BR : w1.heap[w.heap.size + 1]? = some (.cells #[.int .i64 0, .int .i64 0, .pointer none, .slice none 0 0] VT (0, 0)) := blk_below (blk_alloc (blk_alloc (blk_alloc (blk_alloc (heap_k1 w _ _) _) _) _) _) hb1; obtain ⟨⟨k0, k1, k2, k3⟩, f0, f1, f2, f3⟩ := box4 BK; obtain ⟨⟨r0, r1, r2, r3⟩, e0, e1, e2, e3⟩ := box4 BR; have HBK := Lib.hid BK; have HBR := Lib.hid BR; clear BK BR)))
  have hne12 : w.heap.size + 1 ≠ w.heap.size := by omega
  refine bodyPost_ret (results_c1 rfl _ _ (w.heap.size + 1) VT #[.int .i64 n, .int .i64 ((d : Int) + 1 + 1), .pointer q, .slice none 0 0] (0, 0) _ rfl (put4 (blk_far (blk_far HBR.out hne12 _) hne12 _)) Try.underlying26 rfl (by kernel_rfl)) rfl ?_
  have hB1 : Below w.heap.size w w1 := below_trans (by go_grown) hb1
  refine ⟨_, rfl, ⟨q, rfl, ?_⟩, by go_grown⟩
  refine hr.keep (fun b hb => ?_) (fun b hb hlt => ?_)
  · rcases hb with (h | h) | h
    · exact Or.inl h
    · exact Or.inr (by omega)
    · rw [World.size_alloc, World.size_alloc, World.size_alloc, World.size_alloc, World.size_alloc, World.size_alloc] at h
      exact Or.inr (by omega)
  · have hnb1 : b ≠ w.heap.size ∧ b ≠ w.heap.size + 1 := by
      rcases hb with (h | h) | h
      · have := HK.out b h; omega
      · omega
      · rw [World.size_alloc, World.size_alloc, World.size_alloc, World.size_alloc, World.size_alloc, World.size_alloc] at h
        omega
    repeat rw [Below.heap_setCell _ _ _ _ (by first | exact hnb1.1 | exact hnb1.2)]
end Go.Proofs.Ytmoakgacffjblaa.Pv
end

section
namespace Go.Proofs.Ytmoakgacffjblaa.Pv
open Go Go.RowKit Go.Proofs.Ytmoakgacffjblaa.Mem Go.Proofs.YtmoakgacffjblaaW.PrintWords

theorem NRep.bound {K : Nat → Prop} {w : World} : ∀ {d : Nat} {p : Option Addr} {xs : List Int}, NRep K w d p xs → NRep (fun b => K b ∧ b < w.heap.size) w d p xs
  | 0, _, _, h => h.elim
  | 1, _, _, ⟨g, s, h1, hk, h2, h3, h4⟩ => ⟨g, s, h1, ⟨hk, blk_lt h2⟩, h2, h3.bound, h4⟩
  | d + 2, _, _, ⟨g, s, ps, yss, h1, hk, h2, h3, h4, h5, h6⟩ => ⟨g, s, ps, yss, h1, ⟨hk, blk_lt h2⟩, h2, h3.bound, h4, fun i q ys hq hy => NRep.bound (h5 i q ys hq hy), h6⟩

/-- a trie of things, with no level too many -/
def Trie (K : Nat → Prop) (w : World) (L : Int) (p : Option Addr) (xs : List Int) : Prop :=
  (xs = [] ∧ L = 0 ∧ p = none) ∨ ∃ (d g : Nat), L = (d : Int) + 1 ∧ p = some ⟨g, 0, none⟩ ∧ NRep K w (d + 1) p xs ∧ 32 ∣ xs.length ∧ (d = 0 ∨ 32 ^ d < xs.length)

/-- a vector's fields: its trie has the first things, its tail the others -/
structure VF (K : Nat → Prop) (w : World) (n L : Int) (p : Option Addr) (t : Value) (xs ys : List Int) : Prop where
  num : n = (xs.length : Int) + (ys.length : Int)
  trie : Trie K w L p xs
  tail : SlV K w t (ints ys)
  few : ys.length ≤ 32
  all : xs.length + ys.length ≤ 1000000

theorem Trie.keep {K K' : Nat → Prop} {w w' : World} {L : Int} {p : Option Addr} {xs : List Int} (h : Trie K w L p xs) (hK : ∀ b, K b → K' b) (hb : ∀ b, K b → b < w.heap.size → w'.heap[b]? = w.heap[b]?) : Trie K' w' L p xs := by
  rcases h with h | ⟨d, g, h1, h2, h3, h4⟩
  · exact Or.inl h
  · exact Or.inr ⟨d, g, h1, h2, h3.keep hK hb, h4⟩
theorem VF.keep {K K' : Nat → Prop} {w w' : World} {n L : Int} {p : Option Addr} {t : Value} {xs ys : List Int} (h : VF K w n L p t xs ys) (hK : ∀ b, K b → K' b) (hb : ∀ b, K b → b < w.heap.size → w'.heap[b]? = w.heap[b]?) : VF K' w' n L p t xs ys :=
  ⟨h.num, h.trie.keep hK hb, (h.tail.keep hb).mono hK, h.few, h.all⟩
theorem VF.below {K : Nat → Prop} {w w' : World} {n L : Int} {p : Option Addr} {t : Value} {xs ys : List Int} (h : VF K w n L p t xs ys) (hb : Below w.heap.size w w') : VF K w' n L p t xs ys := h.keep (fun _ h => h) fun b _ hlt => hb.block b hlt
theorem VF.mono {K K' : Nat → Prop} {w : World} {n L : Int} {p : Option Addr} {t : Value} {xs ys : List Int} (h : VF K w n L p t xs ys) (hK : ∀ b, K b → K' b) : VF K' w n L p t xs ys := h.keep hK fun _ _ _ => rfl
theorem VF.bound {K : Nat → Prop} {w : World} {n L : Int} {p : Option Addr} {t : Value} {xs ys : List Int} (h : VF K w n L p t xs ys) : VF (fun b => K b ∧ b < w.heap.size) w n L p t xs ys := by
  obtain ⟨h1, h2, h3, h4, h5⟩ := h
  refine ⟨h1, ?_, h3.bound, h4, h5⟩
  rcases h2 with h | ⟨d, g, h1, h2, h3, h4⟩
  · exact Or.inl h
  · exact Or.inr ⟨d, g, h1, h2, h3.bound, h4⟩

theorem lev_small {d n : Nat} (h : 32 ^ d < n) (hn : n ≤ 1000000) : d ≤ 3 := by
  rcases Nat.lt_or_ge d 4 with h1 | h1
  · omega
  · have := Nat.pow_le_pow_right (show 0 < 32 by decide) h1
    have e : 32 ^ 4 = 1048576 := by decide
    omega

theorem sink_c (K : Nat → Prop) (n L : Int) (p : Option Addr) (A : Option Addr) (m c : Nat) (xs ys : List Int) (w : World) (h : VF K w n L p (.slice A m c) xs ys) (hy : ys.length = 32) :
    Calls Try.prog 26 #[.agg #[.int .i64 n, .int .i64 L, .pointer p, .slice A m c]] w
      (Ret (fun v w' => ∃ L' q, v = .agg #[.int .i64 n, .int .i64 L', .pointer q, .slice none 0 0] ∧ VF (New K w) w' n L' q (.slice none 0 0) (xs ++ ys) []) w) := by
  obtain ⟨h1, h2, h3, h4, h5⟩ := h
  obtain rfl : m = 32 := by have := h3.len; simpa [hy] using this
  have hnum : n = ((xs ++ ys).length : Int) + (([] : List Int).length : Int) := by rw [h1, List.length_append]; simp
  have hal : (xs ++ ys).length + ([] : List Int).length ≤ 1000000 := by rw [List.length_append]; simpa using h5
  rcases h2 with ⟨rfl, rfl, rfl⟩ | ⟨d, g, rfl, rfl, hN, hd, hm⟩
  · refine (sink_zero n none A c w (by simp at h1; omega) (by simp at h1; omega)).mono ?_
    rintro e w' ⟨v, rfl, ⟨g, rfl, hg, hc⟩, hb⟩
    refine ⟨_, rfl, ⟨1, _, rfl, hnum, Or.inr ⟨0, g, rfl, rfl, ⟨g, _, rfl, Or.inr hg, hc, (h3.below hb).mono fun _ h => Or.inl h, by simpa using hy⟩, by simp [hy], Or.inl rfl⟩, SlV.nil _ _, by simp, hal⟩, hb⟩
  · have hlen := hN.len
    have hd8 : d ≤ 8 := by
      rcases hm with rfl | hm
      · omega
      · have := lev_small hm (by omega); omega
    obtain ⟨number, hnu⟩ := hd
    have hle : number ≤ 32 ^ d := by
      have := hlen.2
      rw [hnu, Nat.pow_succ, Nat.mul_comm] at this
      exact Nat.le_of_mul_le_mul_right this (by decide)
    have hK : ∀ b, (K b ∧ b < w.heap.size) → b < w.heap.size := fun b h => h.2
    have hup : ∀ b, New (fun b => K b ∧ b < w.heap.size) w b → New K w b := fun b h => h.imp (·.1) id
    have hdv : 32 ∣ (xs ++ ys).length := by rw [List.length_append, hnu, hy]; exact ⟨number + 1, by omega⟩
    by_cases hp : number = 32 ^ d
    · refine (sink_grow _ d number hp.symm hd8 n g A c xs ys w (by omega) (by omega) hN.bound (by omega) h3.bound hy hK).mono ?_
      rintro e w' ⟨v, rfl, ⟨q, rfl, hr⟩, hb⟩
      have hr' := hr.mono hup
      obtain ⟨g', hq⟩ : ∃ g', q = some ⟨g', 0, none⟩ := by obtain ⟨g', _, _, _, hq, _⟩ := hr; exact ⟨g', hq⟩
      refine ⟨_, rfl, ⟨_, q, rfl, hnum, Or.inr ⟨d + 1, g', by push_cast; rfl, hq, hr', hdv, Or.inr ?_⟩, SlV.nil _ _, by simp, hal⟩, hb⟩
      rw [Nat.pow_succ, List.length_append]; omega
    · have hlt : number < 32 ^ d := by omega
      refine (sink_hang _ d number (by omega) n g A c xs ys w (by omega) (by omega) hp hN.bound (by rw [Nat.mod_eq_of_lt hlt]; exact hnu.symm) h3.bound hy hK).mono ?_
      rintro e w' ⟨v, rfl, ⟨q, rfl, hr⟩, hb⟩
      have hr' := hr.mono hup
      obtain ⟨g', hq⟩ : ∃ g', q = some ⟨g', 0, none⟩ := by
        cases d with
        | zero => obtain ⟨g', _, hq, _⟩ := hr; exact ⟨g', hq⟩
        | succ d => obtain ⟨g', _, _, _, hq, _⟩ := hr; exact ⟨g', hq⟩
      refine ⟨_, rfl, ⟨_, q, rfl, hnum, Or.inr ⟨d, g', rfl, hq, hr', hdv, ?_⟩, SlV.nil _ _, by simp, hal⟩, hb⟩
      rcases hm with hm | hm
      · exact Or.inl hm
      · exact Or.inr (by rw [List.length_append]; omega)
end Go.Proofs.Ytmoakgacffjblaa.Pv
end

section
namespace Go.Proofs.Ytmoakgacffjblaa.Pv
open Go Go.RowKit Go.Proofs.Ytmoakgacffjblaa.Mem Go.Proofs.YtmoakgacffjblaaW.PrintWords

abbrev vec (n L : Int) (p : Option Addr) (t : Value) : Value := .agg #[.int .i64 n, .int .i64 L, .pointer p, t]

/-- a value that is a vector of things -/
def VRep (K : Nat → Prop) (w : World) (v : Value) (l : List Int) : Prop :=
  ∃ n L p A m c xs ys, v = vec n L p (.slice A m c) ∧ l = xs ++ ys ∧ VF K w n L p (.slice A m c) xs ys ∧ (ys = [] → xs = [])

theorem VRep.keep {K K' : Nat → Prop} {w w' : World} {v : Value} {l : List Int} (h : VRep K w v l) (hK : ∀ b, K b → K' b) (hb : ∀ b, K b → b < w.heap.size → w'.heap[b]? = w.heap[b]?) : VRep K' w' v l := by
  obtain ⟨n, L, p, A, m, c, xs, ys, h1, h2, h3, h4⟩ := h
  exact ⟨n, L, p, A, m, c, xs, ys, h1, h2, h3.keep hK hb, h4⟩
theorem VRep.below {K : Nat → Prop} {w w' : World} {v : Value} {l : List Int} (h : VRep K w v l) (hb : Below w.heap.size w w') : VRep K w' v l := h.keep (fun _ h => h) fun b _ hlt => hb.block b hlt
theorem VRep.mono {K K' : Nat → Prop} {w : World} {v : Value} {l : List Int} (h : VRep K w v l) (hK : ∀ b, K b → K' b) : VRep K' w v l := h.keep hK fun _ _ _ => rfl

theorem results_vt {fn : Func} {p : Tmp} (h : fn.results = #[.cell p VT]) (tmps : Array Value) (w : World) (g : Nat) (cs : Array Value) (hp : tmps.getD p undef = .pointer (some ⟨g, 0, none⟩)) (hs : cs.size = 4) (hg : w.heap[g]? = some (.cells cs VT (0, 0))) :
    (results fn tmps).run Try.prog w = .ok (.agg cs) w :=
  results_c1 h tmps w g VT cs (0, 0) _ hp hg Try.underlying26 rfl (by rw [hs]; kernel_rfl)

/-- what holds at each round's head -/
def PushI (K : Nat → Prop) (w : World) (xs ys zs : List Int) (k : Nat) (v9 : Value) (wr : World) : Prop :=
  ∃ (j : Nat) (n L : Int) (p A : Option Addr) (m c : Nat) (xs' ys' : List Int), v9 = .int .i64 (j : Int) ∧ j + k = zs.length ∧ xs' ++ ys' = xs ++ ys ++ zs.take j ∧
    VF (fun b => K b ∨ w.heap.size + 1 < b) wr n L p (.slice A m c) xs' ys' ∧ (ys' = [] → xs' = []) ∧
    wr.heap[w.heap.size]? = some (.cells #[.int .i64 n, .int .i64 L, .pointer p, .slice A m c] VT (0, 0)) ∧ wr.heap[w.heap.size + 1]? = some (.cells #[.int .i64 0, .int .i64 0, .pointer none, .slice none 0 0] VT (0, 0)) ∧ Below w.heap.size w wr

set_option maxHeartbeats 4000000 in
theorem push_f (K Kl : Nat → Prop) (n L : Int) (p A : Option Addr) (m c : Nat) (ad0 : Option Addr) (c' : Nat) (xs ys zs : List Int) (w : World) (h : VF K w n L p (.slice A m c) xs ys) (hi : ys = [] → xs = [])
    (hs : SlV Kl w (.slice ad0 zs.length c') (ints zs)) (hb : xs.length + ys.length + zs.length ≤ 1000000) (hK : ∀ b, K b → b < w.heap.size) :
    Calls Try.prog 14 #[vec n L p (.slice A m c), .slice ad0 zs.length c'] w (Ret (fun v w' => VRep (New K w) w' v (xs ++ ys ++ zs)) w) := by
  have HV := Lib.hid h; clear h
  have HI := Lib.hid hi; clear hi
  have HK := Lib.hid hK; clear hK
  have HS0 := Lib.hid hs; clear hs
  have HB := Lib.hid hb; clear hb
  go_enter Try.func14, Try.ntmps14
  go_wp2_with fail
  go_loopg [9] zs.length (fun k v9 wr => Aside (PushI K w xs ys zs k v9 wr))
  case atStart =>
    show PushI K w xs ys zs _ _ _
    refine ⟨0, n, L, p, A, m, c, xs, ys, rfl, by omega, by simp, ?_, HI.out, blk_alloc (blk_new w _) _, heap_k1 w _ _, by go_grown⟩
    exact (HV.out.mono fun _ h => Or.inl h).below (by go_grown)
  case round =>
    obtain ⟨j, n', L', p', A', m', c1, xs', ys', rfl, hj, hl, hV, hi, BK, BR, hB⟩ := hrel.out
    obtain ⟨⟨k0, k1, k2, k3⟩, f0, f1, f2, f3⟩ := box4 BK
    obtain ⟨⟨r0, r1, r2, r3⟩, e0, e1, e2, e3⟩ := box4 BR
    have hm' : m' = ys'.length := by have := hV.tail.len; simpa using this
    have hne12 : w.heap.size + 1 ≠ w.heap.size := by omega
    have hsz : w.heap.size + 1 < wr.heap.size := blk_lt BR
    have hnum := hV.num
    have hall := hV.all
    have hfew := hV.few
    have HBK := Lib.hid BK; clear BK
    have HBR := Lib.hid BR; clear BR
    have HV2 := Lib.hid hV; clear hV
    have HI2 := Lib.hid hi; clear hi
    have HL := Lib.hid hl; clear hl hrel
    have HM := Lib.hid hm'; clear hm'
    cases gk with
    | zero =>
      obtain rfl : j = zs.length := by omega
      clear hj
      have HN := Lib.hid hnum; clear hnum
      go_wp2
      refine bodyPost_ret (results_vt rfl _ _ (w.heap.size + 1) #[.int .i64 n', .int .i64 L', .pointer p', .slice A' m' c1] rfl rfl (put4 HBR.out)) rfl ?_
      refine ⟨_, rfl, ⟨n', L', p', A', m', c1, xs', ys', rfl, by rw [HL.out, List.take_length], ?_, HI2.out⟩, by go_grown⟩
      refine HV2.out.keep (fun b hb => ?_) (fun b hb hlt => ?_)
      · exact hb.imp id (fun h => by omega)
      · have hnb : b ≠ w.heap.size + 1 := by
          rcases hb with h | h
          · have := HK.out b h; omega
          · omega
        repeat rw [Below.heap_setCell _ _ _ _ (by exact hnb)]
    | succ k =>
      have hjl : j < zs.length := by omega
      obtain ⟨z, hz⟩ : ∃ z, zs[j]? = some z := ⟨_, List.getElem?_eq_getElem hjl⟩
      obtain ⟨ad, rfl, hcell⟩ := HS0.out.addr (by simp; omega)
      have hcx : wr.cell? (ad.add j) = some (.int .i64 z) := cell_below (hcell j _ (by simp [hz])) hB
      have hzl : zs.length ≤ 1000000 := by have := HB.out; omega
      have htk : zs.take (j + 1) = zs.take j ++ [z] := by rw [List.take_add_one, hz]; rfl
      have HT := Lib.hid htk; clear htk hz hcell
      have hjz : (j : Int) < (zs.length : Int) := by omega
      have HN := Lib.hid hnum; clear hnum
      by_cases hfull : m' = 32
      · subst hfull
        have hy32 : ys'.length = 32 := by have := HM.out; omega
        have hS := fun W (hb : Below wr.heap.size wr W) => sink_c _ n' L' p' A' 32 c1 xs' ys' W (HV2.out.below hb) hy32
        have HS := Lib.hid hS; clear hS
        have hG := fun W => grown_int_n none 0 0 [] z W (fun _ => False) (SlV.nil _ W) (by simp)
        have HG := Lib.hid hG; clear hG
        have hnb : n' ≤ 1000000 := by have := HN.out; omega
        have hn0 : 0 ≤ n' := by have := HN.out; omega
        go_wp2_with (first
          | (go_at_call 26; ((with_reducible refine (HS.out _ (Below.refl _ _)).mono ?_); rintro e w1 ⟨v, rfl, ⟨L2, q, rfl, hV1⟩, hb1⟩; have BK := blk_below HBK.out hb1; obtain ⟨⟨k0, k1, k2, k3⟩, f0, f1, f2, f3⟩ := box4 BK; have HBK1 := Lib.hid BK; clear BK; have HV1 := Lib.hid hV1; clear hV1))
          | (go_at_call 27; ((with_reducible refine (HG.out _).mono ?_); rintro e w2 ⟨v, rfl, hv, hb2⟩; obtain ⟨A2, n2, c2, rfl⟩ := hv.form; have BK := blk_below (put4 HBK1.out) hb2; obtain ⟨⟨k0, k1, k2, k3⟩, f0, f1, f2, f3⟩ := box4 BK; have HBK2 := Lib.hid BK; clear BK)))
        go_roundg k
        case measure => omega
        case rel =>
          show PushI K w xs ys zs _ _ _
          have hBw : Below w.heap.size w w1 := below_trans hB hb1
          have hnbk : ∀ b, (K b ∨ w.heap.size + 1 < b) → b ≠ w.heap.size := fun b h => h.elim (fun h => by have := HK.out b h; omega) (fun h => by omega)
          refine ⟨j + 1, n' + 1, L2, q, A2, n2, c2, xs' ++ ys', [z], by first | rfl | (push_cast; rfl), by omega, ?_, ⟨?_, ?_, ?_, ?_, ?_⟩, by simp, ?_, ?_, ?_⟩
          · rw [HL.out, HT.out]; simp
          · rw [HN.out, List.length_append]; simp
          · refine HV1.out.trie.keep (fun b h => h.elim id (fun h => Or.inr (by omega))) fun b hk hlt => ?_
            have hnb : b ≠ w.heap.size := hk.elim (fun h => hnbk b h) (fun h => by omega)
            repeat rw [Below.heap_setCell _ _ _ _ (by exact hnb)]
            refine (hb2.block b ?_).trans ?_
            · rw [World.size_setCell, World.size_setCell, World.size_setCell, World.size_setCell]; exact hlt
            · repeat rw [Below.heap_setCell _ _ _ _ (by exact hnb)]
          · have hv' : SlV (Fresh w1) w2 (.slice A2 n2 c2) (ints [z]) := by
              have := hv.mono (K' := Fresh w1) (fun b h => by unfold Fresh at h ⊢; rw [World.size_setCell, World.size_setCell, World.size_setCell, World.size_setCell] at h; exact h)
              simpa using this
            refine (hv'.mono (K' := fun b => K b ∨ w.heap.size + 1 < b) (fun b h => Or.inr (by have := hb1.size; unfold Fresh at h; omega))).keep fun b hk hlt => ?_
            repeat rw [Below.heap_setCell _ _ _ _ (by exact hnbk b hk)]
          · simp
          · have := HB.out; have h2 := congrArg List.length HL.out; simp at h2 ⊢; omega
          · exact blk_put (blk_put HBK2.out 3 _ rfl) 0 _ rfl
          · exact blk_far (blk_far (blk_below (blk_far (blk_far (blk_far (blk_far (blk_below HBR.out hb1) hne12 _) hne12 _) hne12 _) hne12 _) hb2) hne12 _) hne12 _
          · have hBw2 : Below w.heap.size w w2 := below_then (by go_grown) (by rw [World.size_setCell, World.size_setCell, World.size_setCell, World.size_setCell]; exact hBw.size) hb2
            go_grown
      · have hmne : ((m' : Int) == 32) = false := beq_false_of_ne (by omega)
        have hlt : ys'.length < 32 := by have := HM.out; omega
        have hG := fun W (hb : Below wr.heap.size wr W) => grown_int_n A' m' c1 (ints ys') z W _ (HV2.out.tail.below hb) (by simp; omega)
        have HG := Lib.hid hG; clear hG
        have hnb : n' ≤ 1000000 := by have := HN.out; omega
        have hn0 : 0 ≤ n' := by have := HN.out; omega
        clear hfull
        go_wp2_with (go_at_call 27; ((with_reducible refine (HG.out _ (Below.refl _ _)).mono ?_); rintro e w1 ⟨v, rfl, hv, hb1⟩; obtain ⟨A2, n2, c2, rfl⟩ := hv.form; have BK := blk_below HBK.out hb1; obtain ⟨⟨k0, k1, k2, k3⟩, f0, f1, f2, f3⟩ := box4 BK; have HBK2 := Lib.hid BK; clear BK))
        go_roundg k
        case measure => omega
        case rel =>
          show PushI K w xs ys zs _ _ _
          have hBw : Below w.heap.size w w1 := below_trans hB hb1
          have hnbk : ∀ b, (K b ∨ w.heap.size + 1 < b) → b ≠ w.heap.size := fun b h => h.elim (fun h => by have := HK.out b h; omega) (fun h => by omega)
          refine ⟨j + 1, n' + 1, L', p', A2, n2, c2, xs', ys' ++ [z], by first | rfl | (push_cast; rfl), by omega, ?_, ⟨?_, ?_, ?_, ?_, ?_⟩, by simp, ?_, ?_, ?_⟩
          · rw [← List.append_assoc, HL.out, HT.out]; simp
          · rw [HN.out, List.length_append, List.length_singleton]; omega
          · refine HV2.out.trie.keep (fun _ h => h) fun b hk hlt => ?_
            repeat rw [Below.heap_setCell _ _ _ _ (by exact hnbk b hk)]
            exact hb1.block b hlt
          · have hv' : SlV (Fresh wr) w1 (.slice A2 n2 c2) (ints (ys' ++ [z])) := by simpa using hv
            refine (hv'.mono (K' := fun b => K b ∨ w.heap.size + 1 < b) (fun b h => Or.inr (Nat.lt_of_lt_of_le hsz h))).keep fun b hk hlt => ?_
            repeat rw [Below.heap_setCell _ _ _ _ (by exact hnbk b hk)]
          · rw [List.length_append, List.length_singleton]; omega
          · rw [List.length_append, List.length_singleton]; have := HB.out; have h2 := congrArg List.length HL.out; simp at h2; omega
          · exact blk_put (blk_put HBK2.out 3 _ rfl) 0 _ rfl
          · exact blk_far (blk_far (blk_below HBR.out hb1) hne12 _) hne12 _
          · go_grown

/-- A VECTOR WITH THINGS BEHIND. -/
theorem push_c (K Kl : Nat → Prop) (v s : Value) (l zs : List Int) (w : World) (h : VRep K w v l) (hs : SlV Kl w s (ints zs)) (hb : l.length + zs.length ≤ 1000000) :
    Calls Try.prog 14 #[v, s] w (Ret (fun v w' => VRep (New K w) w' v (l ++ zs)) w) := by
  obtain ⟨n, L, p, A, m, c, xs, ys, rfl, rfl, hV, hi⟩ := h
  obtain ⟨ad, n', c', rfl⟩ := hs.form
  obtain rfl : n' = zs.length := by have := hs.len; simpa using this
  refine (push_f (fun b => K b ∧ b < w.heap.size) Kl n L p A m c ad c' xs ys zs w hV.bound hi hs (by simpa using hb) (fun b h => h.2)).mono ?_
  rintro e w' ⟨v, rfl, hr, hb⟩
  exact ⟨v, rfl, hr.mono fun b h => h.imp (·.1) id, hb⟩

theorem zero_vec (K : Nat → Prop) (w : World) : VRep K w (vec 0 0 none (.slice none 0 0)) [] :=
  ⟨0, 0, none, none, 0, 0, [], [], rfl, rfl, ⟨by simp, Or.inl ⟨rfl, rfl, rfl⟩, SlV.nil _ _, by simp, by simp⟩, fun _ => rfl⟩

set_option maxHeartbeats 2000000 in
/-- THE VECTOR OF THINGS. -/
theorem of_c (Kl : Nat → Prop) (s : Value) (zs : List Int) (w : World) (hs : SlV Kl w s (ints zs)) (hb : zs.length ≤ 1000000) :
    Calls Try.prog 9 #[s] w (Ret (fun v w' => VRep (Fresh w) w' v zs) w) := by
  obtain ⟨A, n, c, rfl⟩ := hs.form
  have hP := fun W (hw : Below w.heap.size w W) => push_c (fun _ => False) Kl (vec 0 0 none (.slice none 0 0)) (.slice A n c) [] zs W (zero_vec _ W) (hs.below hw) (by simpa using hb)
  have HP := Lib.hid hP; clear hP hs
  go_enter Try.func9, Try.ntmps9
  go_wp2_with (go_at_call 14; (refine (HP.out _ (by go_grown)).mono ?_); rintro e w1 ⟨v, rfl, hV, hb1⟩; obtain ⟨n', L, p, A', m, c', xs, ys, rfl, hl, hF, hi⟩ := hV; have BR : w1.heap[w.heap.size]? = some (.cells #[.int .i64 0, .int .i64 0, .pointer none, .slice none 0 0] VT (0, 0)) := blk_below (blk_alloc (blk_new w _) _) hb1; obtain ⟨⟨k0, k1, k2, k3⟩, f0, f1, f2, f3⟩ := box4 BR; have HBR := Lib.hid BR; clear BR; have HL := Lib.hid hl; clear hl; have HF := Lib.hid hF; clear hF; have HI := Lib.hid hi; clear hi)
  refine bodyPost_ret (results_vt rfl _ _ w.heap.size #[.int .i64 n', .int .i64 L, .pointer p, .slice A' m c'] rfl rfl (put4 HBR.out)) rfl ?_
  have hB1 : Below w.heap.size w w1 := below_trans (by go_grown) hb1
  refine ⟨_, rfl, ⟨n', L, p, A', m, c', xs, ys, rfl, by simpa using HL.out, ?_, HI.out⟩, by go_grown⟩
  refine HF.out.keep (fun b hb => ?_) (fun b hb hlt => ?_)
  · rcases hb with h | h
    · exact h.elim
    · rw [World.size_alloc, World.size_alloc] at h; unfold Fresh; omega
  · have hnb : b ≠ w.heap.size := by
      rcases hb with h | h
      · exact h.elim
      · rw [World.size_alloc, World.size_alloc] at h; omega
    repeat rw [Below.heap_setCell _ _ _ _ (by exact hnb)]
end Go.Proofs.Ytmoakgacffjblaa.Pv
end

section
namespace Go.Proofs.Ytmoakgacffjblaa.Pv
open Go Go.RowKit Go.Proofs.Ytmoakgacffjblaa.Mem Go.Proofs.YtmoakgacffjblaaW.PrintWords

/-- what lift gives -/
def LiftP (K : Nat → Prop) (n : Int) (zs ls : List Int) (v : Value) (w' : World) : Prop :=
  ∃ (L : Int) (p A : Option Addr) (m c : Nat), v = vec n L p (.slice A m c) ∧ Trie K w' L p zs ∧ SlV K w' (.slice A m c) (ints ls)

/-- what holds at each round's head -/
def LiftI (K : Nat → Prop) (w : World) (n : Int) (t : Value) (zs ls : List Int) (k : Nat) (wr : World) : Prop :=
  ∃ g, k ≤ 10 ∧ NRep (fun b => K b ∨ w.heap.size + 1 < b) wr (k + 1) (some ⟨g, 0, none⟩) zs ∧ SlV (fun b => K b ∨ w.heap.size + 1 < b) wr t (ints ls) ∧
    wr.heap[w.heap.size]? = some (.cells #[.int .i64 n, .int .i64 ((k : Int) + 1), .pointer (some ⟨g, 0, none⟩), t] VT (0, 0)) ∧ wr.heap[w.heap.size + 1]? = some (.cells #[.int .i64 0, .int .i64 0, .pointer none, .slice none 0 0] VT (0, 0)) ∧ Below w.heap.size w wr

set_option maxHeartbeats 4000000 in
theorem lift_f (K : Nat → Prop) (d : Nat) (n : Int) (g0 : Nat) (A : Option Addr) (m c : Nat) (xs : List Int) (w : World) (hN : NRep K w (d + 1) (some ⟨g0, 0, none⟩) xs) (h32 : 32 ∣ xs.length) (hd : d ≤ 10) (hn : n ≤ 1000000) (hK : ∀ b, K b → b < w.heap.size) :
    Calls Try.prog 28 #[vec n ((d : Int) + 1) (some ⟨g0, 0, none⟩) (.slice A m c)] w (Ret (LiftP (New K w) n (xs.take (xs.length - 32)) (xs.drop (xs.length - 32))) w) := by
  have hD := fun W (hw : Below w.heap.size w W) => drop_c K d hd ((d : Int) + 1) (some ⟨g0, 0, none⟩) xs W rfl (hN.below hw) h32
  have HD := Lib.hid hD; clear hD hN
  have HK := Lib.hid hK; clear hK
  have H32 := Lib.hid h32; clear h32
  have hne12 : w.heap.size + 1 ≠ w.heap.size := by omega
  go_enter Try.func28, Try.ntmps28
  go_wp2_with (go_at_call 37; (refine (HD.out _ (by go_grown)).mono ?_); rintro e w1 ⟨u, rfl, ⟨q, v, rfl, hv, hq⟩, hb1⟩; obtain ⟨A1, n1, c1, rfl⟩ := hv.form; have BK : w1.heap[w.heap.size]? = some (.cells #[.int .i64 n, .int .i64 ((d : Int) + 1), .pointer (some ⟨g0, 0, none⟩), .slice A m c] VT (0, 0)) := blk_below (blk_alloc (blk_new w _) _) hb1; have BR : w1.heap[w.heap.size + 1]? = some (.cells #[.int .i64 0, .int .i64 0, .pointer none, .slice none 0 0] VT (0, 0)) := blk_below (heap_k1 w _ _) hb1; obtain ⟨⟨k0, k1, k2, k3⟩, f0, f1, f2, f3⟩ := box4 BK; obtain ⟨⟨r0, r1, r2, r3⟩, e0, e1, e2, e3⟩ := box4 BR; have HBK := Lib.hid BK; have HBR := Lib.hid BR; clear BK BR; have HV := Lib.hid hv; clear hv; have hB1 : Below w.heap.size w w1 := below_trans (by go_grown) hb1; have hS1 : w.heap.size + 2 ≤ w1.heap.size := (by have := hb1.size; rw [World.size_alloc, World.size_alloc] at this; omega); rcases hq with ⟨rfl, ht⟩ | ⟨g', rfl, hr⟩)
  · refine bodyPost_ret (results_vt rfl _ _ (w.heap.size + 1) #[.int .i64 n, .int .i64 0, .pointer none, .slice A1 n1 c1] rfl rfl (put4 (blk_far (blk_far (blk_far HBR.out hne12 _) hne12 _) hne12 _))) rfl ?_
    refine ⟨_, rfl, ⟨0, none, A1, n1, c1, rfl, Or.inl ⟨by rw [ht]; rfl, rfl, rfl⟩, ?_⟩, by go_grown⟩
    refine (HV.out.keep fun b hb hlt => ?_).mono fun b hb => ?_
    · have hnb : b ≠ w.heap.size ∧ b ≠ w.heap.size + 1 := by
        rcases hb with h | h
        · have := HK.out b h; omega
        · rw [World.size_alloc, World.size_alloc] at h; omega
      repeat rw [Below.heap_setCell _ _ _ _ (by first | exact hnb.1 | exact hnb.2)]
    · rcases hb with h | h
      · exact Or.inl h
      · rw [World.size_alloc, World.size_alloc] at h; exact Or.inr (by omega)
  · have hxs : 32 ≤ xs.length := by
      have := hr.len
      rw [List.length_take] at this
      omega
    have hz32 : 32 ∣ (xs.take (xs.length - 32)).length := by have := H32.out; rw [List.length_take]; omega
    generalize xs.take (xs.length - 32) = zs at *
    generalize xs.drop (xs.length - 32) = ls at *
    have HR := Lib.hid hr; clear hr
    have HZ := Lib.hid hz32; clear hz32 hxs
    go_loopg [] d (fun k wr => Aside (LiftI K w n (.slice A1 n1 c1) zs ls k wr))
    case atStart =>
      show LiftI K w n (.slice A1 n1 c1) zs ls _ _
      have hkk : ∀ b, New K ((w.alloc (.cells #[.int .i64 n, .int .i64 ((d : Int) + 1), .pointer (some ⟨g0, 0, none⟩), .slice A m c] VT)).alloc (.cells #[.int .i64 0, .int .i64 0, .pointer none, .slice none 0 0] VT)) b → K b ∨ w.heap.size + 1 < b := fun b hb => hb.imp id (fun h => by rw [World.size_alloc, World.size_alloc] at h; omega)
      have hnb : ∀ b, (K b ∨ w.heap.size + 1 < b) → b ≠ w.heap.size := fun b h => h.elim (fun h => by have := HK.out b h; omega) (fun h => by omega)
      refine ⟨g', hd, HR.out.keep hkk fun b hb _ => ?_, (HV.out.keep fun b hb _ => ?_).mono hkk, blk_put (blk_put HBK.out 2 _ rfl) 3 _ rfl, blk_far (blk_far HBR.out hne12 _) hne12 _, by go_grown⟩
      · have := hnb b (hkk b hb)
        repeat rw [Below.heap_setCell _ _ _ _ (by exact this)]
      · have := hnb b (hkk b hb)
        repeat rw [Below.heap_setCell _ _ _ _ (by exact this)]
    case round =>
      obtain ⟨g, hk11, hN, hs, BK, BR, hB⟩ := hrel.out
      clear hrel
      obtain ⟨⟨r0, r1, r2, r3⟩, e0, e1, e2, e3⟩ := box4 BR
      have HBR2 := Lib.hid BR; clear BR
      have HS := Lib.hid hs; clear hs
      have HN := Lib.hid hN
      cases gk with
      | zero =>
        have BK : wr.heap[w.heap.size]? = some (.cells #[.int .i64 n, .int .i64 1, .pointer (some ⟨g, 0, none⟩), .slice A1 n1 c1] VT (0, 0)) := by simpa using BK
        obtain ⟨⟨k0, k1, k2, k3⟩, f0, f1, f2, f3⟩ := box4 BK
        clear BK hN
        go_wp2
        refine bodyPost_ret (results_vt rfl _ _ (w.heap.size + 1) #[.int .i64 n, .int .i64 (1), .pointer (some ⟨g, 0, none⟩), .slice A1 n1 c1] rfl rfl (put4 HBR2.out)) rfl ?_
        refine ⟨_, rfl, ⟨_, _, A1, n1, c1, rfl, Or.inr ⟨0, g, rfl, rfl, ?_, HZ.out, Or.inl rfl⟩, ?_⟩, by go_grown⟩
        · refine (HN.out.keep (fun b hb => hb.imp id (fun h => by omega)) fun b hb hlt => ?_)
          have hnb : b ≠ w.heap.size + 1 := hb.elim (fun h => by have := HK.out b h; omega) (fun h => by omega)
          repeat rw [Below.heap_setCell _ _ _ _ (by exact hnb)]
        · refine (HS.out.keep fun b hb hlt => ?_).mono (fun b hb => hb.imp id (fun h => by omega))
          have hnb : b ≠ w.heap.size + 1 := hb.elim (fun h => by have := HK.out b h; omega) (fun h => by omega)
          repeat rw [Below.heap_setCell _ _ _ _ (by exact hnb)]

      | succ k =>
        have hN2 : NRep (fun b => K b ∨ w.heap.size + 1 < b) wr (k + 2) (some ⟨g, 0, none⟩) zs := hN
        clear hN
        have BK : wr.heap[w.heap.size]? = some (.cells #[.int .i64 n, .int .i64 ((k : Int) + 1 + 1), .pointer (some ⟨g, 0, none⟩), .slice A1 n1 c1] VT (0, 0)) := by simpa using BK
        obtain ⟨g1, s, ps, yss, he, hKg, hg, hs', h4, h5, hzs, h6, h7, h8⟩ := hN2
        injection he with he
        injection he with he _ _
        subst he
        have hu := kids_uni h4 h5 h8
        obtain ⟨ad, np, cp, rfl⟩ := hs'.form
        obtain ⟨ad, rfl, hcell⟩ := hs'.addr (by simp; omega)
        have hnp : np = ps.length := by have := hs'.len; simpa using this
        have hc0 := blk_cell hg 0
        simp at hc0
        obtain ⟨o, ho⟩ : ∃ o, ps[0]? = some o := ⟨_, List.getElem?_eq_getElem (by omega)⟩
        have hcx : wr.cell? (ad.add 0) = some (.pointer o) := hcell 0 _ (by simp [ho])
        have hcx' : wr.cell? ad = some (.pointer o) := by unfold Addr.add at hcx; simpa using hcx
        obtain ⟨⟨k0, k1, k2, k3⟩, f0, f1, f2, f3⟩ := box4 BK
        have HBK2 := Lib.hid BK; clear BK
        have hfl := flat_len yss hu h6
        have hk10 : k ≤ 10 := by omega
        by_cases h1 : ps.length = 1
        · obtain rfl : np = 1 := by omega
          obtain ⟨ys, rfl⟩ : ∃ ys, yss = [ys] := List.length_eq_one_iff.1 (by omega)
          have hO := h5 0 o ys ho rfl
          have hzy : zs = ys := by simpa using hzs
          subst hzy
          have HO := Lib.hid hO
          clear hO hg h5 hs' h8 hu hcell ho hfl hzs h4 h6 h7 hnp h1
          go_wp2
          obtain ⟨go', hgo⟩ : ∃ go', o = some ⟨go', 0, none⟩ := by
            cases k with
            | zero => obtain ⟨g', _, hq, _⟩ := HO.out; exact ⟨g', hq⟩
            | succ d => obtain ⟨g', _, _, _, hq, _⟩ := HO.out; exact ⟨g', hq⟩
          subst hgo
          have hnb : ∀ b, (K b ∨ w.heap.size + 1 < b) → b ≠ w.heap.size := fun b h => h.elim (fun h => by have := HK.out b h; omega) (fun h => by omega)
          go_roundg k
          case measure => omega
          case rel =>
            show LiftI K w n (.slice A1 n1 c1) zs ls _ _
            refine ⟨go', hk10, HO.out.keep (fun b h => h) fun b hb _ => ?_, HS.out.keep fun b hb _ => ?_, blk_put (blk_put HBK2.out 2 _ rfl) 1 _ rfl, blk_far (blk_far HBR2.out hne12 _) hne12 _, by go_grown⟩
            · have := hnb b hb
              repeat rw [Below.heap_setCell _ _ _ _ (by exact this)]
            · have := hnb b hb
              repeat rw [Below.heap_setCell _ _ _ _ (by exact this)]
        · have hnp1 : ((np : Int) == 1) = false := beq_false_of_ne (by omega)
          have hbig : 32 ^ (k + 1) < zs.length := by
            have := hfl.1
            rw [hzs]
            have h2 : 32 ^ (k + 1) ≤ (yss.length - 1) * 32 ^ (k + 1) := Nat.le_mul_of_pos_left _ (by omega)
            omega
          have HBG := Lib.hid hbig
          clear hg h5 hs' h8 hu hcell ho hfl hzs h4 h6 h7 hnp h1 hbig
          go_wp2
          refine bodyPost_ret (results_vt rfl _ _ (w.heap.size + 1) #[.int .i64 n, .int .i64 ((k : Int) + 1 + 1), .pointer (some ⟨g, 0, none⟩), .slice A1 n1 c1] rfl rfl (put4 HBR2.out)) rfl ?_
          refine ⟨_, rfl, ⟨_, _, A1, n1, c1, rfl, Or.inr ⟨k + 1, g, by push_cast; rfl, rfl, ?_, HZ.out, Or.inr HBG.out⟩, ?_⟩, by go_grown⟩
          · refine (HN.out.keep (fun b hb => hb.imp id (fun h => by omega)) fun b hb hlt => ?_)
            have hnb : b ≠ w.heap.size + 1 := hb.elim (fun h => by have := HK.out b h; omega) (fun h => by omega)
            repeat rw [Below.heap_setCell _ _ _ _ (by exact hnb)]
          · refine (HS.out.keep fun b hb hlt => ?_).mono (fun b hb => hb.imp id (fun h => by omega))
            have hnb : b ≠ w.heap.size + 1 := hb.elim (fun h => by have := HK.out b h; omega) (fun h => by omega)
            repeat rw [Below.heap_setCell _ _ _ _ (by exact hnb)]

end Go.Proofs.Ytmoakgacffjblaa.Pv
end

section
namespace Go.Proofs.Ytmoakgacffjblaa.Pv
open Go Go.RowKit Go.Proofs.Ytmoakgacffjblaa.Mem Go.Proofs.YtmoakgacffjblaaW.PrintWords

theorem results_c3 {P : Program} {fn : Func} {p a b : Tmp} {ty ta tb : TypeId} (h : fn.results = #[.cell p ty, .tmp a, .tmp b]) (tmps : Array Value) (w : World) (g : Nat) (t : TypeId) (cs : Array Value) (fr : Nat × Nat) (d : TypeDesc)
    (hp : tmps.getD p undef = .pointer (some ⟨g, 0, none⟩)) (hg : w.heap[g]? = some (.cells cs t fr))
    (hu : P.underlying ty = some d) (hd : (match d with | .struct _ | .array _ _ => true | _ => false) = true) (hi : (P.info? ty).map (·.size) = some cs.size) (va vb : Value) (ha : tmps.getD a undef = va) (hb : tmps.getD b undef = vb) :
    (results fn tmps).run P w = .ok (.tuple #[.agg cs, va, vb]) w := by
  have hp' : tmps[p]?.getD undef = .pointer (some ⟨g, 0, none⟩) := by simpa using hp
  have ha' : tmps[a]?.getD undef = va := by simpa using ha
  have hb' : tmps[b]?.getD undef = vb := by simpa using hb
  simp [results, h, hp', ha', hb', asAddr, run_loadVar_row w g t ty cs fr d hg hu hd hi]

theorem results_vt3 {fn : Func} {p a b : Tmp} (h : fn.results = #[.cell p VT, .tmp a, .tmp b]) (tmps : Array Value) (w : World) (g : Nat) (cs : Array Value) (va vb : Value) (hp : tmps.getD p undef = .pointer (some ⟨g, 0, none⟩)) (hs : cs.size = 4) (hg : w.heap[g]? = some (.cells cs VT (0, 0))) (ha : tmps.getD a undef = va) (hb : tmps.getD b undef = vb) :
    (results fn tmps).run Try.prog w = .ok (.tuple #[.agg cs, va, vb]) w :=
  results_c3 (ta := VT) (tb := VT) h tmps w g VT cs (0, 0) _ hp hg Try.underlying26 rfl (by rw [hs]; kernel_rfl) va vb ha hb

/-- what Pop gives -/
def PopP (K : Nat → Prop) (l : List Int) (x : Int) (v : Value) (w' : World) : Prop := ∃ u, v = .tuple #[u, .int .i64 x, .bool true] ∧ VRep K w' u l

set_option maxHeartbeats 2000000 in
theorem pop_none (L : Int) (p A : Option Addr) (m c : Nat) (w : World) :
    Calls Try.prog 15 #[vec 0 L p (.slice A m c)] w (Ret (fun v w' => v = .tuple #[vec 0 L p (.slice A m c), .int .i64 0, .bool false]) w) := by
  go_enter Try.func15, Try.ntmps15
  go_wp2
  go_returns
  exact ⟨_, rfl, rfl, by go_grown⟩

set_option maxHeartbeats 4000000 in
theorem pop_a (K : Nat → Prop) (n L : Int) (p A : Option Addr) (m c k : Nat) (x : Int) (xs ys : List Int) (w : World) (hV : VF K w n L p (.slice A m c) xs (ys ++ [x])) (hk : k = ys.length) (hK : ∀ b, K b → b < w.heap.size) (h0 : k ≠ 0) :
    Calls Try.prog 15 #[vec n L p (.slice A m c)] w (Ret (PopP (New K w) (xs ++ ys) x) w) := by
  obtain ⟨hnum, htr, hs, hfew, hall⟩ := hV
  have hm : m = k + 1 := by have := hs.len; simpa [hk] using this
  subst hm
  obtain ⟨ad, rfl, hcell⟩ := hs.addr (by simp)
  have hcx : w.cell? (ad.add k) = some (.int .i64 x) := hcell k _ (by rw [hk]; simp)
  have hcx2 : ∀ a b : Obj, ((w.alloc a).alloc b).cell? (ad.add k) = some (.int .i64 x) := fun a b => cell_below hcx (((Below.refl _ _).alloc (Nat.le_refl _) _).alloc (by rw [World.size_alloc]; omega) _)
  simp at hfew hall
  have hk31 : k ≤ 31 := by omega
  have hn1 : 1 ≤ n := by rw [hnum, List.length_append]; simp; omega
  have hnb : n ≤ 1000000 := by rw [hnum, List.length_append]; simp; omega
  have hn0 : (n == 0) = false := beq_false_of_ne (by omega)
  have hne12 : w.heap.size + 1 ≠ w.heap.size := by omega
  obtain ⟨i0, hi, hz0, hz1, hz2⟩ := info_parts info_int
  have hmk : ∀ W, (Instr.makeSlice 24 (.int .i64 (k : Int)) (.int .i64 (k : Int))).run Try.prog W = .ok (.slice (some ⟨W.heap.size, 0, none⟩) k k) (W.alloc (.cells (Array.replicate k (.int .i64 0)) 3)) := by
    intro W
    have := run_make (P := Try.prog) W 24 3 i0 (.int .i64 0) Try.underlying24 hi hz0 .i64 .i64 (k : Int) (k : Int) (by omega) (Int.le_refl _) (by rw [hz2]; omega) (by omega)
    rw [hz1, Nat.mul_one, show Value.cells (.int .i64 0) = #[.int .i64 0] from rfl, madeCells_one] at this
    simpa using this
  have HNUM := Lib.hid hnum; clear hnum
  have HTR := Lib.hid htr; clear htr
  have HS := Lib.hid hs; clear hs
  have HK := Lib.hid hK; clear hK
  have HKY := Lib.hid hk; clear hk
  have hKb : Hid (∀ b, K b → b ≠ w.heap.size ∧ b ≠ w.heap.size + 1) := Lib.hid fun b h => by have := HK.out b h; omega
  have HALL := Lib.hid hall; clear hall
  have he : ((k : Int) == 0) = false := beq_false_of_ne (by omega)
  clear hi hz0 hz1 hz2 i0 hcell hfew
  go_enter Try.func15, Try.ntmps15
  go_wp2_with ((with_reducible show wpList _ _ _ (⟨some 32, _, _, _, _, _⟩ :: _) _ _); refine wpList_copy_part rfl (.tmp 29) (.tmp 31) 24 rfl 3 Try.underlying24 size_int (some ad) (k + 1) c k k (.int .i64 0) (ints (ys ++ [x])) w (by go_grown) (by simp [Act.eval]) rfl K HS.out (Nat.le_succ _) ?_; intro w2 hg2 hb2; have BK : w2.heap[w.heap.size]? = some (.cells #[.int .i64 (n - 1), .int .i64 L, .pointer p, .slice (some ad) (k + 1) c] VT (0, 0)) := blk_below (blk_alloc (blk_new w _) _) hb2; have BR : w2.heap[w.heap.size + 1]? = some (.cells #[.int .i64 0, .int .i64 0, .pointer none, .slice none 0 0] VT (0, 0)) := blk_below (heap_k1 w _ _) hb2; obtain ⟨⟨k0, k1, k2, k3⟩, f0, f1, f2, f3⟩ := box4 BK; obtain ⟨⟨r0, r1, r2, r3⟩, e0, e1, e2, e3⟩ := box4 BR; have HBK := Lib.hid BK; have HBR := Lib.hid BR; clear BK BR; have hs2 : w.heap.size + 2 ≤ w2.heap.size := (by have := hb2.size; rw [World.size_alloc, World.size_alloc] at this; omega); have hB2 : Below w.heap.size w w2 := below_then (by go_grown) (by rw [World.size_alloc, World.size_alloc]; omega) hb2; have HG2 := Lib.hid hg2; clear hg2)
  have hlp : ((ints (ys ++ [x])).take k).length = k := by have := HKY.out; simp; omega
  have hys : (ints (ys ++ [x])).take k = ints ys := by rw [HKY.out]; simp
  refine bodyPost_ret (results_vt3 rfl _ _ (w.heap.size + 1) #[.int .i64 (n - 1), .int .i64 L, .pointer p, .slice (some ⟨w.heap.size + 1 + 1, 0, none⟩) k k] (.int .i64 x) (.bool true) rfl rfl (put4 (blk_far HBR.out hne12 _)) rfl rfl) rfl ?_
  refine ⟨_, rfl, ⟨_, rfl, n - 1, L, p, some ⟨w.heap.size + 1 + 1, 0, none⟩, k, k, xs, ys, rfl, rfl, ⟨?_, ?_, ?_, ?_, ?_⟩, ?_⟩, by go_grown⟩
  · rw [HNUM.out, List.length_append]; simp; omega
  · refine HTR.out.keep (fun b h => Or.inl h) fun b hb hlt => ?_
    have hnb := hKb.out b hb
    repeat rw [Below.heap_setCell _ _ _ _ (by first | exact hnb.1 | exact hnb.2)]
    exact hB2.block b hlt
  · have hky := HKY.out
    have h1 := SlV.blk (K := fun b => w.heap.size + 1 < b) (xs := ints ys) (c := k) HG2.out.out (fun j u hu => by rw [hys]; simpa using hu) (by simp; omega) (by simp [maxLen]; omega) (fun u hu => HS.out.one u (by rw [show ints (ys ++ [x]) = ints ys ++ ints [x] by simp]; exact List.mem_append_left _ hu)) (by rw [World.size_alloc, World.size_alloc]; omega)
    rw [World.size_alloc, World.size_alloc, show (ints ys).length = k by simp; omega] at h1
    refine (h1.keep fun b hb hlt => ?_).mono fun b hb => Or.inr (by omega)
    have hnb : b ≠ w.heap.size ∧ b ≠ w.heap.size + 1 := by omega
    repeat rw [Below.heap_setCell _ _ _ _ (by first | exact hnb.1 | exact hnb.2)]
  · have := HKY.out; omega
  · have := HALL.out; omega
  · intro h
    have := HKY.out
    rw [h] at this
    exact absurd this h0

set_option maxHeartbeats 4000000 in
theorem pop_b (K : Nat → Prop) (n L : Int) (p A : Option Addr) (m c k : Nat) (x : Int) (xs ys : List Int) (w : World) (hV : VF K w n L p (.slice A m c) xs (ys ++ [x])) (hk : k = ys.length) (hK : ∀ b, K b → b < w.heap.size) (h0 : k = 0) (hx : xs = []) :
    Calls Try.prog 15 #[vec n L p (.slice A m c)] w (Ret (PopP (New K w) (xs ++ ys) x) w) := by
  obtain ⟨hnum, htr, hs, hfew, hall⟩ := hV
  have hm : m = k + 1 := by have := hs.len; simpa [hk] using this
  subst hm
  obtain ⟨ad, rfl, hcell⟩ := hs.addr (by simp)
  have hcx : w.cell? (ad.add k) = some (.int .i64 x) := hcell k _ (by rw [hk]; simp)
  have hcx2 : ∀ a b : Obj, ((w.alloc a).alloc b).cell? (ad.add k) = some (.int .i64 x) := fun a b => cell_below hcx (((Below.refl _ _).alloc (Nat.le_refl _) _).alloc (by rw [World.size_alloc]; omega) _)
  simp at hfew hall
  have hk31 : k ≤ 31 := by omega
  have hn1 : 1 ≤ n := by rw [hnum, List.length_append]; simp; omega
  have hnb : n ≤ 1000000 := by rw [hnum, List.length_append]; simp; omega
  have hn0 : (n == 0) = false := beq_false_of_ne (by omega)
  have hne12 : w.heap.size + 1 ≠ w.heap.size := by omega
  obtain ⟨i0, hi, hz0, hz1, hz2⟩ := info_parts info_int
  have hmk : ∀ W, (Instr.makeSlice 24 (.int .i64 (k : Int)) (.int .i64 (k : Int))).run Try.prog W = .ok (.slice (some ⟨W.heap.size, 0, none⟩) k k) (W.alloc (.cells (Array.replicate k (.int .i64 0)) 3)) := by
    intro W
    have := run_make (P := Try.prog) W 24 3 i0 (.int .i64 0) Try.underlying24 hi hz0 .i64 .i64 (k : Int) (k : Int) (by omega) (Int.le_refl _) (by rw [hz2]; omega) (by omega)
    rw [hz1, Nat.mul_one, show Value.cells (.int .i64 0) = #[.int .i64 0] from rfl, madeCells_one] at this
    simpa using this
  have HNUM := Lib.hid hnum; clear hnum
  have HTR := Lib.hid htr; clear htr
  have HS := Lib.hid hs; clear hs
  have HK := Lib.hid hK; clear hK
  have HKY := Lib.hid hk; clear hk
  have hKb : Hid (∀ b, K b → b ≠ w.heap.size ∧ b ≠ w.heap.size + 1) := Lib.hid fun b h => by have := HK.out b h; omega
  have HALL := Lib.hid hall; clear hall
  have he : ((k : Int) == 0) = true := by rw [h0]; rfl
  have hle : n - 1 ≤ 0 := by have := HNUM.out; have h2 := HKY.out; rw [hx] at this; simp at this; omega
  have H0 := Lib.hid h0; clear h0
  have HX := Lib.hid hx; clear hx
  clear hi hz0 hz1 hz2 i0 hcell hfew
  go_enter Try.func15, Try.ntmps15
  go_wp2_with ((with_reducible show wpList _ _ _ (⟨some 32, _, _, _, _, _⟩ :: _) _ _); refine wpList_copy_part rfl (.tmp 29) (.tmp 31) 24 rfl 3 Try.underlying24 size_int (some ad) (k + 1) c k k (.int .i64 0) (ints (ys ++ [x])) w (by go_grown) (by simp [Act.eval]) rfl K HS.out (Nat.le_succ _) ?_; intro w2 hg2 hb2; have BK : w2.heap[w.heap.size]? = some (.cells #[.int .i64 (n - 1), .int .i64 L, .pointer p, .slice (some ad) (k + 1) c] VT (0, 0)) := blk_below (blk_alloc (blk_new w _) _) hb2; have BR : w2.heap[w.heap.size + 1]? = some (.cells #[.int .i64 0, .int .i64 0, .pointer none, .slice none 0 0] VT (0, 0)) := blk_below (heap_k1 w _ _) hb2; obtain ⟨⟨k0, k1, k2, k3⟩, f0, f1, f2, f3⟩ := box4 BK; obtain ⟨⟨r0, r1, r2, r3⟩, e0, e1, e2, e3⟩ := box4 BR; have HBK := Lib.hid BK; have HBR := Lib.hid BR; clear BK BR; have hs2 : w.heap.size + 2 ≤ w2.heap.size := (by have := hb2.size; rw [World.size_alloc, World.size_alloc] at this; omega); have hB2 : Below w.heap.size w w2 := below_then (by go_grown) (by rw [World.size_alloc, World.size_alloc]; omega) hb2; have HG2 := Lib.hid hg2; clear hg2)
  have hlp : ((ints (ys ++ [x])).take k).length = k := by have := HKY.out; simp; omega
  have hys : (ints (ys ++ [x])).take k = ints ys := by rw [HKY.out]; simp
  refine bodyPost_ret (results_vt3 rfl _ _ (w.heap.size + 1) #[.int .i64 (n - 1), .int .i64 L, .pointer p, .slice (some ⟨w.heap.size + 1 + 1, 0, none⟩) k k] (.int .i64 x) (.bool true) rfl rfl (put4 (blk_far HBR.out hne12 _)) rfl rfl) rfl ?_
  refine ⟨_, rfl, ⟨_, rfl, n - 1, L, p, some ⟨w.heap.size + 1 + 1, 0, none⟩, k, k, xs, ys, rfl, rfl, ⟨?_, ?_, ?_, ?_, ?_⟩, ?_⟩, by go_grown⟩
  · rw [HNUM.out, List.length_append]; simp; omega
  · refine HTR.out.keep (fun b h => Or.inl h) fun b hb hlt => ?_
    have hnb := hKb.out b hb
    repeat rw [Below.heap_setCell _ _ _ _ (by first | exact hnb.1 | exact hnb.2)]
    exact hB2.block b hlt
  · have hky := HKY.out
    have h1 := SlV.blk (K := fun b => w.heap.size + 1 < b) (xs := ints ys) (c := k) HG2.out.out (fun j u hu => by rw [hys]; simpa using hu) (by simp; omega) (by simp [maxLen]; omega) (fun u hu => HS.out.one u (by rw [show ints (ys ++ [x]) = ints ys ++ ints [x] by simp]; exact List.mem_append_left _ hu)) (by rw [World.size_alloc, World.size_alloc]; omega)
    rw [World.size_alloc, World.size_alloc, show (ints ys).length = k by simp; omega] at h1
    refine (h1.keep fun b hb hlt => ?_).mono fun b hb => Or.inr (by omega)
    have hnb : b ≠ w.heap.size ∧ b ≠ w.heap.size + 1 := by omega
    repeat rw [Below.heap_setCell _ _ _ _ (by first | exact hnb.1 | exact hnb.2)]
  · have := HKY.out; omega
  · have := HALL.out; omega
  · intro h
    have := HKY.out
    rw [h] at this
    exact HX.out

set_option maxHeartbeats 4000000 in
theorem pop_c (K : Nat → Prop) (n L : Int) (p A : Option Addr) (m c k : Nat) (x : Int) (xs ys : List Int) (w : World) (hV : VF K w n L p (.slice A m c) xs (ys ++ [x])) (hk : k = ys.length) (hK : ∀ b, K b → b < w.heap.size) (h0 : k = 0) (hx : xs ≠ []) :
    Calls Try.prog 15 #[vec n L p (.slice A m c)] w (Ret (PopP (New K w) (xs ++ ys) x) w) := by
  obtain ⟨hnum, htr, hs, hfew, hall⟩ := hV
  have hm : m = k + 1 := by have := hs.len; simpa [hk] using this
  subst hm
  obtain ⟨ad, rfl, hcell⟩ := hs.addr (by simp)
  have hcx : w.cell? (ad.add k) = some (.int .i64 x) := hcell k _ (by rw [hk]; simp)
  have hcx2 : ∀ a b : Obj, ((w.alloc a).alloc b).cell? (ad.add k) = some (.int .i64 x) := fun a b => cell_below hcx (((Below.refl _ _).alloc (Nat.le_refl _) _).alloc (by rw [World.size_alloc]; omega) _)
  simp at hfew hall
  have hk31 : k ≤ 31 := by omega
  have hn1 : 1 ≤ n := by rw [hnum, List.length_append]; simp; omega
  have hnb : n ≤ 1000000 := by rw [hnum, List.length_append]; simp; omega
  have hn0 : (n == 0) = false := beq_false_of_ne (by omega)
  have hne12 : w.heap.size + 1 ≠ w.heap.size := by omega
  obtain ⟨i0, hi, hz0, hz1, hz2⟩ := info_parts info_int
  have hmk : ∀ W, (Instr.makeSlice 24 (.int .i64 (k : Int)) (.int .i64 (k : Int))).run Try.prog W = .ok (.slice (some ⟨W.heap.size, 0, none⟩) k k) (W.alloc (.cells (Array.replicate k (.int .i64 0)) 3)) := by
    intro W
    have := run_make (P := Try.prog) W 24 3 i0 (.int .i64 0) Try.underlying24 hi hz0 .i64 .i64 (k : Int) (k : Int) (by omega) (Int.le_refl _) (by rw [hz2]; omega) (by omega)
    rw [hz1, Nat.mul_one, show Value.cells (.int .i64 0) = #[.int .i64 0] from rfl, madeCells_one] at this
    simpa using this
  have HNUM := Lib.hid hnum; clear hnum
  have HTR := Lib.hid htr; clear htr
  have HS := Lib.hid hs; clear hs
  have HK := Lib.hid hK; clear hK
  have HKY := Lib.hid hk; clear hk
  have hKb : Hid (∀ b, K b → b ≠ w.heap.size ∧ b ≠ w.heap.size + 1) := Lib.hid fun b h => by have := HK.out b h; omega
  have HALL := Lib.hid hall; clear hall
  have he : ((k : Int) == 0) = true := by rw [h0]; rfl
  have hlx : 0 < xs.length := List.length_pos_iff.2 hx
  have hgt : 0 < n - 1 := by have := HNUM.out; have h2 := HKY.out; simp at this; omega
  rcases HTR.out with ⟨hx0, _, _⟩ | ⟨d, g, hL, hp, hN, h32, hm⟩
  · exact absurd hx0 hx
  have hd : d ≤ 10 := by
    rcases hm with rfl | hm
    · omega
    · have := lev_small hm (by have := HALL.out; omega); omega
  have hF : ∀ W (A1 : Option Addr), Below w.heap.size w W → Calls Try.prog 28 #[vec (n - 1) L p (.slice A1 k k)] W (Ret (LiftP (New K W) (n - 1) (xs.take (xs.length - 32)) (xs.drop (xs.length - 32))) W) := by
    intro W A1 hw
    rw [hL, hp]
    exact lift_f K d (n - 1) g A1 k k xs W ((hp ▸ hN).below hw) h32 hd (by omega) (fun b h => Nat.lt_of_lt_of_le (HK.out b h) hw.size)
  have HF := Lib.hid hF; clear hF
  have HM := Lib.hid hm; clear hm
  have H32 := Lib.hid h32; clear h32
  clear hN hL hp
  have H0 := Lib.hid h0; clear h0
  clear hx
  clear hi hz0 hz1 hz2 i0 hcell hfew
  go_enter Try.func15, Try.ntmps15
  go_wp2_with (first
    | (go_at_call 28; (with_reducible refine (HF.out _ _ ?_).mono ?_); (go_grown); rintro e w3 ⟨v, rfl, ⟨L', p', A', m', c', rfl, ht, hs⟩, hb3⟩; have BK := blk_below (blk_put HBK.out 3 _ rfl) hb3; have BR := blk_below (blk_far HBR.out hne12 _) hb3; obtain ⟨⟨k0, k1, k2, k3⟩, f0, f1, f2, f3⟩ := box4 BK; obtain ⟨⟨r0, r1, r2, r3⟩, e0, e1, e2, e3⟩ := box4 BR; have HBK3 := Lib.hid BK; have HBR3 := Lib.hid BR; clear BK BR; have HT := Lib.hid ht; have HS3 := Lib.hid hs; clear ht hs)
    | ((with_reducible show wpList _ _ _ (⟨some 32, _, _, _, _, _⟩ :: _) _ _); refine wpList_copy_part rfl (.tmp 29) (.tmp 31) 24 rfl 3 Try.underlying24 size_int (some ad) (k + 1) c k k (.int .i64 0) (ints (ys ++ [x])) w (by go_grown) (by simp [Act.eval]) rfl K HS.out (Nat.le_succ _) ?_; intro w2 hg2 hb2; have BK : w2.heap[w.heap.size]? = some (.cells #[.int .i64 (n - 1), .int .i64 L, .pointer p, .slice (some ad) (k + 1) c] VT (0, 0)) := blk_below (blk_alloc (blk_new w _) _) hb2; have BR : w2.heap[w.heap.size + 1]? = some (.cells #[.int .i64 0, .int .i64 0, .pointer none, .slice none 0 0] VT (0, 0)) := blk_below (heap_k1 w _ _) hb2; obtain ⟨⟨k0, k1, k2, k3⟩, f0, f1, f2, f3⟩ := box4 BK; obtain ⟨⟨r0, r1, r2, r3⟩, e0, e1, e2, e3⟩ := box4 BR; have HBK := Lib.hid BK; have HBR := Lib.hid BR; clear BK BR; have hs2 : w.heap.size + 2 ≤ w2.heap.size := (by have := hb2.size; rw [World.size_alloc, World.size_alloc] at this; omega); have hB2 : Below w.heap.size w w2 := below_then (by go_grown) (by rw [World.size_alloc, World.size_alloc]; omega) hb2; have HG2 := Lib.hid hg2; clear hg2))
  refine bodyPost_ret (results_vt3 rfl _ _ (w.heap.size + 1) #[.int .i64 (n - 1), .int .i64 L', .pointer p', .slice A' m' c'] (.int .i64 x) (.bool true) rfl rfl (put4 (blk_far (blk_far (blk_far (blk_far HBR3.out hne12 _) hne12 _) hne12 _) hne12 _)) rfl rfl) rfl ?_
  have hB2' : Below w.heap.size w (w2.setCell ⟨w.heap.size, 3, none⟩ (.slice (some ⟨w.heap.size + 1 + 1, 0, none⟩) k k)) := by go_grown
  have hB3 : Below w.heap.size w w3 := below_then hB2' hB2'.size hb3
  have hS3 : w.heap.size + 2 ≤ w3.heap.size := by have := hb3.size; rw [World.size_setCell] at this; omega
  obtain rfl : ys = [] := List.eq_nil_of_length_eq_zero (by have := HKY.out; have := H0.out; omega)
  have hup : ∀ b, New K (w2.setCell ⟨w.heap.size, 3, none⟩ (.slice (some ⟨w.heap.size + 1 + 1, 0, none⟩) k k)) b → New K w b ∧ b ≠ w.heap.size ∧ b ≠ w.heap.size + 1 := fun b hb => by
    rcases hb with h | h
    · exact ⟨Or.inl h, hKb.out b h⟩
    · rw [World.size_setCell] at h
      exact ⟨Or.inr (by omega), by omega, by omega⟩
  have hx32 : 32 ≤ xs.length := by have := H32.out; omega
  refine ⟨_, rfl, ⟨_, rfl, n - 1, L', p', A', m', c', xs.take (xs.length - 32), xs.drop (xs.length - 32), rfl, by simp, ⟨?_, ?_, ?_, ?_, ?_⟩, ?_⟩, by go_grown⟩
  · have := HNUM.out
    rw [this, List.length_take, List.length_drop]; simp; omega
  · refine HT.out.keep (fun b h => (hup b h).1) fun b hb hlt => ?_
    have hnb := (hup b hb).2
    repeat rw [Below.heap_setCell _ _ _ _ (by first | exact hnb.1 | exact hnb.2)]
  · refine (HS3.out.keep fun b hb hlt => ?_).mono (fun b h => (hup b h).1)
    have hnb := (hup b hb).2
    repeat rw [Below.heap_setCell _ _ _ _ (by first | exact hnb.1 | exact hnb.2)]
  · rw [List.length_drop]; omega
  · have := HALL.out
    rw [List.length_take, List.length_drop]; omega
  · intro h
    have := congrArg List.length h
    rw [List.length_drop] at this
    simp at this
    omega

/-- A VECTOR WITHOUT ITS LAST THING. -/
theorem pop_c' (K : Nat → Prop) (v : Value) (l : List Int) (x : Int) (w : World) (h : VRep K w v (l ++ [x])) :
    Calls Try.prog 15 #[v] w (Ret (PopP (New K w) l x) w) := by
  obtain ⟨n, L, p, A, m, c, xs, ys, rfl, hl, hV, hi⟩ := h
  rcases List.eq_nil_or_concat ys with rfl | ⟨ys, y, rfl⟩
  · rw [hi rfl] at hl; simp at hl
  rw [List.concat_eq_append] at hl hV
  rw [← List.append_assoc] at hl
  obtain ⟨h1, h2⟩ := List.append_inj' hl rfl
  injection h2 with h2 _
  subst h1 h2
  have up : ∀ e w', Ret (PopP (New (fun b => K b ∧ b < w.heap.size) w) (xs ++ ys) x) w e w' → Ret (PopP (New K w) (xs ++ ys) x) w e w' := by
    rintro e w' ⟨v, rfl, ⟨u, rfl, hr⟩, hb⟩
    exact ⟨_, rfl, ⟨u, rfl, hr.mono fun b h => h.imp (·.1) id⟩, hb⟩
  by_cases hk : ys.length = 0
  · by_cases hx : xs = []
    · exact (pop_b _ n L p A m c _ x xs ys w hV.bound rfl (fun b h => h.2) hk hx).mono up
    · exact (pop_c _ n L p A m c _ x xs ys w hV.bound rfl (fun b h => h.2) hk hx).mono up
  · exact (pop_a _ n L p A m c _ x xs ys w hV.bound rfl (fun b h => h.2) hk).mono up

theorem pop_nil (K : Nat → Prop) (v : Value) (w : World) (h : VRep K w v []) :
    Calls Try.prog 15 #[v] w (Ret (fun u w' => u = .tuple #[v, .int .i64 0, .bool false]) w) := by
  obtain ⟨n, L, p, A, m, c, xs, ys, rfl, hl, hV, hi⟩ := h
  obtain ⟨rfl, rfl⟩ := List.append_eq_nil_iff.1 hl.symm
  obtain rfl : n = 0 := by have := hV.num; simpa using this
  exact pop_none L p A m c w
end Go.Proofs.Ytmoakgacffjblaa.Pv
end

section
namespace Go.Proofs.Ytmoakgacffjblaa.Pv
open Go Go.RowKit Go.Proofs.Ytmoakgacffjblaa.Mem Go.Proofs.YtmoakgacffjblaaW.PrintWords

theorem results_c2 {P : Program} {fn : Func} {p a : Tmp} {ty ta : TypeId} (h : fn.results = #[.cell p ty, .tmp a]) (tmps : Array Value) (w : World) (g : Nat) (t : TypeId) (cs : Array Value) (fr : Nat × Nat) (d : TypeDesc)
    (hp : tmps.getD p undef = .pointer (some ⟨g, 0, none⟩)) (hg : w.heap[g]? = some (.cells cs t fr))
    (hu : P.underlying ty = some d) (hd : (match d with | .struct _ | .array _ _ => true | _ => false) = true) (hi : (P.info? ty).map (·.size) = some cs.size) (va : Value) (ha : tmps.getD a undef = va) :
    (results fn tmps).run P w = .ok (.tuple #[.agg cs, va]) w := by
  have hp' : tmps[p]?.getD undef = .pointer (some ⟨g, 0, none⟩) := by simpa using hp
  have ha' : tmps[a]?.getD undef = va := by simpa using ha
  simp [results, h, hp', ha', asAddr, run_loadVar_row w g t ty cs fr d hg hu hd hi]

theorem results_vt2 {fn : Func} {p a : Tmp} (h : fn.results = #[.cell p VT, .tmp a]) (tmps : Array Value) (w : World) (g : Nat) (cs : Array Value) (va : Value) (hp : tmps.getD p undef = .pointer (some ⟨g, 0, none⟩)) (hs : cs.size = 4) (hg : w.heap[g]? = some (.cells cs VT (0, 0))) (ha : tmps.getD a undef = va) :
    (results fn tmps).run Try.prog w = .ok (.tuple #[.agg cs, va]) w :=
  results_c2 (ta := VT) h tmps w g VT cs (0, 0) _ hp hg Try.underlying26 rfl (by rw [hs]; kernel_rfl) va ha

set_option maxHeartbeats 2000000 in
theorem vset_out (n L i x : Int) (p A : Option Addr) (m c : Nat) (w : World) (h : i < 0 ∨ n ≤ i) :
    Calls Try.prog 30 #[vec n L p (.slice A m c), .int .i64 i, .int .i64 x] w (Ret (fun v w' => v = .tuple #[vec 0 0 none (.slice none 0 0), .int .i64 4]) w) := by
  rcases (by omega : i < 0 ∨ 0 ≤ i) with h1 | h1
  · go_enter Try.func30, Try.ntmps30
    go_wp2
    go_returns
    exact ⟨_, rfl, rfl, by go_grown⟩
  · have h2 : n ≤ i := by omega
    have h3 : (decide (i < 0)) = false := by simp; omega
    go_enter Try.func30, Try.ntmps30
    go_wp2
    go_returns
    exact ⟨_, rfl, rfl, by go_grown⟩

set_option maxHeartbeats 4000000 in
theorem vset_tail (K : Nat → Prop) (n L : Int) (p A : Option Addr) (m c k : Nat) (x i : Int) (xs ys : List Int) (w : World) (hV : VF K w n L p (.slice A m c) xs ys) (hk : k < ys.length) (hik : i = (xs.length : Int) + (k : Int)) (hi2 : ys = [] → xs = []) (hK : ∀ b, K b → b < w.heap.size) :
    Calls Try.prog 30 #[vec n L p (.slice A m c), .int .i64 i, .int .i64 x] w (Ret (fun v w' => ∃ u, v = .tuple #[u, .int .i64 0] ∧ VRep (New K w) w' u (xs ++ ys.set k x)) w) := by
  obtain ⟨hnum, htr, hs, hfew, hall⟩ := hV
  have hm : m = ys.length := by have := hs.len; simpa using this
  have h0 : 0 ≤ i := by omega
  have hin : i < n := by omega
  have hnb : n ≤ 1000000 := by omega
  have hmn : (m : Int) ≤ n := by omega
  have hat : i - (n - m) = (k : Int) := by omega
  have hge : 0 ≤ i - (n - m) := by omega
  have hne12 : w.heap.size + 1 ≠ w.heap.size := by omega
  have HI := fun W => inner_c n L p A m c W hmn (by omega)
  have hT := fun W (I : Int) (hI : I = (k : Int)) (hw : Below w.heap.size w W) => turned_int_n A m c (ints ys) k I x W hI K (hs.below hw) (by simpa using hk) (by simp; omega)
  have HT := Lib.hid hT; clear hT
  have HNUM := Lib.hid hnum; clear hnum
  have HTR := Lib.hid htr; clear htr
  have HS := Lib.hid hs; clear hs
  have hKb : Hid (∀ b, K b → b ≠ w.heap.size ∧ b ≠ w.heap.size + 1) := Lib.hid fun b h => by have := hK b h; omega
  have HM := Lib.hid hm; clear hm hK
  have HIK := Lib.hid hik; clear hik
  have HAT := Lib.hid hat; clear hat
  go_enter Try.func30, Try.ntmps30
  go_wp2_with (first
    | (go_at_call 25; ((refine (HI _).mono ?_); rintro e w1 ⟨rfl, rfl⟩))
    | (go_at_call 38; ((with_reducible refine (HT.out _ _ ?_ ?_).mono ?_); (exact HAT.out); (go_grown); rintro e w1 ⟨v, rfl, hv, hb1⟩; obtain ⟨A2, n2, c2, rfl⟩ := hv.form; have BK : w1.heap[w.heap.size]? = some (.cells #[.int .i64 n, .int .i64 L, .pointer p, .slice A m c] VT (0, 0)) := blk_below (blk_alloc (blk_alloc (blk_new w _) _) _) hb1; have BR : w1.heap[w.heap.size + 1]? = some (.cells #[.int .i64 0, .int .i64 0, .pointer none, .slice none 0 0] VT (0, 0)) := blk_below (blk_alloc (heap_k1 w _ _) _) hb1; obtain ⟨⟨k0, k1, k2, k3⟩, f0, f1, f2, f3⟩ := box4 BK; obtain ⟨⟨r0, r1, r2, r3⟩, e0, e1, e2, e3⟩ := box4 BR; have HBK := Lib.hid BK; have HBR := Lib.hid BR; clear BK BR; have hB1 : Below w.heap.size w w1 := below_trans (by go_grown) hb1; have HV := Lib.hid hv; clear hv)))
  refine bodyPost_ret (results_vt2 rfl _ _ (w.heap.size + 1) #[.int .i64 n, .int .i64 L, .pointer p, .slice A2 n2 c2] (.int .i64 0) rfl rfl (put4 (blk_far HBR.out hne12 _)) rfl) rfl ?_
  refine ⟨_, rfl, ⟨_, rfl, n, L, p, A2, n2, c2, xs, ys.set k x, rfl, rfl, ⟨?_, ?_, ?_, ?_, ?_⟩, ?_⟩, by go_grown⟩
  · rw [HNUM.out, List.length_set]
  · refine HTR.out.keep (fun b h => Or.inl h) fun b hb hlt => ?_
    have hnb := hKb.out b hb
    repeat rw [Below.heap_setCell _ _ _ _ (by first | exact hnb.1 | exact hnb.2)]
    exact hB1.block b hlt
  · have h1 : SlV (fun b => w.heap.size + 1 < b) w1 (.slice A2 n2 c2) (ints (ys.set k x)) := by
      have := HV.out.mono (K' := fun b => w.heap.size + 1 < b) (fun b h => by unfold Fresh at h; rw [World.size_alloc, World.size_alloc, World.size_alloc] at h; omega)
      rw [show ints (ys.set k x) = (ints ys).set k (.int .i64 x) from List.map_set]
      exact this
    refine (h1.keep fun b hb hlt => ?_).mono fun b hb => Or.inr (by omega)
    have hnb : b ≠ w.heap.size ∧ b ≠ w.heap.size + 1 := by omega
    repeat rw [Below.heap_setCell _ _ _ _ (by first | exact hnb.1 | exact hnb.2)]
  · rw [List.length_set]; exact hfew
  · rw [List.length_set]; exact hall
  · intro h
    have := congrArg List.length h
    rw [List.length_set, List.length_nil] at this
    omega

set_option maxHeartbeats 4000000 in
theorem vset_trie (K : Nat → Prop) (n L : Int) (p A : Option Addr) (m c k : Nat) (x : Int) (xs ys : List Int) (w : World) (hV : VF K w n L p (.slice A m c) xs ys) (hk : k < xs.length) (hi2 : ys = [] → xs = []) (hK : ∀ b, K b → b < w.heap.size) :
    Calls Try.prog 30 #[vec n L p (.slice A m c), .int .i64 (k : Int), .int .i64 x] w (Ret (fun v w' => ∃ u, v = .tuple #[u, .int .i64 0] ∧ VRep (New K w) w' u (xs.set k x ++ ys)) w) := by
  obtain ⟨hnum, htr, hs, hfew, hall⟩ := hV
  rcases htr with ⟨rfl, _, _⟩ | ⟨d, g, hL, hp, hN, h32, hm8⟩
  · simp at hk
  have hm : m = ys.length := by have := hs.len; simpa using this
  have h0 : 0 ≤ (k : Int) := by omega
  have hneg : decide ((k : Int) < 0) = false := by simp
  have hin : (k : Int) < n := by omega
  have hnb : n ≤ 1000000 := by omega
  have hmn : (m : Int) ≤ n := by omega
  have hne12 : w.heap.size + 1 ≠ w.heap.size := by omega
  have hd : d ≤ 9 := by
    rcases hm8 with rfl | hm
    · omega
    · have := lev_small hm (by omega); omega
  have HI := fun W => inner_c n L p A m c W hmn (by omega)
  have hmod : k % 32 ^ (d + 1) = k := Nat.mod_eq_of_lt (Nat.lt_of_lt_of_le hk hN.len.2)
  have hT : ∀ W, Below w.heap.size w W → Calls Try.prog 39 #[.pointer p, .int .i64 L, .int .i64 (k : Int), .int .i64 x] W (Ret (SetP (New K W) (d + 1) (xs.set k x)) W) := by
    intro W hw
    have := set_c K d (by omega) L p xs k x W hL (hN.below hw) (by omega) (by rw [hmod]; exact hk)
    rw [hmod] at this
    exact this
  have HT := Lib.hid hT; clear hT
  have HNUM := Lib.hid hnum; clear hnum
  have HS := Lib.hid hs; clear hs
  have hKb : Hid (∀ b, K b → b ≠ w.heap.size ∧ b ≠ w.heap.size + 1) := Lib.hid fun b h => by have := hK b h; omega
  have HM := Lib.hid hm; clear hm hK
  have hlt0 : ¬ (0 ≤ (k : Int) - (n - m)) := by have := HNUM.out; have := HM.out; omega
  have hlt1 : (k : Int) - (n - m) < 0 := by omega
  have HL := Lib.hid hL; clear hL hp hN hmod
  have H32 := Lib.hid h32; clear h32
  have HM8 := Lib.hid hm8; clear hm8
  go_enter Try.func30, Try.ntmps30
  go_wp2_with (first
    | (go_at_call 25; ((refine (HI _).mono ?_); rintro e w1 ⟨rfl, rfl⟩))
    | (go_at_call 39; ((with_reducible refine (HT.out _ ?_).mono ?_); (go_grown); rintro e w1 ⟨v, rfl, ⟨q, rfl, hv⟩, hb1⟩; have BK : w1.heap[w.heap.size]? = some (.cells #[.int .i64 n, .int .i64 L, .pointer p, .slice A m c] VT (0, 0)) := blk_below (blk_alloc (blk_alloc (blk_new w _) _) _) hb1; have BR : w1.heap[w.heap.size + 1]? = some (.cells #[.int .i64 0, .int .i64 0, .pointer none, .slice none 0 0] VT (0, 0)) := blk_below (blk_alloc (heap_k1 w _ _) _) hb1; obtain ⟨⟨k0, k1, k2, k3⟩, f0, f1, f2, f3⟩ := box4 BK; obtain ⟨⟨r0, r1, r2, r3⟩, e0, e1, e2, e3⟩ := box4 BR; have HBK := Lib.hid BK; have HBR := Lib.hid BR; clear BK BR; have hB1 : Below w.heap.size w w1 := below_trans (by go_grown) hb1; have HV := Lib.hid hv; clear hv)))
  refine bodyPost_ret (results_vt2 rfl _ _ (w.heap.size + 1) #[.int .i64 n, .int .i64 L, .pointer q, .slice A m c] (.int .i64 0) rfl rfl (put4 (blk_far HBR.out hne12 _)) rfl) rfl ?_
  obtain ⟨g', hq⟩ : ∃ g', q = some ⟨g', 0, none⟩ := by
    cases d with
    | zero => obtain ⟨g', _, hq, _⟩ := HV.out; exact ⟨g', hq⟩
    | succ d => obtain ⟨g', _, _, _, hq, _⟩ := HV.out; exact ⟨g', hq⟩
  refine ⟨_, rfl, ⟨_, rfl, n, L, q, A, m, c, xs.set k x, ys, rfl, rfl, ⟨?_, Or.inr ⟨d, g', HL.out, hq, ?_, ?_, ?_⟩, ?_, hfew, ?_⟩, ?_⟩, by go_grown⟩
  · rw [HNUM.out, List.length_set]
  · refine HV.out.keep (fun b h => h.imp id fun h => by rw [World.size_alloc, World.size_alloc, World.size_alloc] at h; omega) fun b hb hlt => ?_
    have hnb : b ≠ w.heap.size ∧ b ≠ w.heap.size + 1 := by
      rcases hb with h | h
      · exact hKb.out b h
      · rw [World.size_alloc, World.size_alloc, World.size_alloc] at h; omega
    repeat rw [Below.heap_setCell _ _ _ _ (by first | exact hnb.1 | exact hnb.2)]
  · rw [List.length_set]; exact H32.out
  · rw [List.length_set]; exact HM8.out
  · refine (HS.out.keep fun b hb hlt => ?_).mono fun b h => Or.inl h
    have hnb := hKb.out b hb
    repeat rw [Below.heap_setCell _ _ _ _ (by first | exact hnb.1 | exact hnb.2)]
    exact hB1.block b hlt
  · rw [List.length_set]; exact hall
  · intro h
    rw [hi2 h] at hk
    simp at hk

/-- A VECTOR WITH ANOTHER THING AT A PLACE. -/
theorem vset_in (K : Nat → Prop) (v : Value) (l : List Int) (i x : Int) (w : World) (h : VRep K w v l) (hin : 0 ≤ i ∧ i < l.length) :
    Calls Try.prog 30 #[v, .int .i64 i, .int .i64 x] w (Ret (fun v w' => ∃ u, v = .tuple #[u, .int .i64 0] ∧ VRep (New K w) w' u (l.set i.toNat x)) w) := by
  obtain ⟨n, L, p, A, m, c, xs, ys, rfl, rfl, hV, hi⟩ := h
  have hn := hV.num
  rw [List.length_append] at hin
  have up : ∀ l' e w', Ret (fun v w' => ∃ u, v = .tuple #[u, .int .i64 0] ∧ VRep (New (fun b => K b ∧ b < w.heap.size) w) w' u l') w e w' → Ret (fun v w' => ∃ u, v = .tuple #[u, .int .i64 0] ∧ VRep (New K w) w' u l') w e w' := by
    rintro l' e w' ⟨v, rfl, ⟨u, rfl, hr⟩, hb⟩
    exact ⟨_, rfl, ⟨u, rfl, hr.mono fun b h => h.imp (·.1) id⟩, hb⟩
  rcases Nat.lt_or_ge i.toNat xs.length with hlt | hge
  · rw [List.set_append_left _ _ hlt]
    have e : i = (i.toNat : Int) := by omega
    have := (vset_trie _ n L p A m c i.toNat x xs ys w hV.bound hlt hi (fun b h => h.2)).mono (up _)
    rwa [← e] at this
  · rw [List.set_append_right _ _ hge]
    exact (vset_tail _ n L p A m c (i.toNat - xs.length) x i xs ys w hV.bound (by omega) (by omega) hi (fun b h => h.2)).mono (up _)
theorem vset_no (K : Nat → Prop) (v : Value) (l : List Int) (i x : Int) (w : World) (h : VRep K w v l) (hin : ¬ (0 ≤ i ∧ i < l.length)) :
    Calls Try.prog 30 #[v, .int .i64 i, .int .i64 x] w (Ret (fun v w' => v = .tuple #[vec 0 0 none (.slice none 0 0), .int .i64 4]) w) := by
  obtain ⟨n, L, p, A, m, c, xs, ys, rfl, rfl, hV, hi⟩ := h
  have hn := hV.num
  rw [List.length_append] at hin
  exact vset_out n L i x p A m c w (by omega)
end Go.Proofs.Ytmoakgacffjblaa.Pv
end

section
namespace Go.Proofs.Ytmoakgacffjblaa.Pv
open Go Go.RowKit Go.Proofs.Ytmoakgacffjblaa.Mem Go.Proofs.YtmoakgacffjblaaW.PrintWords

/-- what holds at each round's head -/
def KeepI (K : Nat → Prop) (w : World) (l : List Int) (a k : Nat) (wr : World) : Prop :=
  ∃ (n L : Int) (p A : Option Addr) (m c : Nat) (xs ys : List Int), a + k ≤ l.length ∧ l.take (a + k) = xs ++ ys ∧ n = ((a + k : Nat) : Int) ∧ VF (fun b => K b ∨ w.heap.size + 1 < b) wr n L p (.slice A m c) xs ys ∧ (ys = [] → xs = []) ∧
    wr.heap[w.heap.size]? = some (.cells #[.int .i64 n, .int .i64 L, .pointer p, .slice A m c] VT (0, 0)) ∧ wr.heap[w.heap.size + 1]? = some (.cells #[.int .i64 0, .int .i64 0, .pointer none, .slice none 0 0] VT (0, 0)) ∧ Below w.heap.size w wr

set_option maxHeartbeats 4000000 in
theorem keep_f (K : Nat → Prop) (n L : Int) (p A : Option Addr) (m c a : Nat) (N : Int) (xs ys l : List Int) (w : World) (hV : VF K w n L p (.slice A m c) xs ys) (hi : ys = [] → xs = []) (hl : l = xs ++ ys) (hK : ∀ b, K b → b < w.heap.size)
    (ha : (a : Int) ≤ max N 0) (ha2 : a ≤ l.length) (ha3 : a < l.length → (a : Int) = max N 0) :
    Calls Try.prog 33 #[vec n L p (.slice A m c), .int .i64 N] w (Ret (fun v w' => VRep (New K w) w' v (l.take a)) w) := by
  obtain ⟨k0, hk0⟩ : ∃ k, l.length = a + k := ⟨l.length - a, by omega⟩
  have hne12 : w.heap.size + 1 ≠ w.heap.size := by omega
  have HV := Lib.hid hV; clear hV
  have HI := Lib.hid hi; clear hi
  have HL := Lib.hid hl; clear hl
  have HK := Lib.hid hK; clear hK
  have HA := Lib.hid (show (a : Int) ≤ max N 0 ∧ (a < l.length → (a : Int) = max N 0) from ⟨ha, ha3⟩); clear ha ha3
  have HK0 := Lib.hid hk0; clear hk0
  go_enter Try.func33, Try.ntmps33
  go_wp2_with fail
  go_loopg [] k0 (fun k wr => Aside (KeepI K w l a k wr))
  case atStart =>
    show KeepI K w l a _ _
    refine ⟨n, L, p, A, m, c, xs, ys, by rw [HK0.out]; omega, by rw [← HK0.out, List.take_length]; exact HL.out, ?_, ?_, HI.out, blk_alloc (blk_new w _) _, heap_k1 w _ _, by go_grown⟩
    · have := HV.out.num
      have h2 := congrArg List.length HL.out
      rw [List.length_append] at h2
      have := HK0.out
      omega
    · exact (HV.out.mono fun _ h => Or.inl h).below (by go_grown)
  case round =>
    obtain ⟨n', L', p', A', m', c1, xs', ys', hle, hl, hn, hV, hi, BK, BR, hB⟩ := hrel.out
    clear hrel
    obtain ⟨⟨k0, k1, k2, k3⟩, f0, f1, f2, f3⟩ := box4 BK
    obtain ⟨⟨r0, r1, r2, r3⟩, e0, e1, e2, e3⟩ := box4 BR
    have HBK := Lib.hid BK; clear BK
    have HBR := Lib.hid BR; clear BR
    have HV2 := Lib.hid hV; clear hV
    have HI2 := Lib.hid hi; clear hi
    have HL2 := Lib.hid hl; clear hl
    have HN2 := Lib.hid hn
    have hsz : w.heap.size + 1 < wr.heap.size := blk_lt HBR.out
    have hKb : Hid (∀ b, (K b ∨ w.heap.size + 1 < b) → b ≠ w.heap.size) := Lib.hid fun b h => h.elim (fun h => by have := HK.out b h; omega) (fun h => by omega)
    cases gk with
    | zero =>
      have hmx : n' ≤ max N 0 := by have := HA.out.1; rw [hn]; simpa using this
      clear hn
      go_wp2
      all_goals
        refine bodyPost_ret (results_vt rfl _ _ (w.heap.size + 1) #[.int .i64 n', .int .i64 L', .pointer p', .slice A' m' c1] rfl rfl (put4 HBR.out)) rfl ?_
        refine ⟨_, rfl, ⟨n', L', p', A', m', c1, xs', ys', rfl, HL2.out, HV2.out.keep (fun b hb => hb.imp id (fun h => by omega)) (fun b hb hlt => ?_), HI2.out⟩, by go_grown⟩
        have hnb : b ≠ w.heap.size + 1 := hb.elim (fun h => by have := HK.out b h; omega) (fun h => by omega)
        repeat rw [Below.heap_setCell _ _ _ _ (by exact hnb)]
    | succ k =>
      have hmx : max N 0 < n' := by have := HA.out.2 (by omega); rw [hn, ← this]; omega
      clear hn
      obtain ⟨x, hx⟩ : ∃ x, l[a + k]? = some x := ⟨_, List.getElem?_eq_getElem (by omega)⟩
      have htk : l.take (a + (k + 1)) = l.take (a + k) ++ [x] := by rw [← Nat.add_assoc, List.take_add_one, hx]; rfl
      have hP : ∀ W, Below wr.heap.size wr W → Calls Try.prog 15 #[vec n' L' p' (.slice A' m' c1)] W (Ret (PopP (New (fun b => K b ∨ w.heap.size + 1 < b) W) (l.take (a + k)) x) W) := by
        intro W hw
        refine pop_c' _ _ _ _ W ?_
        rw [← htk]
        exact ⟨n', L', p', A', m', c1, xs', ys', rfl, HL2.out, HV2.out.below hw, HI2.out⟩
      have HP := Lib.hid hP; clear hP hx htk
      go_wp2_with (go_at_call 15; ((with_reducible refine (HP.out _ (Below.refl _ _)).mono ?_); rintro e w1 ⟨v, rfl, ⟨u, rfl, n2, L2, p2, A2, m2, c2, xs2, ys2, rfl, hl2, hV1, hi1⟩, hb1⟩; have BK := blk_below HBK.out hb1; obtain ⟨⟨k0, k1, k2, k3⟩, f0, f1, f2, f3⟩ := box4 BK; have HBK1 := Lib.hid BK; clear BK; have HV1 := Lib.hid hV1; clear hV1; have HI1 := Lib.hid hi1; clear hi1; have HL1 := Lib.hid hl2; clear hl2))
      all_goals
        go_roundg k
        case measure => omega
        case rel =>
          show KeepI K w l a _ _
          have hBw : Below w.heap.size w w1 := below_trans hB hb1
          have hnew : ∀ b, New (fun b => K b ∨ w.heap.size + 1 < b) wr b → (K b ∨ w.heap.size + 1 < b) := fun b h => h.elim id (fun h => Or.inr (by omega))
          refine ⟨n2, L2, p2, A2, m2, c2, xs2, ys2, by omega, HL1.out, ?_, HV1.out.keep hnew fun b hb hlt => ?_, HI1.out, put4 HBK1.out, blk_far (blk_far (blk_far (blk_far (blk_below HBR.out hb1) hne12 _) hne12 _) hne12 _) hne12 _, by go_grown⟩
          · have := HV1.out.num
            have h2 := congrArg List.length HL1.out
            rw [List.length_append, List.length_take] at h2
            omega
          · have hnb := hKb.out b (hnew b hb)
            repeat rw [Below.heap_setCell _ _ _ _ (by exact hnb)]

/-- A VECTOR's FIRST THINGS. -/
theorem keep_c (K : Nat → Prop) (v : Value) (l : List Int) (N : Int) (w : World) (h : VRep K w v l) :
    Calls Try.prog 33 #[v, .int .i64 N] w (Ret (fun v w' => VRep (New K w) w' v (l.take (min (max N 0).toNat l.length))) w) := by
  obtain ⟨n, L, p, A, m, c, xs, ys, rfl, rfl, hV, hi⟩ := h
  refine (keep_f (fun b => K b ∧ b < w.heap.size) n L p A m c (min (max N 0).toNat (xs ++ ys).length) N xs ys (xs ++ ys) w hV.bound hi rfl (fun b h => h.2) (by omega) (by omega) (by omega)).mono ?_
  rintro e w' ⟨v, rfl, hr, hb⟩
  exact ⟨v, rfl, hr.mono fun b h => h.imp (·.1) id, hb⟩
end Go.Proofs.Ytmoakgacffjblaa.Pv
end

section
namespace Go.Proofs.Ytmoakgacffjblaa.Pv
open Go Go.RowKit Go.Proofs.Ytmoakgacffjblaa.Mem Go.Proofs.YtmoakgacffjblaaW.PrintWords

set_option maxHeartbeats 2000000 in
theorem get_out (n L i : Int) (p A : Option Addr) (m c : Nat) (w : World) (h : i < 0 ∨ n ≤ i) :
    Calls Try.prog 20 #[vec n L p (.slice A m c), .int .i64 i] w (Ret (fun v w' => v = .tuple #[.int .i64 0, .bool false]) w) := by
  rcases (by omega : i < 0 ∨ 0 ≤ i) with h1 | h1
  · go_enter Try.func20, Try.ntmps20
    go_wp2
    go_returns
    exact ⟨_, rfl, rfl, by go_grown⟩
  · have h2 : n ≤ i := by omega
    have h3 : (decide (i < 0)) = false := by simp; omega
    go_enter Try.func20, Try.ntmps20
    go_wp2
    go_returns
    exact ⟨_, rfl, rfl, by go_grown⟩

set_option maxHeartbeats 4000000 in
theorem get_tail (K : Nat → Prop) (n L : Int) (p A : Option Addr) (m c k : Nat) (x i : Int) (xs ys : List Int) (w : World) (hV : VF K w n L p (.slice A m c) xs ys) (hk : ys[k]? = some x) (hik : i = (xs.length : Int) + (k : Int)) :
    Calls Try.prog 20 #[vec n L p (.slice A m c), .int .i64 i] w (Ret (fun v w' => v = .tuple #[.int .i64 x, .bool true]) w) := by
  obtain ⟨hnum, htr, hs, hfew, hall⟩ := hV
  have hkl : k < ys.length := (List.getElem?_eq_some_iff.1 hk).1
  have hm : m = ys.length := by have := hs.len; simpa using this
  have h0 : 0 ≤ i := by omega
  have hneg : decide (i < 0) = false := by simp; omega
  have hin : i < n := by omega
  have hnb : n ≤ 1000000 := by omega
  have hmn : (m : Int) ≤ n := by omega
  have hat : i - (n - m) = (k : Int) := by omega
  have hge : 0 ≤ i - (n - m) := by omega
  have hkm : i - (n - m) < (m : Int) := by omega
  have HI := fun W => inner_c n L p A m c W hmn (by omega)
  obtain ⟨ad, rfl, hcell⟩ := hs.addr (by simp; omega)
  have hcx : ∀ a b : Obj, ((w.alloc a).alloc b).cell? (ad.add (i - (n - m)).toNat) = some (.int .i64 x) := by
    intro a b
    rw [hat]
    exact cell_below (hcell k _ (by simp [hk])) (((Below.refl _ _).alloc (Nat.le_refl _) _).alloc (by rw [World.size_alloc]; omega) _)
  clear hcell hs htr hnum hik hall hfew hk hat hm hkl
  go_enter Try.func20, Try.ntmps20
  go_wp2_with (go_at_call 25; ((refine (HI _).mono ?_); rintro e w1 ⟨rfl, rfl⟩))
  go_returns
  exact ⟨_, rfl, rfl, by go_grown⟩

/-- what holds at each round's head -/
def GetI (K : Nat → Prop) (w : World) (i : Nat) (x : Int) (k : Nat) (v8 v9 : Value) (wr : World) : Prop :=
  ∃ (q : Option Addr) (xs : List Int), v8 = .pointer q ∧ v9 = .int .i64 ((k : Int) + 1) ∧ k ≤ 9 ∧ NRep K wr (k + 1) q xs ∧ xs[i % 32 ^ (k + 1)]? = some x ∧ Below w.heap.size w wr

set_option maxHeartbeats 4000000 in
theorem get_trie (K : Nat → Prop) (n L : Int) (p A : Option Addr) (m c k : Nat) (x : Int) (xs ys : List Int) (w : World) (hV : VF K w n L p (.slice A m c) xs ys) (hk : xs[k]? = some x) :
    Calls Try.prog 20 #[vec n L p (.slice A m c), .int .i64 (k : Int)] w (Ret (fun v w' => v = .tuple #[.int .i64 x, .bool true]) w) := by
  obtain ⟨hnum, htr, hs, hfew, hall⟩ := hV
  have hkl : k < xs.length := (List.getElem?_eq_some_iff.1 hk).1
  rcases htr with ⟨rfl, _, _⟩ | ⟨d, g, hL, hp, hN, h32, hm8⟩
  · simp at hkl
  have hm : m = ys.length := by have := hs.len; simpa using this
  have h0 : 0 ≤ (k : Int) := by omega
  have hneg : decide ((k : Int) < 0) = false := by simp
  have hin : (k : Int) < n := by omega
  have hnb : n ≤ 1000000 := by omega
  have hmn : (m : Int) ≤ n := by omega
  have hd : d ≤ 9 := by
    rcases hm8 with rfl | hm
    · omega
    · have := lev_small hm (by omega); omega
  have HI := fun W => inner_c n L p A m c W hmn (by omega)
  have hmod : k % 32 ^ (d + 1) = k := Nat.mod_eq_of_lt (Nat.lt_of_lt_of_le hkl hN.len.2)
  have hlt0 : ¬ (0 ≤ (k : Int) - (n - m)) := by omega
  have hlt1 : (k : Int) - (n - m) < 0 := by omega
  have HN := Lib.hid hN
  have HX : Hid (xs[k % 32 ^ (d + 1)]? = some x) := Lib.hid (by rw [hmod]; exact hk)
  have HL := Lib.hid hL
  have hk9 : k ≤ 1000000 := by omega
  clear hL hp hN hmod h32 hm8 hs hnum hm hall hfew hk hkl
  go_enter Try.func20, Try.ntmps20
  go_wp2_with (go_at_call 25; ((refine (HI _).mono ?_); rintro e w1 ⟨rfl, rfl⟩))
  go_loopg [8, 9] d (fun j v8 v9 wr => Aside (GetI K w k x j v8 v9 wr))
  case atStart =>
    show GetI K w k x _ _ _ _
    exact ⟨p, xs, rfl, by rw [HL.out], hd, HN.out.below (by go_grown), HX.out, by go_grown⟩
  case round =>
    obtain ⟨q, xs', rfl, rfl, hg9, hN, hx, hB⟩ := hrel.out
    clear hrel HI
    cases gk with
    | zero =>
      obtain ⟨g, s, rfl, hK, hg, hs, hl⟩ := hN
      obtain ⟨A', n', c', rfl⟩ := hs.form
      have hn' : n' = 32 := by have := hs.len; simpa [hl] using this
      subst hn'
      obtain ⟨ad, rfl, hcell⟩ := hs.addr (by simp; omega)
      have hc1 := blk_cell hg 1
      simp at hc1 hx
      have hb := and31_i64 k (by omega)
      have hcx : wr.cell? (ad.add (k % 32)) = some (.int .i64 x) := hcell _ _ (by simp [hx])
      clear hcell hs hg hl hx
      go_wp2
      go_returns
      exact ⟨_, rfl, rfl, by first | exact hB | go_grown⟩
    | succ j =>
      have hN2 : NRep K wr (j + 2) q xs' := hN
      clear hN
      obtain ⟨g, s, ps, yss, rfl, hK, hg, hs, h4, h5, rfl, h6, h7, h8⟩ := hN2
      have hu := kids_uni h4 h5 h8
      have hB0 : 0 < 32 ^ (j + 1) := Nat.pow_pos (by decide)
      have hx' : yss.flatten[k % 32 ^ (j + 2)]? = some x := hx
      obtain ⟨ys', hy, hlt, hgt⟩ := flat_get hB0 yss hu _ (List.getElem?_eq_some_iff.1 hx').1
      have e32 : 32 ^ (j + 2) = 32 ^ (j + 1) * 32 := Nat.pow_succ ..
      have ek : k % 32 ^ (j + 2) / 32 ^ (j + 1) = k / 32 ^ (j + 1) % 32 := by rw [e32, Nat.mod_mul_right_div_self]
      have em : k % 32 ^ (j + 2) % 32 ^ (j + 1) = k % 32 ^ (j + 1) := by rw [e32, Nat.mod_mul_right_mod]
      have hgx : ys'[k % 32 ^ (j + 1)]? = some x := by rw [← em, ← hgt]; exact hx'
      rw [ek] at hy
      have ew : k / 32 / 32 ^ j % 32 = k / 32 ^ (j + 1) % 32 := by rw [Nat.div_div_eq_div_mul, Nat.pow_succ, Nat.mul_comm 32]
      obtain ⟨A', n', c', rfl⟩ := hs.form
      have hn' : n' = ps.length := by have := hs.len; simpa using this
      have hm := fun W => way_c (k / 32) j ((j : Int) + 1 + 1) (by omega) (by omega) (by omega) W
      rw [ew] at hm
      generalize hkk : k / 32 ^ (j + 1) % 32 = kk at *
      have hkl : kk < yss.length := (List.getElem?_eq_some_iff.1 hy).1
      obtain ⟨q', hq⟩ : ∃ q, ps[kk]? = some q := ⟨_, List.getElem?_eq_getElem (by omega)⟩
      have hNK := h5 kk q' ys' hq hy
      obtain ⟨ad, rfl, hcell⟩ := hs.addr (by simp; omega)
      have hkc : wr.cell? (ad.add kk) = some (.pointer q') := hcell kk _ (by simp [hq])
      have hc0 := blk_cell hg 0
      simp at hc0
      have hkn : (kk : Int) < (n' : Int) := by omega
      have hmq : ∀ nn, Calls Try.prog 34 #[.int .i64 ((k : Int) / 32), .int .i64 ((j : Int) + 1 + 1)] (wr.drewN nn) fun e w'' => e = .returned (.int .i64 (kk : Int)) ∧ ∃ m, w'' = wr.drewN m := fun nn => (hm (wr.drewN nn)).mono fun e w1 h => ⟨h.1, nn, h.2.symm⟩
      have HM := Lib.hid hmq; clear hm hmq
      have HNK := Lib.hid hNK; clear hNK
      have HGX := Lib.hid hgx; clear hgx
      clear hkk ew hq hcell hy hlt hgt e32 ek em hx hx' hu hg hs h4 h5 h6 h7 h8 hn' hkl
      go_wp2
      go_quiet (exact HM.out _)
      go_wp2
      go_roundg j
      case measure => omega
      case rel =>
        show GetI K w k x _ _ _ _
        have hq1 : Below wr.heap.size wr (wr.drewN nq) := pw_below_drewN (Below.refl _ _) _
        refine ⟨q', ys', rfl, by first | rfl | (congr 1; omega) | (simp; done), by omega, HNK.out.below hq1, HGX.out, below_trans hB hq1⟩

/-- THE THING AT A PLACE. -/
theorem get_in (K : Nat → Prop) (v : Value) (l : List Int) (i x : Int) (w : World) (h : VRep K w v l) (h0 : 0 ≤ i) (hx : l[i.toNat]? = some x) :
    Calls Try.prog 20 #[v, .int .i64 i] w (Ret (fun v w' => v = .tuple #[.int .i64 x, .bool true]) w) := by
  obtain ⟨n, L, p, A, m, c, xs, ys, rfl, rfl, hV, hi⟩ := h
  have hn := hV.num
  rcases Nat.lt_or_ge i.toNat xs.length with hlt | hge
  · rw [List.getElem?_append_left hlt] at hx
    have e : i = (i.toNat : Int) := by omega
    have := get_trie K n L p A m c i.toNat x xs ys w hV hx
    rwa [← e] at this
  · rw [List.getElem?_append_right hge] at hx
    exact get_tail K n L p A m c (i.toNat - xs.length) x i xs ys w hV hx (by omega)
theorem get_no (K : Nat → Prop) (v : Value) (l : List Int) (i : Int) (w : World) (h : VRep K w v l) (hin : ¬ (0 ≤ i ∧ i < l.length)) :
    Calls Try.prog 20 #[v, .int .i64 i] w (Ret (fun v w' => v = .tuple #[.int .i64 0, .bool false]) w) := by
  obtain ⟨n, L, p, A, m, c, xs, ys, rfl, rfl, hV, hi⟩ := h
  have hn := hV.num
  rw [List.length_append] at hin
  exact get_out n L i p A m c w (by omega)
theorem len_r (K : Nat → Prop) (v : Value) (l : List Int) (w : World) (h : VRep K w v l) :
    Calls Try.prog 16 #[v] w (Ret (fun v w' => v = .int .i64 (l.length : Int)) w) := by
  obtain ⟨n, L, p, A, m, c, xs, ys, rfl, rfl, hV, hi⟩ := h
  have hn := hV.num
  refine (len_c n L p (.slice A m c) w).mono ?_
  rintro e w' ⟨rfl, rfl⟩
  exact ⟨_, rfl, by rw [hn, List.length_append]; push_cast; rfl, by go_grown⟩
end Go.Proofs.Ytmoakgacffjblaa.Pv
end
