/- Memory that is never written again: slices of values read as lists, blocks known whole, and what becomes of them in a later world. -/
import Derived.Test.YtcjpdjecgeenfaaWWords
import Derived.Laws.CopyOwn
import Derived.Laws.MakeOwn
import Derived.Handy
import Derived.Lib.Hide
import Derived.Maps.AppendAt
import Derived.Test.YtcjpdjecgeenfaaProg
import Derived.Deep.LoopGhost
import Derived.RegionTactic
import Derived.Outline
import Derived.Deep.RegionHeld3
import Derived.Deep.RegionWith
import Derived.Deep.QuietTactic
import Derived.BigQuiet
set_option linter.unusedVariables false
set_option linter.unusedSimpArgs false
section
namespace Go.Proofs.Ytcjpdjecgeenfaa.Mem
open Go Go.RowKit Go.Proofs.YtcjpdjecgeenfaaW.PrintWords

/-- a slice's elements, each one cell; the block in which they lie is one of K -/
def SlV (K : Nat → Prop) (w : World) (v : Value) (xs : List Value) : Prop :=
  ∃ A c, v = .slice A xs.length c ∧ xs.length ≤ c ∧ c ≤ maxLen ∧ (0 < xs.length → ∃ ad : Addr, A = some ad ∧ K ad.block ∧ ∀ (j : Nat) (u : Value), xs[j]? = some u → w.cell? (ad.add j) = some u) ∧ ∀ u ∈ xs, u.oneCell' = true

/-- the blocks that are made from a world on -/
def Fresh (w : World) : Nat → Prop := fun b => w.heap.size ≤ b
/-- the blocks of K, and those that are made from a world on -/
def New (K : Nat → Prop) (w : World) : Nat → Prop := fun b => K b ∨ w.heap.size ≤ b
theorem New.old {K : Nat → Prop} {w : World} {b : Nat} (h : K b) : New K w b := Or.inl h
theorem New.fresh {K : Nat → Prop} {w : World} {b : Nat} (h : Fresh w b) : New K w b := Or.inr h
theorem Fresh.of {w w1 : World} (hb : w.heap.size ≤ w1.heap.size) {b : Nat} (h : Fresh w1 b) : Fresh w b := Nat.le_trans hb h
theorem New.of {K : Nat → Prop} {w w1 : World} (hb : w.heap.size ≤ w1.heap.size) {b : Nat} (h : New K w1 b) : New K w b := h.imp id (Nat.le_trans hb)
theorem New.twice {K : Nat → Prop} {w w1 : World} (hb : w.heap.size ≤ w1.heap.size) {b : Nat} (h : New (New K w) w1 b) : New K w b := h.elim id (fun h => Or.inr (Nat.le_trans hb h))

section
variable {K K' : Nat → Prop} {w w' : World} {v : Value} {xs : List Value}
theorem SlV.nil (K : Nat → Prop) (w : World) : SlV K w (.slice none 0 0) [] := ⟨none, 0, rfl, Nat.le_refl _, by simp [maxLen], fun h => absurd h (by simp), fun u h => by cases h⟩

theorem SlV.len {A : Option Addr} {n c : Nat} (h : SlV K w (.slice A n c) xs) : n = xs.length := by
  obtain ⟨A', c', he, _⟩ := h
  injection he

theorem SlV.form (h : SlV K w v xs) : ∃ A n c, v = .slice A n c := by
  obtain ⟨A, c, rfl, _⟩ := h
  exact ⟨A, _, c, rfl⟩

theorem SlV.one (h : SlV K w v xs) : ∀ u ∈ xs, u.oneCell' = true := by
  obtain ⟨_, _, _, _, _, _, h4⟩ := h; exact h4

theorem SlV.addr {A : Option Addr} {n c : Nat} (h : SlV K w (.slice A n c) xs) (hp : 0 < xs.length) : ∃ ad, A = some ad ∧ ∀ (j : Nat) (u : Value), xs[j]? = some u → w.cell? (ad.add j) = some u := by
  obtain ⟨A', c', he, _, _, h3, _⟩ := h
  injection he with hA _ _
  obtain ⟨ad, e, _, hc⟩ := h3 hp
  exact ⟨ad, by rw [hA, e], hc⟩

theorem block_lt {a : Addr} {u : Value} (h : w.cell? a = some u) : a.block < w.heap.size := World.block_lt_of_cell? w a h

theorem cell_below {a : Addr} {u : Value} (h : w.cell? a = some u) (hb : Below w.heap.size w w') : w'.cell? a = some u := (hb.cell (p := a) (block_lt h)).trans h

theorem SlV.mono (h : SlV K w v xs) (hK : ∀ b, K b → K' b) : SlV K' w v xs := by
  obtain ⟨A, c, rfl, h1, h2, h3, h4⟩ := h
  refine ⟨A, c, rfl, h1, h2, fun hp => ?_, h4⟩
  obtain ⟨ad, rfl, hk, hc⟩ := h3 hp
  exact ⟨ad, rfl, hK _ hk, hc⟩

/-- where the blocks of K lie as they lay, a slice of theirs has what it had -/
theorem SlV.keep (h : SlV K w v xs) (hk : ∀ b, K b → b < w.heap.size → w'.heap[b]? = w.heap[b]?) : SlV K w' v xs := by
  obtain ⟨A, c, rfl, h1, h2, h3, h4⟩ := h
  refine ⟨A, c, rfl, h1, h2, fun hp => ?_, h4⟩
  obtain ⟨ad, rfl, hK, hc⟩ := h3 hp
  refine ⟨ad, rfl, hK, fun j u hu => ?_⟩
  have hb : (ad.add j).block = ad.block := by unfold Addr.add; split <;> rfl
  have hc' := hc j u hu
  have hlt := block_lt hc'
  rw [hb] at hlt
  rw [← hc']
  exact World.cell?_of_block (by rw [hb]; exact hk _ hK hlt)

theorem SlV.below (h : SlV K w v xs) (hb : Below w.heap.size w w') : SlV K w' v xs := h.keep fun b _ hlt => hb.block b hlt

/-- a slice's block is one that is there -/
theorem SlV.bound (h : SlV K w v xs) : SlV (fun b => K b ∧ b < w.heap.size) w v xs := by
  obtain ⟨A, c, rfl, h1, h2, h3, h4⟩ := h
  refine ⟨A, c, rfl, h1, h2, fun hp => ?_, h4⟩
  obtain ⟨ad, rfl, hK, hc⟩ := h3 hp
  have hlt := block_lt (hc 0 (xs[0]'hp) (List.getElem?_eq_getElem hp))
  have hb : (ad.add 0).block = ad.block := by unfold Addr.add; split <;> rfl
  rw [hb] at hlt
  exact ⟨ad, rfl, ⟨hK, hlt⟩, hc⟩
end

theorem add_head (g j : Nat) : (⟨g, 0, none⟩ : Addr).add j = ⟨g, j, none⟩ := by unfold Addr.add; split <;> simp_all
theorem add_off (g o j : Nat) : (⟨g, o, none⟩ : Addr).add j = ⟨g, o + j, none⟩ := by unfold Addr.add; split <;> simp_all

/-- a slice at the head of a block that is known whole -/
theorem SlV.blk {K : Nat → Prop} {w : World} {g c : Nat} {cs : Array Value} {t : TypeId} {xs : List Value} (h : w.heap[g]? = some (.cells cs t (0, 0))) (hx : ∀ (j : Nat) (u : Value), xs[j]? = some u → cs[j]? = some u) (hc : xs.length ≤ c) (hm : c ≤ maxLen) (h1 : ∀ u ∈ xs, u.oneCell' = true) (hK : K g) :
    SlV K w (.slice (some ⟨g, 0, none⟩) xs.length c) xs :=
  ⟨some ⟨g, 0, none⟩, c, rfl, hc, hm, fun _ => ⟨_, rfl, hK, fun j u hu => by
    rw [add_head, blk_cell h]; exact hx j u hu⟩, h1⟩

theorem madeCells_one (z : Value) (n : Nat) : madeCells #[z] n = Array.replicate n z := by
  unfold madeCells
  apply Array.ext
  · simp
  · intro i h1 h2
    simp [Nat.mod_one]
theorem madeCells_list (z : Value) (n : Nat) : madeCells #[z] n = (List.replicate n z).toArray := by
  rw [madeCells_one]; simp

/-- what a call gives: a value, what is known of it in the world behind it, and nothing elder has changed -/
def Ret (P : Value → World → Prop) (w : World) (e : Ending) (w' : World) : Prop := ∃ v, e = .returned v ∧ P v w' ∧ Below w.heap.size w w'

theorem below_trans {w w1 w2 : World} (h : Below w.heap.size w w1) (k : Below w1.heap.size w1 w2) : Below w.heap.size w w2 := below_then h h.size k

theorem heap_k1 (w : World) (a o : Obj) : ((w.alloc a).alloc o).heap[w.heap.size + 1]? = some o := by
  have := heap_alloc_new (w.alloc a) o; rwa [World.size_alloc] at this
theorem heap_k2 (w : World) (a b o : Obj) : (((w.alloc a).alloc b).alloc o).heap[w.heap.size + 1 + 1]? = some o := by
  have := heap_alloc_new ((w.alloc a).alloc b) o; rwa [World.size_alloc, World.size_alloc] at this
theorem heap_k3 (w : World) (a b c o : Obj) : ((((w.alloc a).alloc b).alloc c).alloc o).heap[w.heap.size + 1 + 1 + 1]? = some o := by
  have := heap_alloc_new (((w.alloc a).alloc b).alloc c) o; rwa [World.size_alloc, World.size_alloc, World.size_alloc] at this
theorem heap_k4 (w : World) (a b c d o : Obj) : (((((w.alloc a).alloc b).alloc c).alloc d).alloc o).heap[w.heap.size + 1 + 1 + 1 + 1]? = some o := by
  have := heap_alloc_new ((((w.alloc a).alloc b).alloc c).alloc d) o; rwa [World.size_alloc, World.size_alloc, World.size_alloc, World.size_alloc] at this
theorem heap_k5 (w : World) (a b c d e o : Obj) : ((((((w.alloc a).alloc b).alloc c).alloc d).alloc e).alloc o).heap[w.heap.size + 1 + 1 + 1 + 1 + 1]? = some o := by
  have := heap_alloc_new (((((w.alloc a).alloc b).alloc c).alloc d).alloc e) o; rwa [World.size_alloc, World.size_alloc, World.size_alloc, World.size_alloc, World.size_alloc] at this

theorem results_c1 {P : Program} {fn : Func} {p : Tmp} {ty : TypeId} (h : fn.results = #[.cell p ty]) (tmps : Array Value) (w : World) (g : Nat) (t : TypeId) (cs : Array Value) (fr : Nat × Nat) (d : TypeDesc)
    (hp : tmps.getD p undef = .pointer (some ⟨g, 0, none⟩)) (hg : w.heap[g]? = some (.cells cs t fr))
    (hu : P.underlying ty = some d) (hd : (match d with | .struct _ | .array _ _ => true | _ => false) = true) (hi : (P.info? ty).map (·.size) = some cs.size) :
    (results fn tmps).run P w = .ok (.agg cs) w := by
  have hp' : tmps[p]?.getD undef = .pointer (some ⟨g, 0, none⟩) := by simpa using hp
  simp [results, h, hp', asAddr, run_loadVar_row w g t ty cs fr d hg hu hd hi]
/-- four stores into a block of four cells -/
theorem put4 {w : World} {g : Nat} {a b c d a' b' c' d' : Value} {t : TypeId} (h : w.heap[g]? = some (.cells #[a, b, c, d] t (0, 0))) :
    ((((w.setCell ⟨g, 0, none⟩ a').setCell ⟨g, 1, none⟩ b').setCell ⟨g, 2, none⟩ c').setCell ⟨g, 3, none⟩ d').heap[g]? = some (.cells #[a', b', c', d'] t (0, 0)) :=
  blk_put (cs := #[a', b', c', d]) (blk_put (cs := #[a', b', c, d]) (blk_put (cs := #[a', b, c, d]) (blk_put (cs := #[a, b, c, d]) h 0 a' rfl) 1 b' rfl) 2 c' rfl) 3 d' rfl

/-- a block of four cells, cell by cell -/
theorem box4 {w : World} {g : Nat} {a b c d : Value} {t : TypeId} (h : w.heap[g]? = some (.cells #[a, b, c, d] t (0, 0))) :
    (w.cell? ⟨g, 0, none⟩ = some a ∧ w.cell? ⟨g, 1, none⟩ = some b ∧ w.cell? ⟨g, 2, none⟩ = some c ∧ w.cell? ⟨g, 3, none⟩ = some d) ∧ (w.frozen? ⟨g, 0, none⟩ = false ∧ w.frozen? ⟨g, 1, none⟩ = false ∧ w.frozen? ⟨g, 2, none⟩ = false ∧ w.frozen? ⟨g, 3, none⟩ = false) :=
  ⟨⟨blk_cell h 0, blk_cell h 1, blk_cell h 2, blk_cell h 3⟩, blk_frozen h 0, blk_frozen h 1, blk_frozen h 2, blk_frozen h 3⟩
theorem box1 {w : World} {g : Nat} {a : Value} {t : TypeId} (h : w.heap[g]? = some (.cells #[a] t (0, 0))) : w.cell? ⟨g, 0, none⟩ = some a ∧ w.frozen? ⟨g, 0, none⟩ = false := ⟨blk_cell h 0, blk_frozen h 0⟩

/-- 'out := make([]T, N); copy(out, l)', N at least l's length: behind it the new block holds l's cells and zeros. -/
theorem wpList_copy_fresh {P : Program} {w : World} {ops : Array Oper} {rest : List Oper} {o : Oper} {a : Act} {Q : Exit → Act → World → Prop} (hgd : o.guard = none) (d s : Operand) (T : TypeId)
    (ho : o.op = .call { callee := .builtin .copy, args := #[d, s], argTypes := #[T, T] }) (E : TypeId) (hu : P.underlying T = some (.slice E)) (hsz : (P.info? E).map (·.size) = some 1)
    (A : Option Addr) (n c N dC : Nat) (z : Value) (xs : List Value) (hd : a.eval d = .slice (some ⟨w.heap.size, 0, none⟩) N dC) (hs : a.eval s = .slice A n c)
    (K : Nat → Prop) (hx : SlV K w (.slice A n c) xs) (hN : n ≤ N)
    (h : ∀ w', Hid (w'.heap[w.heap.size]? = some (.cells (xs ++ List.replicate (N - n) z).toArray E (0, 0))) → Below w.heap.size w w' → wpList P ops Q rest (a.put o.dst (goInt n)) w') :
    wpList P ops Q (o :: rest) a (w.alloc (.cells (Array.replicate N z) E)) := by
  obtain ⟨A', c', he, h1, h2, h3, h4⟩ := hx
  injection he with hA hl hc
  subst hA hc hl
  refine wpList_copy_splice hgd d s T T ho E hu hsz _ _ _ _ _ _ hd hs w.heap.size 0 (List.replicate N z) E ?_ xs ?_ ?_ ?_ h4 w.heap.size w ?_ (Nat.le_refl _) ?_
  · exact (heap_alloc_new _ _).trans (by rw [← List.toArray_replicate])
  · exact (Nat.min_eq_left hN).symm
  · intro hp
    obtain ⟨ad, rfl, _, hcell⟩ := h3 hp
    exact ⟨rfl, ad, rfl, fun j v hv => cell_below (hcell j v hv) ((Below.refl _ _).alloc (Nat.le_refl _) _)⟩
  · simp; omega
  · exact (Below.refl _ _).alloc (Nat.le_refl _) _
  · intro w' hg hb
    refine h w' ?_ hb
    have := hg.out
    rw [show splice (List.replicate N z) 0 xs = xs ++ List.replicate (N - xs.length) z by simp [splice]] at this
    exact Lib.hid this

/-- 'out := make([]T, N); copy(out, l)', N at most l's length: behind it the new block holds l's first N cells. -/
theorem wpList_copy_part {P : Program} {w : World} {ops : Array Oper} {rest : List Oper} {o : Oper} {a : Act} {Q : Exit → Act → World → Prop} (hgd : o.guard = none) (d s : Operand) (T : TypeId)
    (ho : o.op = .call { callee := .builtin .copy, args := #[d, s], argTypes := #[T, T] }) (E : TypeId) (hu : P.underlying T = some (.slice E)) (hsz : (P.info? E).map (·.size) = some 1)
    (A : Option Addr) (n c N dC : Nat) (z : Value) (xs : List Value) (w0 : World) (hb0 : Below w0.heap.size w0 w) (hd : a.eval d = .slice (some ⟨w.heap.size, 0, none⟩) N dC) (hs : a.eval s = .slice A n c)
    (K : Nat → Prop) (hx : SlV K w0 (.slice A n c) xs) (hN : N ≤ n)
    (h : ∀ w', Hid (w'.heap[w.heap.size]? = some (.cells (xs.take N).toArray E (0, 0))) → Below w.heap.size w w' → wpList P ops Q rest (a.put o.dst (goInt N)) w') :
    wpList P ops Q (o :: rest) a (w.alloc (.cells (Array.replicate N z) E)) := by
  obtain ⟨A', c', he, h1, h2, h3, h4⟩ := hx.below hb0
  injection he with hA hl hc
  subst hA hc hl
  have hlen : (xs.take N).length = N := by rw [List.length_take]; omega
  refine wpList_copy_splice hgd d s T T ho E hu hsz _ _ _ _ _ _ hd hs w.heap.size 0 (List.replicate N z) E ?_ (xs.take N) ?_ ?_ ?_ (fun v hv => h4 v (List.mem_of_mem_take hv)) w.heap.size w ?_ (Nat.le_refl _) ?_
  · exact (heap_alloc_new _ _).trans (by rw [← List.toArray_replicate])
  · rw [hlen]; exact (Nat.min_eq_right hN).symm
  · intro hp
    obtain ⟨ad, rfl, _, hcell⟩ := h3 (by omega)
    refine ⟨rfl, ad, rfl, fun j v hv => cell_below (hcell j v ?_) ((Below.refl _ _).alloc (Nat.le_refl _) _)⟩
    have hj : j < N := by have := (List.getElem?_eq_some_iff.1 hv).1; omega
    rwa [List.getElem?_take_of_lt hj] at hv
  · rw [hlen]; simp
  · exact (Below.refl _ _).alloc (Nat.le_refl _) _
  · intro w' hg hb
    rw [hlen]
    refine h w' ?_ hb
    have := hg.out
    rw [show splice (List.replicate N z) 0 (xs.take N) = xs.take N by unfold splice; rw [List.drop_eq_nil_of_le (by rw [hlen]; simp)]; simp] at this
    exact Lib.hid this
end Go.Proofs.Ytcjpdjecgeenfaa.Mem
end

section
namespace Go.Proofs.Ytcjpdjecgeenfaa.Mem
open Go Go.RowKit Go.Proofs.YtcjpdjecgeenfaaW.PrintWords

theorem run_append_slv {P : Program} (W : World) (base : Nat) (t tt e : TypeId) (z : Value) (bytes : Nat) (ht : P.underlying t = some (.slice e)) (hinfo : (P.info? e).map (fun i => (i.zero, i.size, i.bytes)) = some (some z, 1, bytes)) (hz : z.cells.size = 1) (hb0 : 0 < bytes)
    (v : Value) (n : Nat) (xs ys : List Value) (A : Option Addr) (m c : Nat) (K : Nat → Prop) (HO : W.ownsRow base e 1 v n xs) (HR : SlV K W (.slice A m c) ys) (hbase : base ≤ W.heap.size) (hl : (n + ys.length) * bytes ≤ 140737488355328) :
    ∃ v1 w1, (Builtin.append_ #[t, t] tt #[v, .slice A m c]).run P W = .ok v1 w1 ∧ w1.ownsRow base e 1 v1 (n + ys.length) (xs ++ ys) ∧ W.grownBy w1 v.ownBlock ∧ (v1.ownBlock = v.ownBlock ∨ v1.ownBlock = some W.heap.size) := by
  obtain ⟨i0, hi, hzz⟩ := Option.map_eq_some_iff.1 hinfo
  simp only [Prod.mk.injEq] at hzz
  obtain ⟨hz0, hz1, hz2⟩ := hzz
  have hm := HR.len
  have hlen : n + ys.length ≤ 140737488355328 := Nat.le_trans (Nat.le_mul_of_pos_right _ hb0) hl
  rcases Nat.eq_zero_or_pos ys.length with h0 | h0
  · obtain rfl := List.eq_nil_of_length_eq_zero h0
    obtain rfl : m = 0 := hm
    refine ⟨v, W, ?_, by simpa using HO, World.grownBy.refl W _, .inl rfl⟩
    cases A <;> rcases HO.2 with ⟨rfl, hn⟩ | ⟨g, cap, cur, rfl, _, _, hnc, _⟩
    · simp [Builtin.append_, run_underlying ht, sizeOf, typeInfo, hi, Builtin.lenOf, Builtin.firstCells]
    · simp [Builtin.append_, run_underlying ht, sizeOf, typeInfo, hi, Builtin.lenOf, Builtin.firstCells, hnc, storeCells]
    · simp [Builtin.append_, run_underlying ht, sizeOf, typeInfo, hi, Builtin.lenOf, Builtin.firstCells, loadCells, loadCellsFrom]
    · simp [Builtin.append_, run_underlying ht, sizeOf, typeInfo, hi, Builtin.lenOf, Builtin.firstCells, hnc, storeCells, loadCells, loadCellsFrom]
  · obtain ⟨ad, rfl, hc⟩ := HR.addr h0
    obtain ⟨v1, w1, hr, h2, h3, _, h5⟩ := run_append_own_at (P := P) W base t tt e i0 z 1 bytes ht hi hz0 hz1 hz2 hz (by omega) v n xs HO ad m c ys (by omega) hc HR.one (by simp only [maxLen]; omega) (by rw [hm]; exact hl) hbase
    rw [hm] at h2
    exact ⟨v1, w1, hr, h2, h3, h5⟩

section
variable {P : Program} {ops : Array Oper} {o : Oper} {rest : List Oper} {a : Act} {Q : Exit → Act → World → Prop} {KK : Act → World → Prop}
/-- append to a row of the call's own as one step of a region that draws its order -/
theorem step_append_slv {W : World} {E : Prop} (hgd : o.guard = none) (s x : Operand) (t e : TypeId) (z : Value) (bytes : Nat) (ho : o.op = .call { callee := .builtin .append, args := #[s, x], argTypes := #[t, t] })
    (ht : P.underlying t = some (.slice e)) (hinfo : (P.info? e).map (fun i => (i.zero, i.size, i.bytes)) = some (some z, 1, bytes)) (hz : z.cells.size = 1) (hb0 : 0 < bytes)
    (base : Nat) (v : Value) (n : Nat) (xs ys : List Value) (A : Option Addr) (m c : Nat) (K : Nat → Prop) (hs : a.eval s = v) (hx : a.eval x = .slice A m c)
    (HO : W.ownsRow base e 1 v n xs) (HR : SlV K W (.slice A m c) ys) (hbase : base ≤ W.heap.size) (hl : (n + ys.length) * bytes ≤ 140737488355328)
    (h : ∀ v1 w1, w1.ownsRow base e 1 v1 (n + ys.length) (xs ++ ys) → W.grownBy w1 v.ownBlock → (v1.ownBlock = v.ownBlock ∨ v1.ownBlock = some W.heap.size) → KK (a.put o.dst v1) w1) :
    if Region.wanted o (yielded ops a.tmps) = true then Oper.wp P o a W KK Q else E := by
  have hw : Region.wanted o (yielded ops a.tmps) = true := by simp [Region.wanted, hgd]
  rw [if_pos hw]
  obtain ⟨v1, w1, hr, hown, hg, hat⟩ := run_append_slv (P := P) W base t o.type e z bytes ht hinfo hz hb0 v n xs ys A m c K HO HR hbase hl
  unfold Oper.wp execOp
  simp only [ho, resolve, invoke, builtin, Sem.run_bind, Sem.run_pure, Result.andThen_ok, List.map_toArray, List.map_cons, List.map_nil, hs, hx, hr]
  exact h v1 w1 hown hg hat

/-- append to a row of the call's own in a plain region -/
theorem wpList_append_slv {W : World} (hgd : o.guard = none) (s x : Operand) (t e : TypeId) (z : Value) (bytes : Nat) (ho : o.op = .call { callee := .builtin .append, args := #[s, x], argTypes := #[t, t] })
    (ht : P.underlying t = some (.slice e)) (hinfo : (P.info? e).map (fun i => (i.zero, i.size, i.bytes)) = some (some z, 1, bytes)) (hz : z.cells.size = 1) (hb0 : 0 < bytes)
    (base : Nat) (v : Value) (n : Nat) (xs ys : List Value) (A : Option Addr) (m c : Nat) (K : Nat → Prop) (hs : a.eval s = v) (hx : a.eval x = .slice A m c)
    (HO : W.ownsRow base e 1 v n xs) (HR : SlV K W (.slice A m c) ys) (hbase : base ≤ W.heap.size) (hl : (n + ys.length) * bytes ≤ 140737488355328)
    (h : ∀ v1 w1, w1.ownsRow base e 1 v1 (n + ys.length) (xs ++ ys) → W.grownBy w1 v.ownBlock → (v1.ownBlock = v.ownBlock ∨ v1.ownBlock = some W.heap.size) → wpList P ops Q rest (a.put o.dst v1) w1) :
    wpList P ops Q (o :: rest) a W := by
  obtain ⟨v1, w1, hr, hown, hg, hat⟩ := run_append_slv (P := P) W base t o.type e z bytes ht hinfo hz hb0 v n xs ys A m c K HO HR hbase hl
  refine wpList_plain hgd fun K hK => ?_
  unfold Oper.wp execOp
  simp only [ho, resolve, invoke, builtin, Sem.run_bind, Sem.run_pure, Result.andThen_ok, List.map_toArray, List.map_cons, List.map_nil, hs, hx, hr]
  exact hK _ _ (h v1 w1 hown hg hat)
end

/-- what an append to a row of the call's own leaves of elder worlds -/
theorem below_grown {w W w1 : World} {base : Nat} {e : TypeId} {size n : Nat} {v : Value} {xs : List Value} (h : Below w.heap.size w W) (hg : W.grownBy w1 v.ownBlock) (ho : W.ownsRow base e size v n xs) (hb : w.heap.size ≤ base) : Below w.heap.size w w1 :=
  h.grown hg h.size fun k hk => Nat.le_trans hb (own_base ho k hk)

/-- a row of the call's own reads as a list -/
theorem slv_of_row {w : World} {base n : Nat} {e : TypeId} {v : Value} {xs : List Value} (h : w.ownsRow base e 1 v n xs) (h1 : ∀ u ∈ xs, u.oneCell' = true) : SlV (fun b => base ≤ b) w v xs := by
  have hl : xs.length = n := by have := h.1; omega
  subst hl
  have hc : ∀ {g : Nat}, v.ownBlock = some g → ∀ j u, xs[j]? = some u → w.cell? ((⟨g, 0, none⟩ : Addr).add j) = some u := fun hg => h.cells hg
  rcases h.2 with ⟨rfl, h0⟩ | ⟨g, cap, cur, rfl, hb, hg, hn, hm, hs, ht⟩
  · obtain rfl := List.eq_nil_of_length_eq_zero h0
    exact SlV.nil _ _
  · exact ⟨some ⟨g, 0, none⟩, cap, rfl, hn, hm, fun _ => ⟨_, rfl, hb, fun j u hu => hc rfl j u hu⟩, h1⟩

/-- the first things of a slice -/
theorem SlV.take {K : Nat → Prop} {w : World} {A : Option Addr} {n c : Nat} {xs : List Value} (h : SlV K w (.slice A n c) xs) (k : Nat) (hk : k ≤ xs.length) : SlV K w (.slice A k c) (xs.take k) := by
  obtain ⟨A', c', he, h1, h2, h3, h4⟩ := h
  injection he with e1 e2 e3
  subst e1 e3
  have hl : (xs.take k).length = k := by rw [List.length_take]; omega
  refine ⟨A, c, by rw [hl], by rw [hl]; omega, h2, fun hp => ?_, fun u hu => h4 u (List.mem_of_mem_take hu)⟩
  obtain ⟨ad, e, hK, hc⟩ := h3 (by omega)
  refine ⟨ad, e, hK, fun j u hu => hc j u ?_⟩
  have hj : j < k := by have := (List.getElem?_eq_some_iff.1 hu).1; omega
  rwa [List.getElem?_take_of_lt hj] at hu

/-- the things of a slice from a place on -/
theorem SlV.drop {K : Nat → Prop} {w : World} {ad : Addr} {n c : Nat} {xs : List Value} (h : SlV K w (.slice (some ad) n c) xs) (k : Nat) (hk : k ≤ xs.length) : SlV K w (.slice (some (ad.add k)) (n - k) (c - k)) (xs.drop k) := by
  obtain ⟨A', c', he, h1, h2, h3, h4⟩ := h
  injection he with e1 e2 e3
  subst e2 e3
  cases e1
  have hl : (xs.drop k).length = xs.length - k := List.length_drop
  refine ⟨some (ad.add k), c - k, by rw [hl], by rw [hl]; omega, by omega, fun hp => ?_, fun u hu => h4 u (List.mem_of_mem_drop hu)⟩
  obtain ⟨ad', e, hK, hc⟩ := h3 (by omega)
  cases e
  have hb : (ad.add k).block = ad.block := by unfold Addr.add; split <;> rfl
  refine ⟨_, rfl, by rw [hb]; exact hK, fun j u hu => ?_⟩
  have hadd : (ad.add k).add j = ad.add (k + j) := by
    unfold Addr.add
    by_cases h1 : k = 0 <;> by_cases h2 : j = 0 <;> simp [h1, h2, Nat.add_assoc]
  rw [hadd]
  exact hc (k + j) u (by rwa [List.getElem?_drop] at hu)
end Go.Proofs.Ytcjpdjecgeenfaa.Mem
end

section
namespace Go.Proofs.Ytcjpdjecgeenfaa.Ro
open Go Go.RowKit Go.Proofs.Ytcjpdjecgeenfaa.Mem Go.Proofs.YtcjpdjecgeenfaaW.PrintWords

/-- a list in memory of the call's own -/
def OwnR (e : TypeId) (base : Nat) (w : World) (v : Value) (xs : List Value) : Prop := w.ownsRow base e 1 v xs.length xs ∧ ∀ u ∈ xs, u.oneCell' = true
theorem OwnR.slv {e : TypeId} {base : Nat} {w : World} {v : Value} {xs : List Value} (h : OwnR e base w v xs) : SlV (fun b => base ≤ b) w v xs := slv_of_row h.1 h.2

theorem info_int : (Try.prog.info? 3).map (fun i => (i.zero, i.size, i.bytes)) = some (some (.int .i64 0), 1, 8) := by kernel_rfl

set_option maxHeartbeats 2000000 in
theorem both_int' (A : Option Addr) (n c : Nat) (xs : List Value) (A' : Option Addr) (n' c' : Nat) (ys : List Value) (w : World) (K K' : Nat → Prop) (h : SlV K w (.slice A n c) xs) (h' : SlV K' w (.slice A' n' c') ys) (hn : xs.length ≤ 1000000) (hn' : ys.length ≤ 1000000) :
    Calls Try.prog 28 #[.slice A n c, .slice A' n' c'] w (Ret (fun v w' => OwnR 3 w.heap.size w' v (xs ++ ys)) w) := by
  obtain rfl := h.len
  obtain rfl := h'.len
  obtain ⟨i0, hi, hz0, hz1, hz2⟩ := info_parts info_int
  have hmk : ∀ W, (Instr.makeSlice 27 (.int .i64 0) (.int .i64 ((xs.length : Int) + (ys.length : Int)))).run Try.prog W = .ok (.slice (some ⟨W.heap.size, 0, none⟩) 0 (xs.length + ys.length)) (W.alloc (.cells (Array.replicate (xs.length + ys.length) (.int .i64 0)) 3)) := by
    intro W
    have := run_make (P := Try.prog) W 27 3 i0 (.int .i64 0) Try.underlying27 hi hz0 .i64 .i64 0 ((xs.length : Int) + (ys.length : Int)) (by omega) (by omega) (by rw [hz2]; omega) (by omega)
    rw [hz1, Nat.mul_one, show Value.cells (.int .i64 0) = #[(.int .i64 0)] from rfl, madeCells_one] at this
    rw [show ((xs.length : Int) + (ys.length : Int)).toNat = xs.length + ys.length by omega] at this
    simpa using this
  clear hi hz0 hz1 hz2 i0
  have hrow : (w.alloc (.cells (Array.replicate (xs.length + ys.length) (.int .i64 0)) 3)).ownsRow w.heap.size 3 1 (.slice (some ⟨w.heap.size, 0, none⟩) 0 (xs.length + ys.length)) 0 [] :=
    World.ownsRow_made (base := w.heap.size) (e := 3) (size := 1) w (Array.replicate (xs.length + ys.length) (.int .i64 0)) (xs.length + ys.length) (Nat.le_refl _) (by simp [maxLen]; omega) (by simp)
  have hba : Below w.heap.size w (w.alloc (.cells (Array.replicate (xs.length + ys.length) (.int .i64 0)) 3)) := (Below.refl _ _).alloc (Nat.le_refl _) _
  have hx1 := h.below hba
  have hx2 := h'.bound.below hba
  have HR := Lib.hid hrow; clear hrow
  have HX := Lib.hid hx1; clear hx1
  have HY := Lib.hid hx2; clear hx2
  have h1x := Lib.hid h.one
  have h1y := Lib.hid h'.one
  clear h h'
  have HBA := Lib.hid hba; clear hba
  go_enter Try.func28, Try.ntmps28
  go_wp2_with (first
    | (at_builtin; refine wpList_append_slv rfl (.tmp 12) (.tmp 13) 27 3 (.int .i64 0) 8 rfl Try.underlying27 info_int rfl (by decide) w.heap.size (.slice (some ⟨w.heap.size, 0, none⟩) 0 (xs.length + ys.length)) 0 [] xs A xs.length c (fun b => K b) rfl rfl HR.out HX.out ?a1 ?a2 ?_; (case a1 => exact HBA.out.size); (case a2 => omega); intro v1 w1 hown1 hg1 hat1; have hb1 := below_grown HBA.out hg1 HR.out (Nat.le_refl _); have HO1 := Lib.hid hown1; have HB1 := Lib.hid hb1; have HYW := Lib.hid (HY.out.keep fun b hb hlt => hg1.block b hlt (by simp [Value.ownBlock]; have := hb.2; omega)); clear hown1 hg1 hat1 hb1)
    | (at_builtin; refine wpList_append_slv rfl (.tmp 14) (.tmp 15) 27 3 (.int .i64 0) 8 rfl Try.underlying27 info_int rfl (by decide) w.heap.size v1 (0 + xs.length) ([] ++ xs) ys A' ys.length c' (fun b => K' b ∧ b < w.heap.size) rfl rfl HO1.out HYW.out HB1.out.size ?b2 ?_; (case b2 => omega); intro v2 w2 hown2 hg2 hat2; have hb2 := below_grown HB1.out hg2 HO1.out (Nat.le_refl _)))
  go_returns
  refine ⟨_, rfl, ⟨?_, fun u hu => (List.mem_append.1 hu).elim (h1x.out u) (h1y.out u)⟩, hb2⟩
  rw [List.length_append]
  simpa using hown2
theorem info_ptr : (Try.prog.info? 23).map (fun i => (i.zero, i.size, i.bytes)) = some (some (.pointer none), 1, 8) := by kernel_rfl

set_option maxHeartbeats 2000000 in
theorem both_ptr' (A : Option Addr) (n c : Nat) (xs : List Value) (A' : Option Addr) (n' c' : Nat) (ys : List Value) (w : World) (K K' : Nat → Prop) (h : SlV K w (.slice A n c) xs) (h' : SlV K' w (.slice A' n' c') ys) (hn : xs.length ≤ 1000000) (hn' : ys.length ≤ 1000000) :
    Calls Try.prog 47 #[.slice A n c, .slice A' n' c'] w (Ret (fun v w' => OwnR 23 w.heap.size w' v (xs ++ ys)) w) := by
  obtain rfl := h.len
  obtain rfl := h'.len
  obtain ⟨i0, hi, hz0, hz1, hz2⟩ := info_parts info_ptr
  have hmk : ∀ W, (Instr.makeSlice 62 (.int .i64 0) (.int .i64 ((xs.length : Int) + (ys.length : Int)))).run Try.prog W = .ok (.slice (some ⟨W.heap.size, 0, none⟩) 0 (xs.length + ys.length)) (W.alloc (.cells (Array.replicate (xs.length + ys.length) (.pointer none)) 23)) := by
    intro W
    have := run_make (P := Try.prog) W 62 23 i0 (.pointer none) Try.underlying62 hi hz0 .i64 .i64 0 ((xs.length : Int) + (ys.length : Int)) (by omega) (by omega) (by rw [hz2]; omega) (by omega)
    rw [hz1, Nat.mul_one, show Value.cells (.pointer none) = #[(.pointer none)] from rfl, madeCells_one] at this
    rw [show ((xs.length : Int) + (ys.length : Int)).toNat = xs.length + ys.length by omega] at this
    simpa using this
  clear hi hz0 hz1 hz2 i0
  have hrow : (w.alloc (.cells (Array.replicate (xs.length + ys.length) (.pointer none)) 23)).ownsRow w.heap.size 23 1 (.slice (some ⟨w.heap.size, 0, none⟩) 0 (xs.length + ys.length)) 0 [] :=
    World.ownsRow_made (base := w.heap.size) (e := 23) (size := 1) w (Array.replicate (xs.length + ys.length) (.pointer none)) (xs.length + ys.length) (Nat.le_refl _) (by simp [maxLen]; omega) (by simp)
  have hba : Below w.heap.size w (w.alloc (.cells (Array.replicate (xs.length + ys.length) (.pointer none)) 23)) := (Below.refl _ _).alloc (Nat.le_refl _) _
  have hx1 := h.below hba
  have hx2 := h'.bound.below hba
  have HR := Lib.hid hrow; clear hrow
  have HX := Lib.hid hx1; clear hx1
  have HY := Lib.hid hx2; clear hx2
  have h1x := Lib.hid h.one
  have h1y := Lib.hid h'.one
  clear h h'
  have HBA := Lib.hid hba; clear hba
  go_enter Try.func47, Try.ntmps47
  go_wp2_with (first
    | (at_builtin; refine wpList_append_slv rfl (.tmp 12) (.tmp 13) 62 23 (.pointer none) 8 rfl Try.underlying62 info_ptr rfl (by decide) w.heap.size (.slice (some ⟨w.heap.size, 0, none⟩) 0 (xs.length + ys.length)) 0 [] xs A xs.length c (fun b => K b) rfl rfl HR.out HX.out ?a1 ?a2 ?_; (case a1 => exact HBA.out.size); (case a2 => omega); intro v1 w1 hown1 hg1 hat1; have hb1 := below_grown HBA.out hg1 HR.out (Nat.le_refl _); have HO1 := Lib.hid hown1; have HB1 := Lib.hid hb1; have HYW := Lib.hid (HY.out.keep fun b hb hlt => hg1.block b hlt (by simp [Value.ownBlock]; have := hb.2; omega)); clear hown1 hg1 hat1 hb1)
    | (at_builtin; refine wpList_append_slv rfl (.tmp 14) (.tmp 15) 62 23 (.pointer none) 8 rfl Try.underlying62 info_ptr rfl (by decide) w.heap.size v1 (0 + xs.length) ([] ++ xs) ys A' ys.length c' (fun b => K' b ∧ b < w.heap.size) rfl rfl HO1.out HYW.out HB1.out.size ?b2 ?_; (case b2 => omega); intro v2 w2 hown2 hg2 hat2; have hb2 := below_grown HB1.out hg2 HO1.out (Nat.le_refl _)))
  go_returns
  refine ⟨_, rfl, ⟨?_, fun u hu => (List.mem_append.1 hu).elim (h1x.out u) (h1y.out u)⟩, hb2⟩
  rw [List.length_append]
  simpa using hown2
end Go.Proofs.Ytcjpdjecgeenfaa.Ro
end

section
namespace Go.Proofs.Ytcjpdjecgeenfaa.Ro
open Go Go.RowKit Go.Proofs.Ytcjpdjecgeenfaa.Mem Go.Proofs.YtcjpdjecgeenfaaW.PrintWords

abbrev NT : TypeId := 64
abbrev ints (xs : List Int) : List Value := xs.map (Value.int .i64)
/-- a kid: its node, how many things or kids it has itself, and all things below -/
abbrev Kid := Option Addr × Nat × List Int
abbrev ptrs (ks : List Kid) : List Value := ks.map fun k => Value.pointer k.1
abbrev things (ks : List Kid) : List Int := ks.flatMap fun k => k.2.2

theorem ints_one (xs : List Int) : ∀ u ∈ ints xs, u.oneCell' = true := by intro u hu; obtain ⟨x, _, rfl⟩ := List.mem_map.1 hu; rfl

/-- what a node tells (of depth d + 1, with c things or kids): its things; all its blocks are of K -/
def RRep (K : Nat → Prop) (w : World) : Nat → Option Addr → Nat → List Int → Prop
  | 0, p, c, xs => ∃ (g : Nat) (s : Value), p = some ⟨g, 0, none⟩ ∧ K g ∧ w.heap[g]? = some (.cells #[.int .i64 (xs.length : Int), .int .i64 1, .slice none 0 0, s] 64 (0, 0)) ∧ SlV K w s (ints xs) ∧ c = xs.length
  | d + 1, p, c, xs => ∃ (g : Nat) (s : Value) (kids : List Kid), p = some ⟨g, 0, none⟩ ∧ K g ∧ w.heap[g]? = some (.cells #[.int .i64 (xs.length : Int), .int .i64 ((d : Int) + 2), s, .slice none 0 0] 64 (0, 0)) ∧ SlV K w s (ptrs kids) ∧
      (∀ k ∈ kids, RRep K w d k.1 k.2.1 k.2.2 ∧ 8 ≤ k.2.1 ∧ k.2.1 ≤ 16) ∧ xs = things kids ∧ c = kids.length

theorem RRep.keep {K K' : Nat → Prop} {w w' : World} (hK : ∀ b, K b → b < w.heap.size → K' b) (hb : ∀ b, K b → b < w.heap.size → w'.heap[b]? = w.heap[b]?) : ∀ {d : Nat} {p : Option Addr} {c : Nat} {xs : List Int}, RRep K w d p c xs → RRep K' w' d p c xs
  | 0, _, _, _, ⟨g, s, h1, hk, h2, h3, h4⟩ => ⟨g, s, h1, hK _ hk (blk_lt h2), (hb g hk (blk_lt h2)).trans h2, (h3.bound.keep fun b h _ => hb b h.1 h.2).mono fun b h => hK b h.1 h.2, h4⟩
  | d + 1, _, _, _, ⟨g, s, kids, h1, hk, h2, h3, h5, h6⟩ => ⟨g, s, kids, h1, hK _ hk (blk_lt h2), (hb g hk (blk_lt h2)).trans h2, (h3.bound.keep fun b h _ => hb b h.1 h.2).mono fun b h => hK b h.1 h.2, fun k hk' => ⟨RRep.keep hK hb (h5 k hk').1, (h5 k hk').2⟩, h6⟩

section
variable {K K' : Nat → Prop} {w w' : World} {d c : Nat} {p : Option Addr} {xs : List Int}
theorem RRep.below (h : RRep K w d p c xs) (hb : Below w.heap.size w w') : RRep K w' d p c xs := h.keep (fun _ h _ => h) (fun b _ hlt => hb.block b hlt)
theorem RRep.mono (h : RRep K w d p c xs) (hK : ∀ b, K b → K' b) : RRep K' w d p c xs := h.keep (fun b h _ => hK b h) (fun _ _ _ => rfl)
theorem RRep.bound (h : RRep K w d p c xs) : RRep (fun b => K b ∧ b < w.heap.size) w d p c xs := h.keep (fun _ h hl => ⟨h, hl⟩) (fun _ _ _ => rfl)

theorem RRep.head (h : RRep K w d p c xs) : ∃ g a b, p = some ⟨g, 0, none⟩ ∧ K g ∧ w.heap[g]? = some (.cells #[.int .i64 (xs.length : Int), .int .i64 ((d : Int) + 1), a, b] 64 (0, 0)) := by
  cases d with
  | zero => obtain ⟨g, s, h1, h2, h3, _⟩ := h; exact ⟨g, _, _, h1, h2, h3⟩
  | succ d =>
    obtain ⟨g, s, kids, h1, h2, h3, _⟩ := h
    refine ⟨g, s, .slice none 0 0, h1, h2, ?_⟩
    rw [h3, show (((d + 1 : Nat) : Int) + 1) = (d : Int) + 2 by push_cast; omega]
end

/-- how many things lie below -/
theorem RRep.len {K : Nat → Prop} {w : World} : ∀ {d : Nat} {p : Option Addr} {c : Nat} {xs : List Int}, RRep K w d p c xs → 8 ^ d * c ≤ xs.length ∧ xs.length ≤ 16 ^ d * c
  | 0, _, _, _, ⟨g, s, h1, hk, h2, h3, h4⟩ => by subst h4; simp
  | d + 1, _, _, _, ⟨g, s, kids, h1, hk, h2, h3, h5, h6, h7⟩ => by
    subst h6 h7
    have hall : ∀ k ∈ kids, 8 ^ (d + 1) ≤ k.2.2.length ∧ k.2.2.length ≤ 16 ^ (d + 1) := fun k hk' => by
      obtain ⟨h, h8, h16⟩ := h5 k hk'
      obtain ⟨a, b⟩ := RRep.len h
      have e1 := Nat.mul_le_mul_left (8 ^ d) h8
      have e2 := Nat.mul_le_mul_left (16 ^ d) h16
      rw [Nat.pow_succ, Nat.pow_succ]
      exact ⟨Nat.le_trans e1 a, Nat.le_trans b e2⟩
    clear h3 h5 h2
    induction kids with
    | nil => simp
    | cons k ks ih =>
      obtain ⟨a, b⟩ := hall k (by simp)
      obtain ⟨a', b'⟩ := ih fun k hk => hall k (by simp [hk])
      rw [List.length_cons, Nat.mul_add_one, Nat.mul_add_one]
      show _ ≤ ((k :: ks).flatMap _).length ∧ ((k :: ks).flatMap _).length ≤ _
      rw [List.flatMap_cons, List.length_append]
      have hl : (things ks).length = (List.flatMap (fun k : Kid => k.2.2) ks).length := rfl
      rw [hl] at a' b'
      exact ⟨by rw [Nat.add_comm]; exact Nat.add_le_add a a', by rw [Nat.add_comm (16 ^ (d + 1) * ks.length)]; exact Nat.add_le_add b b'⟩

set_option maxHeartbeats 1000000 in
theorem leaf_nil (A : Option Addr) (c : Nat) (w : World) :
    Calls Try.prog 27 #[.slice A 0 c] w (Ret (fun v _ => v = .pointer none) w) := by
  go_enter Try.func27, Try.ntmps27
  go_wp2
  go_returns
  exact ⟨_, rfl, rfl, Below.refl _ _⟩

set_option maxHeartbeats 1000000 in
theorem leaf_some (K : Nat → Prop) (A : Option Addr) (n c : Nat) (xs : List Int) (w : World) (h : SlV K w (.slice A n c) (ints xs)) (hx : xs ≠ []) :
    Calls Try.prog 27 #[.slice A n c] w (Ret (fun v w' => ∃ p, v = .pointer p ∧ RRep (New K w) w' 0 p xs.length xs) w) := by
  obtain rfl : n = xs.length := by have := h.len; simpa using this
  have hn : ((xs.length : Int) == 0) = false := beq_false_of_ne (by have := List.length_pos_iff.2 hx; omega)
  have H := Lib.hid h; clear h hx
  go_enter Try.func27, Try.ntmps27
  go_wp2
  go_returns
  have hb : Below w.heap.size w (w.alloc (.cells #[.int .i64 (xs.length : Int), .int .i64 1, .slice none 0 0, .slice A xs.length c] NT)) := by go_grown
  exact ⟨_, rfl, ⟨_, rfl, w.heap.size, _, rfl, New.fresh (Nat.le_refl _), blk_new w _, (H.out.mono fun b h => New.old h).below hb, rfl⟩, hb⟩
end Go.Proofs.Ytcjpdjecgeenfaa.Ro
end

section
namespace Go.Proofs.Ytcjpdjecgeenfaa.Ro
open Go Go.RowKit Go.Proofs.Ytcjpdjecgeenfaa.Mem Go.Proofs.YtcjpdjecgeenfaaW.PrintWords

theorem wrap_mid (a : Int) (h0 : 0 ≤ a) (h1 : a ≤ 1000000000000) : wrap64 a = a := by unfold wrap64; omega

set_option maxHeartbeats 1000000 in
theorem inner_nil (A : Option Addr) (c : Nat) (w : World) :
    Calls Try.prog 36 #[.slice A 0 c] w (Ret (fun v _ => v = .pointer none) w) := by
  go_enter Try.func36, Try.ntmps36
  go_wp2
  go_returns
  exact ⟨_, rfl, rfl, Below.refl _ _⟩

set_option maxHeartbeats 1000000 in
theorem inner_one (K : Nat → Prop) (A : Option Addr) (n c : Nat) (q : Option Addr) (w : World) (h : SlV K w (.slice A n c) [.pointer q]) :
    Calls Try.prog 36 #[.slice A n c] w (Ret (fun v _ => v = .pointer q) w) := by
  obtain rfl : n = 1 := h.len
  obtain ⟨ad, rfl, hc⟩ := h.addr (by simp)
  have c0 : w.cell? ad = some (.pointer q) := by have := hc 0 (.pointer q) rfl; simpa [Addr.add] using this
  clear h hc
  go_enter Try.func36, Try.ntmps36
  go_wp2
  go_returns
  exact ⟨_, rfl, rfl, Below.refl _ _⟩

/-- what holds at each round's head -/
def InnI (w : World) (d : Nat) (s : Value) (ks : List Kid) (k : Nat) (v27 : Value) (wr : World) : Prop :=
  ∃ j m : Nat, v27 = .int .i64 (j : Int) ∧ j + k = ks.length ∧ m = (things (ks.take j)).length ∧ wr.heap[w.heap.size]? = some (.cells #[.int .i64 (m : Int), .int .i64 ((d : Int) + 2), s, .slice none 0 0] 64 (0, 0)) ∧ Below w.heap.size w wr

set_option maxHeartbeats 4000000 in
theorem inner_many (K : Nat → Prop) (d : Nat) (A : Option Addr) (n c : Nat) (ks : List Kid) (w : World) (h : SlV K w (.slice A n c) (ptrs ks)) (hk : ∀ k ∈ ks, RRep K w d k.1 k.2.1 k.2.2 ∧ 8 ≤ k.2.1 ∧ k.2.1 ≤ 16) (h2 : 2 ≤ ks.length) (hl : ks.length ≤ 1000) (hd : d ≤ 100) (ht : (things ks).length ≤ 1000000) :
    Calls Try.prog 36 #[.slice A n c] w (Ret (fun v w' => ∃ p, v = .pointer p ∧ RRep (New K w) w' (d + 1) p ks.length (things ks)) w) := by
  obtain rfl : n = ks.length := by have := h.len; simpa using this
  obtain ⟨ad, rfl, hc⟩ := h.addr (by simp; omega)
  have hn0 : ((ks.length : Int) == 0) = false := beq_false_of_ne (by omega)
  have hn1 : ((ks.length : Int) == 1) = false := beq_false_of_ne (by omega)
  obtain ⟨k0, hk0⟩ : ∃ k0, ks[0]? = some k0 := ⟨_, List.getElem?_eq_getElem (by omega)⟩
  obtain ⟨g0, a0, b0, e0, hg0, B0⟩ := (hk k0 (List.mem_of_getElem? hk0)).1.head
  have c0 : w.cell? ad = some (.pointer (some ⟨g0, 0, none⟩)) := by have := hc 0 (.pointer k0.1) (by simp [hk0]); rw [e0] at this; simpa [Addr.add] using this
  have d0 : w.cell? ⟨g0, 1, none⟩ = some (.int .i64 ((d : Int) + 1)) := blk_cell B0 1
  clear B0 hg0 e0 hk0
  have HC := Lib.hid hc; clear hc
  have HK := Lib.hid hk; clear hk
  have H := Lib.hid h; clear h
  have HT := Lib.hid ht; clear ht
  have hlI : (ks.length : Int) ≤ 1000 := by omega
  have hdI : (d : Int) ≤ 100 := by omega
  go_enter Try.func36, Try.ntmps36
  go_wp2_with fail
  go_loopg [27] ks.length (fun k v27 wr => Aside (InnI w d (.slice (some ad) ks.length c) ks k v27 wr))
  case atStart =>
    show InnI _ _ _ _ _ _ _
    refine ⟨0, 0, rfl, by omega, rfl, ?_, by go_grown⟩
    have := blk_new w (.cells #[.int .i64 0, .int .i64 ((d : Int) + 1 + 1), .slice (some ad) ks.length c, .slice none 0 0] 64)
    rw [show (d : Int) + 1 + 1 = (d : Int) + 2 by omega] at this
    first | exact this | (rw [show (d : Int) + 1 + 1 = (d : Int) + 2 by omega]; exact this)
  case round =>
    obtain ⟨j, m, rfl, hj, hm, B, hB⟩ := hrel.out
    have HM := Lib.hid hm; clear hm
    clear hrel
    obtain ⟨⟨q0, q1, q2, q3⟩, f0, f1, f2, f3⟩ := box4 B
    have HB := Lib.hid B; clear B
    cases gk with
    | zero =>
      obtain rfl : j = ks.length := by omega
      clear hj
      go_wp2_with fail
      go_returns
      have hB0 := HB.out
      rw [HM.out, List.take_length] at hB0
      exact ⟨_, rfl, ⟨_, rfl, w.heap.size, _, ks, rfl, New.fresh (Nat.le_refl _), hB0, (H.out.mono fun b h => New.old h).below hB, fun k hk => ⟨((HK.out k hk).1.mono fun b h => New.old h).below hB, (HK.out k hk).2⟩, rfl, rfl⟩, hB⟩
    | succ k =>
      have hjl : j < ks.length := by omega
      have hjI : (j : Int) < (ks.length : Int) := by omega
      obtain ⟨kid, hkid⟩ : ∃ kid, ks[j]? = some kid := ⟨_, List.getElem?_eq_getElem hjl⟩
      obtain ⟨g1, a1, b1, e1, hg1, B1⟩ := (HK.out kid (List.mem_of_getElem? hkid)).1.head
      have c1 : wr.cell? (ad.add j) = some (.pointer (some ⟨g1, 0, none⟩)) := by have := HC.out j (.pointer kid.1) (by simp [hkid]); rw [e1] at this; exact cell_below this hB
      obtain ⟨l1, hl1⟩ : ∃ l1 : Nat, l1 = kid.2.2.length := ⟨_, rfl⟩
      have d1 : wr.cell? ⟨g1, 0, none⟩ = some (.int .i64 (l1 : Int)) := by rw [hl1]; exact cell_below (blk_cell B1 0) hB
      have hne : g1 ≠ w.heap.size := by have := blk_lt B1; omega
      have htk : things (ks.take (j + 1)) = things (ks.take j) ++ kid.2.2 := by rw [List.take_add_one, hkid]; show List.flatMap _ _ = _; rw [List.flatMap_append]; simp
      have hsum : (things (ks.take (j + 1))).length ≤ 1000000 := by
        have h1 : things ks = things (ks.take (j + 1)) ++ things (ks.drop (j + 1)) := by show List.flatMap _ ks = _; rw [← List.flatMap_append, List.take_append_drop]
        have h2 := congrArg List.length h1
        rw [List.length_append] at h2
        have := HT.out
        omega
      rw [htk, List.length_append] at hsum
      rw [← HM.out, ← hl1] at hsum
      have hsI : (m : Int) + (l1 : Int) ≤ 1000000 := by omega
      have HTK := Lib.hid htk
      have HL1 := Lib.hid hl1
      clear htk hl1 hsum B1 hg1 e1 hkid
      go_wp2_with fail
      have hws : IntKind.i64.wrap ((m : Int) + (l1 : Int)) = (m : Int) + (l1 : Int) := by rw [IntKind.wrap_i64]; omega
      go_region
      all_goals
        clear hws
        go_wp2_with fail
        go_roundg k
        case measure => omega
        case rel =>
          show InnI _ _ _ _ _ _ _
          exact ⟨j + 1, m + l1, by first | rfl | (push_cast; rfl), by omega, by rw [HTK.out, List.length_append, HM.out, HL1.out], by first | exact blk_put HB.out 0 _ rfl | (push_cast; exact blk_put HB.out 0 _ rfl), Below.drew (Below.setCell (p := ⟨w.heap.size, 0, none⟩) hB (by exact Nat.le_refl w.heap.size) _)⟩
end Go.Proofs.Ytcjpdjecgeenfaa.Ro
end

section
namespace Go.Proofs.Ytcjpdjecgeenfaa.Ro
open Go Go.RowKit Go.Proofs.Ytcjpdjecgeenfaa.Mem Go.Proofs.YtcjpdjecgeenfaaW.PrintWords

/-- a list of one or two nodes of depth d + 1, each with at least m things or kids, or eight -/
def PartsP (K : Nat → Prop) (d m : Nat) (xs : List Int) (v : Value) (w : World) : Prop :=
  ∃ ps : List Kid, SlV K w v (ptrs ps) ∧ (∀ k ∈ ps, RRep K w d k.1 k.2.1 k.2.2 ∧ min 8 m ≤ k.2.1 ∧ k.2.1 ≤ 16) ∧ things ps = xs ∧ 1 ≤ ps.length ∧ ps.length ≤ 2 ∧ (2 ≤ ps.length → ∀ k ∈ ps, 8 ≤ k.2.1)

theorem parts_one {K : Nat → Prop} {d m : Nat} {xs : List Int} {w : World} {g : Nat} {p : Option Addr} {c : Nat} (hg : w.heap[g]? = some (.cells #[.pointer p] 23 (0, 0))) (hK : K g) (h : RRep K w d p c xs) (h8 : min 8 m ≤ c) (h16 : c ≤ 16) : PartsP K d m xs (.slice (some ⟨g, 0, none⟩) 1 1) w := by
  refine ⟨[(p, c, xs)], SlV.blk (xs := ptrs [(p, c, xs)]) (c := 1) hg (fun j u hu => ?_) (by simp) (by simp [maxLen]) (fun u hu => ?_) hK, fun k hk => ?_, by simp [things], by simp, by simp, by simp⟩
  · rcases j with _ | j
    · simpa using hu
    · simp at hu
  · obtain rfl := List.mem_singleton.1 hu; rfl
  · obtain rfl := List.mem_singleton.1 hk; exact ⟨h, h8, h16⟩

theorem parts_two {K : Nat → Prop} {d m : Nat} {xs ys : List Int} {w : World} {g : Nat} {p q : Option Addr} {c c' : Nat} (hg : w.heap[g]? = some (.cells #[.pointer p, .pointer q] 23 (0, 0))) (hK : K g) (h : RRep K w d p c xs) (h8 : 8 ≤ c) (h16 : c ≤ 16) (h' : RRep K w d q c' ys) (h8' : 8 ≤ c') (h16' : c' ≤ 16) : PartsP K d m (xs ++ ys) (.slice (some ⟨g, 0, none⟩) 2 2) w := by
  refine ⟨[(p, c, xs), (q, c', ys)], SlV.blk (xs := ptrs [(p, c, xs), (q, c', ys)]) (c := 2) hg (fun j u hu => ?_) (by simp) (by simp [maxLen]) (fun u hu => ?_) hK, fun k hk => ?_, by simp [things], by simp, by simp, fun _ k hk => by simp at hk; rcases hk with rfl | rfl <;> assumption⟩
  · match j with
    | 0 => simpa using hu
    | 1 => simpa using hu
    | j + 2 => simp at hu
  · simp at hu; rcases hu with rfl | rfl <;> rfl
  · simp at hk; rcases hk with rfl | rfl
    · exact ⟨h, Nat.le_trans (Nat.min_le_left _ _) h8, h16⟩
    · exact ⟨h', Nat.le_trans (Nat.min_le_left _ _) h8', h16'⟩

set_option maxHeartbeats 4000000 in
theorem leaves_c (K : Nat → Prop) (A : Option Addr) (n c : Nat) (xs : List Int) (w : World) (h : SlV K w (.slice A n c) (ints xs)) (h1 : 1 ≤ xs.length) (h2 : xs.length ≤ 32) :
    Calls Try.prog 49 #[.slice A n c] w (Ret (fun v w' => PartsP (New K w) 0 xs.length xs v w') w) := by
  obtain rfl : n = xs.length := by have := h.len; simpa using this
  have hcap : xs.length ≤ c := by obtain ⟨_, _, e, h3, _⟩ := h; injection e with _ _ e3; subst e3; simpa using h3
  by_cases h16 : xs.length ≤ 16
  · have h16I : (xs.length : Int) ≤ 16 := by omega
    have H := Lib.hid h; clear h
    have HX := Lib.hid (show xs ≠ [] by rintro rfl; simp at h1)
    go_enter Try.func49, Try.ntmps49
    go_wp2_with (go_at_call 27; ((with_reducible refine (leaf_some _ _ _ _ xs _ H.out HX.out).mono ?_); rintro e w1 ⟨v, rfl, ⟨p, rfl, hr⟩, hb1⟩; have HR := Lib.hid hr; clear hr))
    go_returns
    have hb2 : Below w1.heap.size w1 (w1.alloc (.cells #[.pointer p] 23)) := (Below.refl _ _).alloc (Nat.le_refl _) _
    exact ⟨_, rfl, parts_one (blk_new w1 _) (New.fresh hb1.size) (HR.out.below hb2) (Nat.min_le_right _ _) h16, hb1.alloc hb1.size _⟩
  · obtain ⟨ad, rfl, -⟩ := h.addr (by simp; omega)
    obtain ⟨hf, hhf⟩ : ∃ hf : Nat, hf = xs.length / 2 := ⟨_, rfl⟩
    have hh1 : 8 ≤ hf := by omega
    have hh2 : hf ≤ 16 := by omega
    have hh3 : xs.length - hf ≤ 16 := by omega
    have hh4 : hf + 8 ≤ xs.length := by omega
    have hhI : (xs.length : Int) / 2 = (hf : Int) := by omega
    have h16I : ¬ (xs.length : Int) ≤ 16 := by omega
    have ht := h.take hf (by simp; omega)
    have hd := h.drop hf (by simp; omega)
    rw [← List.map_take] at ht
    rw [← List.map_drop] at hd
    have HA := Lib.hid (fun W (hw : Below w.heap.size w W) => both_int' (some ad) hf c (ints (xs.take hf)) none 0 0 [] W K (fun _ => False) (ht.below hw) (SlV.nil _ W) (by simp; omega) (by simp))
    have HB := Lib.hid (fun W (hw : Below w.heap.size w W) => both_int' (some (ad.add hf)) (xs.length - hf) (c - hf) (ints (xs.drop hf)) none 0 0 [] W K (fun _ => False) (hd.below hw) (SlV.nil _ W) (by simp; omega) (by simp))
    have HN1 := Lib.hid (show xs.take hf ≠ [] from List.ne_nil_of_length_pos (by rw [List.length_take]; omega))
    have HN2 := Lib.hid (show xs.drop hf ≠ [] from List.ne_nil_of_length_pos (by rw [List.length_drop]; omega))
    clear ht hd h hhf
    have hc0 : (0 : Int) ≤ (hf : Int) := by omega
    have hc1 : (hf : Int) ≤ (xs.length : Int) := by omega
    have hc2 : (hf : Int) ≤ (c : Int) := by omega
    have hc3 : (xs.length : Int) ≤ (c : Int) := by omega
    have hc4 : ¬ c = hf := by omega
    go_enter Try.func49, Try.ntmps49
    go_wp2_with fail
    have HW := Lib.hid (Below.drew (Below.refl w.heap.size w))
    go_region_with (first
      | (go_at_call 28; (with_reducible refine (HA.out _ HW.out).mono ?_); rintro e wx ⟨v, rfl, hO, hbx⟩; obtain ⟨Aa, na, ca, rfl⟩ := hO.slv.form; have HSa := Lib.hid (hO.slv.mono (K' := Fresh w) fun b h => Nat.le_trans HW.out.size h); clear hO HA; (try replace HSa := Lib.hid (HSa.out.below hbx)); (try replace HSb := Lib.hid (HSb.out.below hbx)); (try replace HRa := Lib.hid (HRa.out.below hbx)); (try replace HRb := Lib.hid (HRb.out.below hbx)); have HW := Lib.hid (below_trans HW.out hbx); clear hbx)
      | (go_at_call 28; (with_reducible refine (HB.out _ HW.out).mono ?_); rintro e wx ⟨v, rfl, hO, hbx⟩; obtain ⟨Ab, nb, cb, rfl⟩ := hO.slv.form; have HSb := Lib.hid (hO.slv.mono (K' := Fresh w) fun b h => Nat.le_trans HW.out.size h); clear hO HB; (try replace HSa := Lib.hid (HSa.out.below hbx)); (try replace HSb := Lib.hid (HSb.out.below hbx)); (try replace HRa := Lib.hid (HRa.out.below hbx)); (try replace HRb := Lib.hid (HRb.out.below hbx)); have HW := Lib.hid (below_trans HW.out hbx); clear hbx)
      | (go_at_call 27; (with_reducible refine (leaf_some _ _ _ _ (xs.take hf) _ (by have := HSa.out; simpa using this) HN1.out).mono ?_); rintro e wx ⟨v, rfl, ⟨pa, rfl, hr⟩, hbx⟩; clear HSa; have HRa := Lib.hid (hr.mono (K' := Fresh w) fun b h => h.elim id fun h => Nat.le_trans HW.out.size h); clear hr; (try replace HSa := Lib.hid (HSa.out.below hbx)); (try replace HSb := Lib.hid (HSb.out.below hbx)); (try replace HRa := Lib.hid (HRa.out.below hbx)); (try replace HRb := Lib.hid (HRb.out.below hbx)); have HW := Lib.hid (below_trans HW.out hbx); clear hbx)
      | (go_at_call 27; (with_reducible refine (leaf_some _ _ _ _ (xs.drop hf) _ (by have := HSb.out; simpa using this) HN2.out).mono ?_); rintro e wx ⟨v, rfl, ⟨pb, rfl, hr⟩, hbx⟩; clear HSb; have HRb := Lib.hid (hr.mono (K' := Fresh w) fun b h => h.elim id fun h => Nat.le_trans HW.out.size h); clear hr; (try replace HSa := Lib.hid (HSa.out.below hbx)); (try replace HSb := Lib.hid (HSb.out.below hbx)); (try replace HRa := Lib.hid (HRa.out.below hbx)); (try replace HRb := Lib.hid (HRb.out.below hbx)); have HW := Lib.hid (below_trans HW.out hbx); clear hbx)
      | fail)
    all_goals
      go_wp2_with fail
      go_returns
      have hb2 : Below wx.heap.size wx (wx.alloc (.cells #[.pointer pa, .pointer pb] 23)) := (Below.refl _ _).alloc (Nat.le_refl _) _
      have hp := parts_two (K := New K w) (m := xs.length) (blk_new wx (.cells #[.pointer pa, .pointer pb] 23)) (New.fresh HW.out.size) ((HRa.out.below hb2).mono fun b h => New.fresh h) (by rw [List.length_take]; omega) (by rw [List.length_take]; omega) ((HRb.out.below hb2).mono fun b h => New.fresh h) (by rw [List.length_drop]; omega) (by rw [List.length_drop]; omega)
      rw [List.take_append_drop] at hp
      exact ⟨_, rfl, hp, HW.out.alloc HW.out.size _⟩

set_option maxHeartbeats 4000000 in
theorem inners_c (K : Nat → Prop) (d : Nat) (A : Option Addr) (n c : Nat) (xs : List Kid) (w : World) (h : SlV K w (.slice A n c) (ptrs xs)) (hk : ∀ k ∈ xs, RRep K w d k.1 k.2.1 k.2.2 ∧ 8 ≤ k.2.1 ∧ k.2.1 ≤ 16) (h1 : 2 ≤ xs.length) (h2 : xs.length ≤ 32) (hd : d ≤ 100) (ht : (things xs).length ≤ 1000000) :
    Calls Try.prog 48 #[.slice A n c] w (Ret (fun v w' => PartsP (New K w) (d + 1) xs.length (things xs) v w') w) := by
  obtain rfl : n = xs.length := by have := h.len; simpa using this
  have hcap : xs.length ≤ c := by obtain ⟨_, _, e, h3, _⟩ := h; injection e with _ _ e3; subst e3; simpa using h3
  by_cases h16 : xs.length ≤ 16
  · have h16I : (xs.length : Int) ≤ 16 := by omega
    have H := Lib.hid h; clear h
    have HKD := Lib.hid hk; clear hk
    go_enter Try.func48, Try.ntmps48
    go_wp2_with (go_at_call 36; ((with_reducible refine (inner_many K d _ _ _ xs _ H.out HKD.out h1 (by omega) hd ht).mono ?_); rintro e w1 ⟨v, rfl, ⟨p, rfl, hr⟩, hb1⟩; have HR := Lib.hid hr; clear hr))
    go_returns
    have hb2 : Below w1.heap.size w1 (w1.alloc (.cells #[.pointer p] 23)) := (Below.refl _ _).alloc (Nat.le_refl _) _
    exact ⟨_, rfl, parts_one (blk_new w1 _) (New.fresh hb1.size) (HR.out.below hb2) (Nat.min_le_right _ _) h16, hb1.alloc hb1.size _⟩
  · obtain ⟨ad, rfl, -⟩ := h.addr (by simp; omega)
    obtain ⟨hf, hhf⟩ : ∃ hf : Nat, hf = xs.length / 2 := ⟨_, rfl⟩
    have hh1 : 8 ≤ hf := by omega
    have hh2 : hf ≤ 16 := by omega
    have hh3 : xs.length - hf ≤ 16 := by omega
    have hh4 : hf + 8 ≤ xs.length := by omega
    have hhI : (xs.length : Int) / 2 = (hf : Int) := by omega
    have h16I : ¬ (xs.length : Int) ≤ 16 := by omega
    have hst := h.take hf (by simp; omega)
    have hsd := h.drop hf (by simp; omega)
    rw [← List.map_take] at hst
    rw [← List.map_drop] at hsd
    have HA := Lib.hid (fun W (hw : Below w.heap.size w W) => both_ptr' (some ad) hf c (ptrs (xs.take hf)) none 0 0 [] W K (fun _ => False) (hst.below hw) (SlV.nil _ W) (by simp; omega) (by simp))
    have HB := Lib.hid (fun W (hw : Below w.heap.size w W) => both_ptr' (some (ad.add hf)) (xs.length - hf) (c - hf) (ptrs (xs.drop hf)) none 0 0 [] W K (fun _ => False) (hsd.below hw) (SlV.nil _ W) (by simp; omega) (by simp))
    have htd : things (xs.take hf) ++ things (xs.drop hf) = things xs := by show List.flatMap _ _ ++ List.flatMap _ _ = List.flatMap _ _; rw [← List.flatMap_append, List.take_append_drop]
    have htl : (things (xs.take hf)).length ≤ 1000000 ∧ (things (xs.drop hf)).length ≤ 1000000 := by have := congrArg List.length htd; rw [List.length_append] at this; omega
    have HTD := Lib.hid htd; clear htd
    have HTL := Lib.hid htl; clear htl
    have HKD := Lib.hid (fun W (hw : Below w.heap.size w W) k (hkk : k ∈ xs) => (show RRep (New K w) W d k.1 k.2.1 k.2.2 ∧ 8 ≤ k.2.1 ∧ k.2.1 ≤ 16 from ⟨((hk k hkk).1.below hw).mono fun b h => New.old h, (hk k hkk).2⟩))
    have HHD := Lib.hid hd; clear hd
    have HL1 := Lib.hid (show 2 ≤ (xs.take hf).length ∧ (xs.take hf).length ≤ 1000 by rw [List.length_take]; omega)
    have HL2 := Lib.hid (show 2 ≤ (xs.drop hf).length ∧ (xs.drop hf).length ≤ 1000 by rw [List.length_drop]; omega)
    clear hst hsd h hhf hk ht
    have hc0 : (0 : Int) ≤ (hf : Int) := by omega
    have hc1 : (hf : Int) ≤ (xs.length : Int) := by omega
    have hc2 : (hf : Int) ≤ (c : Int) := by omega
    have hc3 : (xs.length : Int) ≤ (c : Int) := by omega
    have hc4 : ¬ c = hf := by omega
    go_enter Try.func48, Try.ntmps48
    go_wp2_with fail
    have HW := Lib.hid (Below.drew (Below.refl w.heap.size w))
    go_region_with (first
      | (go_at_call 47; (with_reducible refine (HA.out _ HW.out).mono ?_); rintro e wx ⟨v, rfl, hO, hbx⟩; obtain ⟨Aa, na, ca, rfl⟩ := hO.slv.form; have HSa := Lib.hid (hO.slv.mono (K' := Fresh w) fun b h => Nat.le_trans HW.out.size h); clear hO HA; (try replace HSa := Lib.hid (HSa.out.below hbx)); (try replace HSb := Lib.hid (HSb.out.below hbx)); (try replace HRa := Lib.hid (HRa.out.below hbx)); (try replace HRb := Lib.hid (HRb.out.below hbx)); have HW := Lib.hid (below_trans HW.out hbx); clear hbx)
      | (go_at_call 47; (with_reducible refine (HB.out _ HW.out).mono ?_); rintro e wx ⟨v, rfl, hO, hbx⟩; obtain ⟨Ab, nb, cb, rfl⟩ := hO.slv.form; have HSb := Lib.hid (hO.slv.mono (K' := Fresh w) fun b h => Nat.le_trans HW.out.size h); clear hO HB; (try replace HSa := Lib.hid (HSa.out.below hbx)); (try replace HSb := Lib.hid (HSb.out.below hbx)); (try replace HRa := Lib.hid (HRa.out.below hbx)); (try replace HRb := Lib.hid (HRb.out.below hbx)); have HW := Lib.hid (below_trans HW.out hbx); clear hbx)
      | (go_at_call 36; (with_reducible refine (inner_many (New K w) d _ _ _ (xs.take hf) _ (by have := HSa.out.mono (K' := New K w) (fun b h => New.fresh h); simpa [List.map_take] using this) (fun k hk => HKD.out _ HW.out k (List.mem_of_mem_take hk)) HL1.out.1 HL1.out.2 HHD.out HTL.out.1).mono ?_); rintro e wx ⟨v, rfl, ⟨pa, rfl, hr⟩, hbx⟩; clear HSa; have HRa := Lib.hid (hr.mono (K' := New K w) fun b h => h.elim id fun h => Or.inr (Nat.le_trans HW.out.size h)); clear hr; (try replace HSa := Lib.hid (HSa.out.below hbx)); (try replace HSb := Lib.hid (HSb.out.below hbx)); (try replace HRa := Lib.hid (HRa.out.below hbx)); (try replace HRb := Lib.hid (HRb.out.below hbx)); have HW := Lib.hid (below_trans HW.out hbx); clear hbx)
      | (go_at_call 36; (with_reducible refine (inner_many (New K w) d _ _ _ (xs.drop hf) _ (by have := HSb.out.mono (K' := New K w) (fun b h => New.fresh h); simpa [List.map_drop] using this) (fun k hk => HKD.out _ HW.out k (List.mem_of_mem_drop hk)) HL2.out.1 HL2.out.2 HHD.out HTL.out.2).mono ?_); rintro e wx ⟨v, rfl, ⟨pb, rfl, hr⟩, hbx⟩; clear HSb; have HRb := Lib.hid (hr.mono (K' := New K w) fun b h => h.elim id fun h => Or.inr (Nat.le_trans HW.out.size h)); clear hr; (try replace HSa := Lib.hid (HSa.out.below hbx)); (try replace HSb := Lib.hid (HSb.out.below hbx)); (try replace HRa := Lib.hid (HRa.out.below hbx)); (try replace HRb := Lib.hid (HRb.out.below hbx)); have HW := Lib.hid (below_trans HW.out hbx); clear hbx)
      | fail)
    all_goals
      go_wp2_with fail
      go_returns
      have hb2 : Below wx.heap.size wx (wx.alloc (.cells #[.pointer pa, .pointer pb] 23)) := (Below.refl _ _).alloc (Nat.le_refl _) _
      have hp := parts_two (K := New K w) (m := xs.length) (blk_new wx (.cells #[.pointer pa, .pointer pb] 23)) (New.fresh HW.out.size) (HRa.out.below hb2) (by rw [List.length_take]; omega) (by rw [List.length_take]; omega) (HRb.out.below hb2) (by rw [List.length_drop]; omega) (by rw [List.length_drop]; omega)
      rw [HTD.out] at hp
      exact ⟨_, rfl, hp, HW.out.alloc HW.out.size _⟩

end Go.Proofs.Ytcjpdjecgeenfaa.Ro
end

section
namespace Go.Proofs.Ytcjpdjecgeenfaa.Ro
open Go Go.RowKit Go.Proofs.Ytcjpdjecgeenfaa.Mem Go.Proofs.YtcjpdjecgeenfaaW.PrintWords

theorem ptrs_append (a b : List Kid) : ptrs (a ++ b) = ptrs a ++ ptrs b := List.map_append
theorem things_append (a b : List Kid) : things (a ++ b) = things a ++ things b := List.flatMap_append

theorem parts_ab {K : Nat → Prop} {d m : Nat} {xs ys : List Int} {w : World} {p q : Option Addr} {c c' : Nat} (h : RRep K w d p c xs) (h8 : 8 ≤ c) (h16 : c ≤ 16) (h' : RRep K w d q c' ys) (h8' : 8 ≤ c') (h16' : c' ≤ 16) :
    PartsP (New K w) d m (xs ++ ys) (.slice (some ⟨w.heap.size, 0, none⟩) 2 2) (w.alloc (.cells #[.pointer p, .pointer q] 23)) := by
  have hb : Below w.heap.size w (w.alloc (.cells #[.pointer p, .pointer q] 23)) := (Below.refl _ _).alloc (Nat.le_refl _) _
  exact parts_two (blk_new w _) (New.fresh (Nat.le_refl _)) ((h.below hb).mono fun b h => New.old h) (by omega) h16 ((h'.below hb).mono fun b h => New.old h) (by omega) h16'

theorem PartsP.mono {K K' : Nat → Prop} {d m : Nat} {xs : List Int} {v : Value} {w : World} (h : PartsP K d m xs v w) (hK : ∀ b, K b → K' b) : PartsP K' d m xs v w := by
  obtain ⟨ps, h1, h2, h3⟩ := h
  exact ⟨ps, h1.mono hK, fun k hk => ⟨(h2 k hk).1.mono hK, (h2 k hk).2⟩, h3⟩
theorem PartsP.below {K : Nat → Prop} {d m : Nat} {xs : List Int} {v : Value} {w w' : World} (h : PartsP K d m xs v w) (hb : Below w.heap.size w w') : PartsP K d m xs v w' := by
  obtain ⟨ps, h1, h2, h3⟩ := h
  exact ⟨ps, h1.below hb, fun k hk => ⟨(h2 k hk).1.below hb, (h2 k hk).2⟩, h3⟩

/-- inners of two lists' kids -/
theorem inners_ab (K : Nat → Prop) (d : Nat) (A : Option Addr) (n c : Nat) (ks ls : List Kid) (w W : World) (hw : Below w.heap.size w W) (hS : SlV (Fresh w) W (.slice A n c) (ptrs ks ++ ptrs ls)) (hk : ∀ k ∈ ks, RRep K w d k.1 k.2.1 k.2.2 ∧ 8 ≤ k.2.1 ∧ k.2.1 ≤ 16) (hl : ∀ k ∈ ls, RRep K w d k.1 k.2.1 k.2.2 ∧ 8 ≤ k.2.1 ∧ k.2.1 ≤ 16)
    (h1 : 2 ≤ ks.length + ls.length) (h2 : ks.length + ls.length ≤ 32) (hd : d ≤ 100) (ht : (things ks ++ things ls).length ≤ 1000000) :
    Calls Try.prog 48 #[.slice A n c] W (Ret (fun v w' => PartsP (New K w) (d + 1) (ks.length + ls.length) (things ks ++ things ls) v w') W) := by
  have hS' : SlV (New K w) W (.slice A n c) (ptrs (ks ++ ls)) := by rw [ptrs_append]; exact hS.mono fun b h => New.fresh h
  have hall : ∀ k ∈ ks ++ ls, RRep (New K w) W d k.1 k.2.1 k.2.2 ∧ 8 ≤ k.2.1 ∧ k.2.1 ≤ 16 := fun k hkk => (List.mem_append.1 hkk).elim (fun h => ⟨((hk k h).1.below hw).mono fun b h => New.old h, (hk k h).2⟩) fun h => ⟨((hl k h).1.below hw).mono fun b h => New.old h, (hl k h).2⟩
  refine (inners_c (New K w) d A n c (ks ++ ls) W hS' hall (by rw [List.length_append]; exact h1) (by rw [List.length_append]; exact h2) hd (by rw [things_append]; exact ht)).mono ?_
  rintro e w' ⟨v, rfl, hP, hb⟩
  rw [List.length_append, things_append] at hP
  exact ⟨v, rfl, hP.mono fun b h => h.elim id fun h => New.fresh (Nat.le_trans hw.size h), hb⟩

set_option maxHeartbeats 4000000 in
theorem glue_leaf (K : Nat → Prop) (p q : Option Addr) (c c' : Nat) (xs ys : List Int) (w : World) (h : RRep K w 0 p c xs) (h' : RRep K w 0 q c' ys) (h1 : 1 ≤ c) (h2 : c ≤ 16) (h1' : 1 ≤ c') (h2' : c' ≤ 16) :
    Calls Try.prog 39 #[.pointer p, .pointer q] w (Ret (fun v w' => PartsP (New K w) 0 (c + c') (xs ++ ys) v w') w) := by
  have hp := h
  have hq := h'
  obtain ⟨g, s, rfl, hK, hg, hs, rfl⟩ := h
  obtain ⟨g', s', rfl, hK', hg', hs', rfl⟩ := h'
  obtain ⟨A, n, c, rfl⟩ := hs.form
  obtain ⟨A', n', c', rfl⟩ := hs'.form
  obtain rfl : n = xs.length := by have := hs.len; simpa using this
  obtain rfl : n' = ys.length := by have := hs'.len; simpa using this
  obtain ⟨⟨k0, k1, k2, k3⟩, -, -, -, -⟩ := box4 hg
  obtain ⟨⟨q0, q1, q2, q3⟩, -, -, -, -⟩ := box4 hg'
  clear hg hg' hK hK'
  have HBO := Lib.hid (fun W (hw : Below w.heap.size w W) => both_int' A xs.length c (ints xs) A' ys.length c' (ints ys) W K K (hs.below hw) (hs'.below hw) (by simp; omega) (by simp; omega))
  clear hs hs'
  have HP := Lib.hid hp; clear hp
  have HQ := Lib.hid hq; clear hq
  by_cases h8 : 8 ≤ xs.length
  · have h8I : (8 : Int) ≤ (xs.length : Int) := by omega
    by_cases h8' : 8 ≤ ys.length
    · have h8I' : (8 : Int) ≤ (ys.length : Int) := by omega
      go_enter Try.func39, Try.ntmps39
      go_wp2_with fail
      go_returns
      exact ⟨_, rfl, parts_ab HP.out h8 h2 HQ.out h8' h2', by go_grown⟩
    · have h8I' : ¬ (8 : Int) ≤ (ys.length : Int) := by omega
      go_enter Try.func39, Try.ntmps39
      go_wp2_with fail
      go_region_held3 (fun w' => w'.cell? ⟨g, 3, none⟩ = some (.slice A xs.length c) ∧ w'.cell? ⟨g', 3, none⟩ = some (.slice A' ys.length c'))
        ((refine ⟨?_, ?_⟩ <;> first | (with_reducible exact cell_below k3 (by assumption)) | (with_reducible exact cell_below q3 (by assumption)) | (go_keep; done)))
        (first
          | (go_at_call 28; (with_reducible refine (HBO.out _ (Below.refl _ _).drew).mono ?_); rintro e wx ⟨v, rfl, hO, hbx⟩; have hw1 : Below w.heap.size w wx := below_trans (Below.refl _ _).drew hbx; obtain ⟨Aa, na, ca, rfl⟩ := hO.slv.form; have HSa := Lib.hid (hO.slv.mono (K' := Fresh w) fun b h => h); clear hO)
          | (go_at_call 49; (with_reducible refine (leaves_c _ _ _ _ (xs ++ ys) _ (by have := HSa.out; rwa [← List.map_append] at this) (by rw [List.length_append]; omega) (by rw [List.length_append]; omega)).mono ?_); rintro e wy ⟨v, rfl, hP, hby⟩; have hw2 : Below w.heap.size w wy := below_trans hw1 hby)
          | fail)
      go_wp2_with fail
      go_returns
      refine ⟨_, rfl, ?_, hw2⟩
      rw [List.length_append] at hP
      exact hP.mono fun b h => h.elim (fun h => New.fresh h) fun h => New.fresh (Nat.le_trans hw1.size h)
  · have h8I : ¬ (8 : Int) ≤ (xs.length : Int) := by omega
    go_enter Try.func39, Try.ntmps39
    go_wp2_with fail
    go_region_held3 (fun w' => w'.cell? ⟨g, 3, none⟩ = some (.slice A xs.length c) ∧ w'.cell? ⟨g', 3, none⟩ = some (.slice A' ys.length c'))
      ((refine ⟨?_, ?_⟩ <;> first | (with_reducible exact cell_below k3 (by assumption)) | (with_reducible exact cell_below q3 (by assumption)) | (go_keep; done)))
      (first
        | (go_at_call 28; (with_reducible refine (HBO.out _ (Below.refl _ _).drew).mono ?_); rintro e wx ⟨v, rfl, hO, hbx⟩; have hw1 : Below w.heap.size w wx := below_trans (Below.refl _ _).drew hbx; obtain ⟨Aa, na, ca, rfl⟩ := hO.slv.form; have HSa := Lib.hid (hO.slv.mono (K' := Fresh w) fun b h => h); clear hO)
        | (go_at_call 49; (with_reducible refine (leaves_c _ _ _ _ (xs ++ ys) _ (by have := HSa.out; rwa [← List.map_append] at this) (by rw [List.length_append]; omega) (by rw [List.length_append]; omega)).mono ?_); rintro e wy ⟨v, rfl, hP, hby⟩; have hw2 : Below w.heap.size w wy := below_trans hw1 hby)
        | fail)
    go_wp2_with fail
    go_returns
    refine ⟨_, rfl, ?_, hw2⟩
    rw [List.length_append] at hP
    exact hP.mono fun b h => h.elim (fun h => New.fresh h) fun h => New.fresh (Nat.le_trans hw1.size h)

set_option maxHeartbeats 4000000 in
theorem glue_inner (K : Nat → Prop) (d : Nat) (p q : Option Addr) (c c' : Nat) (xs ys : List Int) (w : World) (h : RRep K w (d + 1) p c xs) (h' : RRep K w (d + 1) q c' ys) (h1 : 2 ≤ c) (h2 : c ≤ 16) (h1' : 2 ≤ c') (h2' : c' ≤ 16) (hd : d ≤ 90) (ht : (xs ++ ys).length ≤ 1000000) :
    Calls Try.prog 39 #[.pointer p, .pointer q] w (Ret (fun v w' => PartsP (New K w) (d + 1) (c + c') (xs ++ ys) v w') w) := by
  have hp := h
  have hq := h'
  obtain ⟨g, s, ks, rfl, hK, hg, hs, hks, rfl, rfl⟩ := h
  obtain ⟨g', s', ls, rfl, hK', hg', hs', hls, rfl, rfl⟩ := h'
  have hdep : ((d : Int) + 2 == 1) = false := beq_false_of_ne (by omega)
  obtain ⟨A, n, c, rfl⟩ := hs.form
  obtain ⟨A', n', c', rfl⟩ := hs'.form
  obtain rfl : n = ks.length := by have := hs.len; simpa using this
  obtain rfl : n' = ls.length := by have := hs'.len; simpa using this
  obtain ⟨⟨k0, k1, k2, k3⟩, -, -, -, -⟩ := box4 hg
  obtain ⟨⟨q0, q1, q2, q3⟩, -, -, -, -⟩ := box4 hg'
  clear hg hg' hK hK'
  have HBO := Lib.hid (fun W (hw : Below w.heap.size w W) => both_ptr' A ks.length c (ptrs ks) A' ls.length c' (ptrs ls) W K K (hs.below hw) (hs'.below hw) (by simp; omega) (by simp; omega))
  clear hs hs'
  have HP := Lib.hid hp; clear hp
  have HQ := Lib.hid hq; clear hq
  have HIN := Lib.hid (fun A n c W (hw : Below w.heap.size w W) (hS : SlV (Fresh w) W (.slice A n c) (ptrs ks ++ ptrs ls)) => inners_ab K d A n c ks ls w W hw hS hks hls (by omega) (by omega) (by omega) ht)
  clear hks hls ht
  by_cases h8 : 8 ≤ ks.length
  · have h8I : (8 : Int) ≤ (ks.length : Int) := by omega
    by_cases h8' : 8 ≤ ls.length
    · have h8I' : (8 : Int) ≤ (ls.length : Int) := by omega
      go_enter Try.func39, Try.ntmps39
      go_wp2_with fail
      go_returns
      exact ⟨_, rfl, parts_ab HP.out h8 h2 HQ.out h8' h2', by go_grown⟩
    · have h8I' : ¬ (8 : Int) ≤ (ls.length : Int) := by omega
      go_enter Try.func39, Try.ntmps39
      go_wp2_with fail
      go_region_held3 (fun w' => w'.cell? ⟨g, 2, none⟩ = some (.slice A ks.length c) ∧ w'.cell? ⟨g', 2, none⟩ = some (.slice A' ls.length c'))
        ((refine ⟨?_, ?_⟩ <;> first | (with_reducible exact cell_below k2 (by assumption)) | (with_reducible exact cell_below q2 (by assumption)) | (go_keep; done)))
        (first
          | (go_at_call 47; (with_reducible refine (HBO.out _ (Below.refl _ _).drew).mono ?_); rintro e wx ⟨v, rfl, hO, hbx⟩; have hw1 : Below w.heap.size w wx := below_trans (Below.refl _ _).drew hbx; obtain ⟨Aa, na, ca, rfl⟩ := hO.slv.form; have HSa := Lib.hid (hO.slv.mono (K' := Fresh w) fun b h => h); clear hO)
          | (go_at_call 48; (with_reducible refine (HIN.out _ _ _ _ hw1 HSa.out).mono ?_); rintro e wy ⟨v, rfl, hP, hby⟩; have hw2 : Below w.heap.size w wy := below_trans hw1 hby)
          | fail)
      go_wp2_with fail
      go_returns
      refine ⟨_, rfl, ?_, hw2⟩
      exact hP
  · have h8I : ¬ (8 : Int) ≤ (ks.length : Int) := by omega
    go_enter Try.func39, Try.ntmps39
    go_wp2_with fail
    go_region_held3 (fun w' => w'.cell? ⟨g, 2, none⟩ = some (.slice A ks.length c) ∧ w'.cell? ⟨g', 2, none⟩ = some (.slice A' ls.length c'))
      ((refine ⟨?_, ?_⟩ <;> first | (with_reducible exact cell_below k2 (by assumption)) | (with_reducible exact cell_below q2 (by assumption)) | (go_keep; done)))
      (first
        | (go_at_call 47; (with_reducible refine (HBO.out _ (Below.refl _ _).drew).mono ?_); rintro e wx ⟨v, rfl, hO, hbx⟩; have hw1 : Below w.heap.size w wx := below_trans (Below.refl _ _).drew hbx; obtain ⟨Aa, na, ca, rfl⟩ := hO.slv.form; have HSa := Lib.hid (hO.slv.mono (K' := Fresh w) fun b h => h); clear hO)
        | (go_at_call 48; (with_reducible refine (HIN.out _ _ _ _ hw1 HSa.out).mono ?_); rintro e wy ⟨v, rfl, hP, hby⟩; have hw2 : Below w.heap.size w wy := below_trans hw1 hby)
        | fail)
    go_wp2_with fail
    go_returns
    refine ⟨_, rfl, ?_, hw2⟩
    exact hP

end Go.Proofs.Ytcjpdjecgeenfaa.Ro
end

section
namespace Go.Proofs.Ytcjpdjecgeenfaa.Ro
open Go Go.RowKit Go.Proofs.Ytcjpdjecgeenfaa.Mem Go.Proofs.YtcjpdjecgeenfaaW.PrintWords

/-- how many things or kids a tree's first node has -/
def Top (d c : Nat) : Prop := 1 ≤ c ∧ c ≤ 16 ∧ (d = 0 ∨ 2 ≤ c)

theorem glue_c (K : Nat → Prop) (d : Nat) (p q : Option Addr) (c c' : Nat) (xs ys : List Int) (w : World) (h : RRep K w d p c xs) (h' : RRep K w d q c' ys) (h1 : Top d c) (h2 : Top d c') (hd : d ≤ 90) (ht : (xs ++ ys).length ≤ 1000000) :
    Calls Try.prog 39 #[.pointer p, .pointer q] w (Ret (fun v w' => PartsP (New K w) d (c + c') (xs ++ ys) v w') w) := by
  cases d with
  | zero => exact glue_leaf K p q c c' xs ys w h h' h1.1 h1.2.1 h2.1 h2.2.1
  | succ d =>
    obtain ⟨_, a2, a3⟩ := h1
    obtain ⟨_, b2, b3⟩ := h2
    exact glue_inner K d p q c c' xs ys w h h' (by omega) a2 (by omega) b2 (by omega) ht

theorem PartsP.kids {K : Nat → Prop} {d m : Nat} {xs : List Int} {v : Value} {w : World} (h : PartsP K d m xs v w) (h8 : 8 ≤ m) : ∃ ps : List Kid, SlV K w v (ptrs ps) ∧ (∀ k ∈ ps, RRep K w d k.1 k.2.1 k.2.2 ∧ 8 ≤ k.2.1 ∧ k.2.1 ≤ 16) ∧ things ps = xs ∧ 1 ≤ ps.length ∧ ps.length ≤ 2 := by
  obtain ⟨ps, h1, h2, h3⟩ := h
  exact ⟨ps, h1, fun k hk => ⟨(h2 k hk).1, by have := (h2 k hk).2.1; omega, (h2 k hk).2.2⟩, h3.1, h3.2.1, h3.2.2.1⟩

theorem PartsP.less {K : Nat → Prop} {d m m' : Nat} {xs : List Int} {v : Value} {w : World} (h : PartsP K d m xs v w) (hm : m' ≤ m) : PartsP K d m' xs v w := by
  obtain ⟨ps, h1, h2, h3⟩ := h
  exact ⟨ps, h1, fun k hk => ⟨(h2 k hk).1, by have := (h2 k hk).2.1; omega, (h2 k hk).2.2⟩, h3⟩

set_option maxHeartbeats 4000000 in
theorem behind_step (K : Nat → Prop) (d e : Nat) (hd : d ≤ 80) (he : e ≤ d)
    (ih : e < d → ∀ (p q : Option Addr) (c c' : Nat) (xs ys : List Int) (w : World), RRep K w d p c xs → RRep K w e q c' ys → 2 ≤ c → c ≤ 16 → Top e c' → (xs ++ ys).length ≤ 1000000 →
      Calls Try.prog 37 #[.pointer p, .pointer q] w (Ret (fun v w' => PartsP (New K w) d c (xs ++ ys) v w') w))
    (p q : Option Addr) (c c' : Nat) (xs ys : List Int) (w : World) (h : RRep K w (d + 1) p c xs) (h' : RRep K w e q c' ys) (hc : 2 ≤ c) (hc16 : c ≤ 16) (ht : Top e c') (hl : (xs ++ ys).length ≤ 1000000) :
    Calls Try.prog 37 #[.pointer p, .pointer q] w (Ret (fun v w' => PartsP (New K w) (d + 1) c (xs ++ ys) v w') w) := by
  have hq := h'
  obtain ⟨g, s, ks, rfl, hK, hg, hs, hks, rfl, rfl⟩ := h
  obtain ⟨gq, a0, b0, rfl, hKq, hgq⟩ := h'.head
  obtain ⟨init, last, rfl⟩ : ∃ init last, ks = init ++ [last] := by
    rcases List.eq_nil_or_concat ks with rfl | ⟨ys, x, h⟩
    · simp at hc
    · exact ⟨ys, x, by rw [h, List.concat_eq_append]⟩
  rw [List.length_append, List.length_singleton] at hc hc16
  obtain ⟨A, n, cap, rfl⟩ := hs.form
  obtain rfl : n = init.length + 1 := by have := hs.len; simpa using this
  obtain ⟨ad, rfl, hcell⟩ := hs.addr (by simp)
  have hcap : init.length + 1 ≤ cap := by obtain ⟨_, _, e, h3, _⟩ := hs; injection e with _ _ e3; subst e3; simpa using h3
  obtain ⟨hlast, hl8, hl16⟩ := hks last (by simp)
  obtain ⟨gl, a1, b1, el, hKl, hgl⟩ := hlast.head
  have cl : w.cell? (ad.add init.length) = some (.pointer (some ⟨gl, 0, none⟩)) := by have := hcell init.length (.pointer last.1) (by simp); rw [el] at this; exact this
  have dl : w.cell? ⟨gl, 1, none⟩ = some (.int .i64 ((d : Int) + 1)) := blk_cell hgl 1
  have dq : w.cell? ⟨gq, 1, none⟩ = some (.int .i64 ((e : Int) + 1)) := blk_cell hgq 1
  have kk : w.cell? ⟨g, 2, none⟩ = some (.slice (some ad) (init.length + 1) cap) := blk_cell hg 2
  have hth : things (init ++ [last]) = things init ++ last.2.2 := by rw [things_append]; simp [things]
  have hlen2 : (last.2.2 ++ ys).length ≤ 1000000 := by rw [hth] at hl; simp at hl ⊢; omega
  have hst := hs.take init.length (by simp)
  have hst' : SlV K w (.slice (some ad) init.length cap) (ptrs init) := by rw [ptrs_append, List.take_left' (by simp)] at hst; exact hst
  have hlenI : (init.length : Int) ≤ 15 := by omega
  have hi1 : (1 : Int) ≤ (init.length : Int) := by omega
  have hi2 : (init.length : Int) < (init.length : Int) + 1 := by omega
  have hicap : (init.length : Int) ≤ (cap : Int) := by omega
  have HBO := Lib.hid (fun W (hw : Below w.heap.size w W) A' n' c' (ps : List Kid) (hp : SlV (New K w) W (.slice A' n' c') (ptrs ps)) (h2 : ps.length ≤ 2) => both_ptr' (some ad) init.length cap (ptrs init) A' n' c' (ptrs ps) W K (New K w) (hst'.below hw) hp (by simp; omega) (by simp; omega))
  have HIN := Lib.hid (fun W (hw : Below w.heap.size w W) A' n' c' (ps : List Kid) (hp : SlV (New K w) W (.slice A' n' c') (ptrs init ++ ptrs ps)) (hall : ∀ k ∈ ps, RRep (New K w) W d k.1 k.2.1 k.2.2 ∧ 8 ≤ k.2.1 ∧ k.2.1 ≤ 16) (h1 : 1 ≤ ps.length) (h2 : ps.length ≤ 2) (h3 : things ps = last.2.2 ++ ys) =>
    (show Calls Try.prog 48 #[.slice A' n' c'] W (Ret (fun v w' => PartsP (New K w) (d + 1) (init ++ [last]).length (things (init ++ [last]) ++ ys) v w') W) from by
      have hth2 : things (init ++ ps) = things (init ++ [last]) ++ ys := by rw [things_append, h3, hth, List.append_assoc]
      refine (inners_c (New K w) d A' n' c' (init ++ ps) W (by rw [ptrs_append]; exact hp) (fun k hk => (List.mem_append.1 hk).elim (fun h => ⟨((hks k (by simp [h])).1.below hw).mono fun b h => New.old h, (hks k (by simp [h])).2⟩) (hall k)) (by rw [List.length_append]; omega) (by rw [List.length_append]; omega) (by omega) (by rw [hth2]; exact hl)).mono ?_
      rintro e w' ⟨v, rfl, hP, hb⟩
      rw [hth2] at hP
      exact ⟨v, rfl, (hP.mono fun b h => h.elim id fun h => New.fresh (Nat.le_trans hw.size h)).less (by rw [List.length_append, List.length_append]; simp; omega), hb⟩))
  rw [el] at hlast
  have HLQ := Lib.hid (fun W (hw : Below w.heap.size w W) => And.intro (hlast.below hw) (hq.below hw))
  clear hs hks hst hst' hcell hg hgq hgl hK hKq hKl h' hl
  by_cases hed : e = d
  · have hde : ((d : Int) + 1 == (e : Int) + 1) = true := by rw [hed]; simp
    subst hed
    have HPC := Lib.hid (fun W (hw : Below w.heap.size w W) => (show Calls Try.prog 39 #[.pointer (some ⟨gl, 0, none⟩), .pointer (some ⟨gq, 0, none⟩)] W (Ret (fun v w' => PartsP (New K w) e (last.2.1 + c') (last.2.2 ++ ys) v w') W) from by
        refine (glue_c K e _ _ _ _ _ _ W (HLQ.out W hw).1 (HLQ.out W hw).2 ⟨by omega, hl16, by omega⟩ ht (by omega) hlen2).mono ?_
        rintro e' w' ⟨v, rfl, hP, hb⟩
        exact ⟨v, rfl, hP.mono fun b h => h.elim New.old fun h => New.fresh (Nat.le_trans hw.size h), hb⟩))
    clear hlast hq hlen2 ht
    go_enter Try.func37, Try.ntmps37
    go_wp2_with fail
    go_quiet (fail)
    go_wp2_with (first
      | (go_at_call 39; ((with_reducible refine (HPC.out _ (Drawn0.mk ⟨_, rfl⟩).below).mono ?_); rintro e w1 ⟨v, rfl, hP, hb1⟩; obtain ⟨ps, hps1, hps2, hps3, hps4, hps5⟩ := hP.kids (by omega); obtain ⟨Ap, np, cp, rfl⟩ := hps1.form; have hB1 : Below w.heap.size w w1 := below_trans (Drawn0.mk ⟨_, rfl⟩).below hb1; have k1 := cell_below kk hB1; have HP1 := Lib.hid hps1; have HP2 := Lib.hid hps2; have HP3 := Lib.hid hps3; clear hps1 hps2 hps3 hP HPC))
      | (go_at_call 47; ((with_reducible refine (HBO.out _ hB1 _ _ _ ps HP1.out hps5).mono ?_); rintro e w2 ⟨v, rfl, hO, hb2⟩; obtain ⟨Ao, no, co, rfl⟩ := hO.slv.form; have hB2 : Below w.heap.size w w2 := below_trans hB1 hb2; have HSO := Lib.hid (hO.slv.mono (K' := New K w) fun b h => New.fresh (Nat.le_trans hB1.size h)); clear hO))
      | (go_at_call 48; ((with_reducible refine (HIN.out _ hB2 _ _ _ ps HSO.out (fun k hk => ⟨(HP2.out k hk).1.below hb2, (HP2.out k hk).2⟩) hps4 hps5 HP3.out).mono ?_); rintro e w3 ⟨v, rfl, hR, hb3⟩)))
    go_returns
    exact ⟨_, rfl, hR, below_trans hB2 hb3⟩
  · have hde : ((d : Int) + 1 == (e : Int) + 1) = false := beq_false_of_ne (by omega)
    have HPC := Lib.hid (fun W (hw : Below w.heap.size w W) => (show Calls Try.prog 37 #[.pointer (some ⟨gl, 0, none⟩), .pointer (some ⟨gq, 0, none⟩)] W (Ret (fun v w' => PartsP (New K w) d (last.2.1) (last.2.2 ++ ys) v w') W) from by
        refine (ih (by omega) _ _ _ _ _ _ W (HLQ.out W hw).1 (HLQ.out W hw).2 (by omega) hl16 ht hlen2).mono ?_
        rintro e' w' ⟨v, rfl, hP, hb⟩
        exact ⟨v, rfl, hP.mono fun b h => h.elim New.old fun h => New.fresh (Nat.le_trans hw.size h), hb⟩))
    clear hlast hq hlen2 ht
    go_enter Try.func37, Try.ntmps37
    go_wp2_with fail
    go_quiet (fail)
    go_wp2_with (first
      | (go_at_call 37; ((with_reducible refine (HPC.out _ (Drawn0.mk ⟨_, rfl⟩).below).mono ?_); rintro e w1 ⟨v, rfl, hP, hb1⟩; obtain ⟨ps, hps1, hps2, hps3, hps4, hps5⟩ := hP.kids (by omega); obtain ⟨Ap, np, cp, rfl⟩ := hps1.form; have hB1 : Below w.heap.size w w1 := below_trans (Drawn0.mk ⟨_, rfl⟩).below hb1; have k1 := cell_below kk hB1; have HP1 := Lib.hid hps1; have HP2 := Lib.hid hps2; have HP3 := Lib.hid hps3; clear hps1 hps2 hps3 hP HPC))
      | (go_at_call 47; ((with_reducible refine (HBO.out _ hB1 _ _ _ ps HP1.out hps5).mono ?_); rintro e w2 ⟨v, rfl, hO, hb2⟩; obtain ⟨Ao, no, co, rfl⟩ := hO.slv.form; have hB2 : Below w.heap.size w w2 := below_trans hB1 hb2; have HSO := Lib.hid (hO.slv.mono (K' := New K w) fun b h => New.fresh (Nat.le_trans hB1.size h)); clear hO))
      | (go_at_call 48; ((with_reducible refine (HIN.out _ hB2 _ _ _ ps HSO.out (fun k hk => ⟨(HP2.out k hk).1.below hb2, (HP2.out k hk).2⟩) hps4 hps5 HP3.out).mono ?_); rintro e w3 ⟨v, rfl, hR, hb3⟩)))
    go_returns
    exact ⟨_, rfl, hR, below_trans hB2 hb3⟩

/-- A NODE BEHIND A DEEPER ONE. -/
theorem behind_c (K : Nat → Prop) : ∀ (d e : Nat), d ≤ 80 → e < d → ∀ (p q : Option Addr) (c c' : Nat) (xs ys : List Int) (w : World), RRep K w d p c xs → RRep K w e q c' ys → 2 ≤ c → c ≤ 16 → Top e c' → (xs ++ ys).length ≤ 1000000 →
      Calls Try.prog 37 #[.pointer p, .pointer q] w (Ret (fun v w' => PartsP (New K w) d c (xs ++ ys) v w') w)
  | 0, _, _, he => absurd he (by omega)
  | d + 1, e, hd, he => fun p q c c' xs ys w h h' hc hc16 ht hl => behind_step K d e (by omega) (by omega) (fun hed => behind_c K d e (by omega) hed) p q c c' xs ys w h h' hc hc16 ht hl
end Go.Proofs.Ytcjpdjecgeenfaa.Ro
end

section
namespace Go.Proofs.Ytcjpdjecgeenfaa.Ro
open Go Go.RowKit Go.Proofs.Ytcjpdjecgeenfaa.Mem Go.Proofs.YtcjpdjecgeenfaaW.PrintWords

set_option maxHeartbeats 4000000 in
theorem ahead_step (K : Nat → Prop) (d e : Nat) (hd : d ≤ 80) (he : e ≤ d)
    (ih : e < d → ∀ (q p : Option Addr) (c' c : Nat) (ys xs : List Int) (w : World), RRep K w e q c' ys → RRep K w d p c xs → 2 ≤ c → c ≤ 16 → Top e c' → (ys ++ xs).length ≤ 1000000 →
      Calls Try.prog 38 #[.pointer q, .pointer p] w (Ret (fun v w' => PartsP (New K w) d c (ys ++ xs) v w') w))
    (q p : Option Addr) (c' c : Nat) (ys xs : List Int) (w : World) (h' : RRep K w e q c' ys) (h : RRep K w (d + 1) p c xs) (hc : 2 ≤ c) (hc16 : c ≤ 16) (ht : Top e c') (hl : (ys ++ xs).length ≤ 1000000) :
    Calls Try.prog 38 #[.pointer q, .pointer p] w (Ret (fun v w' => PartsP (New K w) (d + 1) c (ys ++ xs) v w') w) := by
  have hq := h'
  obtain ⟨g, s, ks, rfl, hK, hg, hs, hks, rfl, rfl⟩ := h
  obtain ⟨gq, a0, b0, rfl, hKq, hgq⟩ := h'.head
  obtain ⟨last, init, rfl⟩ : ∃ last init, ks = last :: init := by
    cases ks with
    | nil => simp at hc
    | cons x ys => exact ⟨x, ys, rfl⟩
  rw [List.length_cons] at hc hc16
  obtain ⟨A, n, cap, rfl⟩ := hs.form
  obtain rfl : n = init.length + 1 := by have := hs.len; simpa using this
  obtain ⟨ad, rfl, hcell⟩ := hs.addr (by simp)
  have hcap : init.length + 1 ≤ cap := by obtain ⟨_, _, e, h3, _⟩ := hs; injection e with _ _ e3; subst e3; simpa using h3
  obtain ⟨hlast, hl8, hl16⟩ := hks last (by simp)
  obtain ⟨gl, a1, b1, el, hKl, hgl⟩ := hlast.head
  have cl : w.cell? ad = some (.pointer (some ⟨gl, 0, none⟩)) := by have := hcell 0 (.pointer last.1) (by simp); rw [el] at this; simpa [Addr.add] using this
  have dl : w.cell? ⟨gl, 1, none⟩ = some (.int .i64 ((d : Int) + 1)) := blk_cell hgl 1
  have dq : w.cell? ⟨gq, 1, none⟩ = some (.int .i64 ((e : Int) + 1)) := blk_cell hgq 1
  have kk : w.cell? ⟨g, 2, none⟩ = some (.slice (some ad) (init.length + 1) cap) := blk_cell hg 2
  have hth : things (last :: init) = last.2.2 ++ things init := rfl
  have hlen2 : (ys ++ last.2.2).length ≤ 1000000 := by rw [hth] at hl; simp at hl ⊢; omega
  have hst := hs.drop 1 (by simp)
  have hst' : SlV K w (.slice (some ⟨ad.block, ad.off + 1, none⟩) init.length (cap - 1)) (ptrs init) := by
    rw [show ad.add 1 = ⟨ad.block, ad.off + 1, none⟩ from rfl] at hst
    simpa using hst
  have hlenI : (init.length : Int) ≤ 15 := by omega
  have hi1 : (1 : Int) ≤ (init.length : Int) := by omega
  have hi2 : (init.length : Int) < (init.length : Int) + 1 := by omega
  have hicap : (init.length : Int) + 1 ≤ (cap : Int) := by omega
  have hcap1 : ¬ cap = 1 := by omega
  have HBO := Lib.hid (fun W (hw : Below w.heap.size w W) A' n' c' (ps : List Kid) (hp : SlV (New K w) W (.slice A' n' c') (ptrs ps)) (h2 : ps.length ≤ 2) => both_ptr' A' n' c' (ptrs ps) (some ⟨ad.block, ad.off + 1, none⟩) init.length (cap - 1) (ptrs init) W (New K w) K hp (hst'.below hw) (by simp; omega) (by simp; omega))
  have HIN := Lib.hid (fun W (hw : Below w.heap.size w W) A' n' c' (ps : List Kid) (hp : SlV (New K w) W (.slice A' n' c') (ptrs ps ++ ptrs init)) (hall : ∀ k ∈ ps, RRep (New K w) W d k.1 k.2.1 k.2.2 ∧ 8 ≤ k.2.1 ∧ k.2.1 ≤ 16) (h1 : 1 ≤ ps.length) (h2 : ps.length ≤ 2) (h3 : things ps = ys ++ last.2.2) =>
    (show Calls Try.prog 48 #[.slice A' n' c'] W (Ret (fun v w' => PartsP (New K w) (d + 1) (last :: init).length (ys ++ things (last :: init)) v w') W) from by
      have hth2 : things (ps ++ init) = ys ++ things (last :: init) := by rw [things_append, h3, hth, List.append_assoc]
      refine (inners_c (New K w) d A' n' c' (ps ++ init) W (by rw [ptrs_append]; exact hp) (fun k hk => (List.mem_append.1 hk).elim (hall k) fun h => ⟨((hks k (by simp [h])).1.below hw).mono fun b h => New.old h, (hks k (by simp [h])).2⟩) (by rw [List.length_append]; omega) (by rw [List.length_append]; omega) (by omega) (by rw [hth2]; exact hl)).mono ?_
      rintro e w' ⟨v, rfl, hP, hb⟩
      rw [hth2] at hP
      exact ⟨v, rfl, (hP.mono fun b h => h.elim id fun h => New.fresh (Nat.le_trans hw.size h)).less (by rw [List.length_append, List.length_cons]; omega), hb⟩))
  rw [el] at hlast
  have HLQ := Lib.hid (fun W (hw : Below w.heap.size w W) => And.intro (hq.below hw) (hlast.below hw))
  clear hs hks hst hst' hcell hg hgq hgl hK hKq hKl h' hl
  by_cases hed : e = d
  · have hde : ((d : Int) + 1 == (e : Int) + 1) = true := by rw [hed]; simp
    subst hed
    have HPC := Lib.hid (fun W (hw : Below w.heap.size w W) => (show Calls Try.prog 39 #[.pointer (some ⟨gq, 0, none⟩), .pointer (some ⟨gl, 0, none⟩)] W (Ret (fun v w' => PartsP (New K w) e (c' + last.2.1) (ys ++ last.2.2) v w') W) from by
        refine (glue_c K e _ _ _ _ _ _ W (HLQ.out W hw).1 (HLQ.out W hw).2 ht ⟨by omega, hl16, by omega⟩ (by omega) hlen2).mono ?_
        rintro e' w' ⟨v, rfl, hP, hb⟩
        exact ⟨v, rfl, hP.mono fun b h => h.elim New.old fun h => New.fresh (Nat.le_trans hw.size h), hb⟩))
    clear hlast hq hlen2 ht
    go_enter Try.func38, Try.ntmps38
    go_wp2_with fail
    go_quiet (fail)
    go_wp2_with (first
      | (go_at_call 39; ((with_reducible refine (HPC.out _ (Drawn0.mk ⟨_, rfl⟩).below).mono ?_); rintro e w1 ⟨v, rfl, hP, hb1⟩; obtain ⟨ps, hps1, hps2, hps3, hps4, hps5⟩ := hP.kids (by omega); obtain ⟨Ap, np, cp, rfl⟩ := hps1.form; have hB1 : Below w.heap.size w w1 := below_trans (Drawn0.mk ⟨_, rfl⟩).below hb1; have k1 := cell_below kk hB1; have HP1 := Lib.hid hps1; have HP2 := Lib.hid hps2; have HP3 := Lib.hid hps3; clear hps1 hps2 hps3 hP HPC))
      | (go_at_call 47; ((with_reducible refine (HBO.out _ hB1 _ _ _ ps HP1.out hps5).mono ?_); rintro e w2 ⟨v, rfl, hO, hb2⟩; obtain ⟨Ao, no, co, rfl⟩ := hO.slv.form; have hB2 : Below w.heap.size w w2 := below_trans hB1 hb2; have HSO := Lib.hid (hO.slv.mono (K' := New K w) fun b h => New.fresh (Nat.le_trans hB1.size h)); clear hO))
      | (go_at_call 48; ((with_reducible refine (HIN.out _ hB2 _ _ _ ps HSO.out (fun k hk => ⟨(HP2.out k hk).1.below hb2, (HP2.out k hk).2⟩) hps4 hps5 HP3.out).mono ?_); rintro e w3 ⟨v, rfl, hR, hb3⟩)))
    go_returns
    exact ⟨_, rfl, hR, below_trans hB2 hb3⟩
  · have hde : ((d : Int) + 1 == (e : Int) + 1) = false := beq_false_of_ne (by omega)
    have HPC := Lib.hid (fun W (hw : Below w.heap.size w W) => (show Calls Try.prog 38 #[.pointer (some ⟨gq, 0, none⟩), .pointer (some ⟨gl, 0, none⟩)] W (Ret (fun v w' => PartsP (New K w) d (last.2.1) (ys ++ last.2.2) v w') W) from by
        refine (ih (by omega) _ _ _ _ _ _ W (HLQ.out W hw).1 (HLQ.out W hw).2 (by omega) hl16 ht hlen2).mono ?_
        rintro e' w' ⟨v, rfl, hP, hb⟩
        exact ⟨v, rfl, hP.mono fun b h => h.elim New.old fun h => New.fresh (Nat.le_trans hw.size h), hb⟩))
    clear hlast hq hlen2 ht
    go_enter Try.func38, Try.ntmps38
    go_wp2_with fail
    go_quiet (fail)
    go_wp2_with (first
      | (go_at_call 38; ((with_reducible refine (HPC.out _ (Drawn0.mk ⟨_, rfl⟩).below).mono ?_); rintro e w1 ⟨v, rfl, hP, hb1⟩; obtain ⟨ps, hps1, hps2, hps3, hps4, hps5⟩ := hP.kids (by omega); obtain ⟨Ap, np, cp, rfl⟩ := hps1.form; have hB1 : Below w.heap.size w w1 := below_trans (Drawn0.mk ⟨_, rfl⟩).below hb1; have k1 := cell_below kk hB1; have HP1 := Lib.hid hps1; have HP2 := Lib.hid hps2; have HP3 := Lib.hid hps3; clear hps1 hps2 hps3 hP HPC))
      | (go_at_call 47; ((with_reducible refine (HBO.out _ hB1 _ _ _ ps HP1.out hps5).mono ?_); rintro e w2 ⟨v, rfl, hO, hb2⟩; obtain ⟨Ao, no, co, rfl⟩ := hO.slv.form; have hB2 : Below w.heap.size w w2 := below_trans hB1 hb2; have HSO := Lib.hid (hO.slv.mono (K' := New K w) fun b h => New.fresh (Nat.le_trans hB1.size h)); clear hO))
      | (go_at_call 48; ((with_reducible refine (HIN.out _ hB2 _ _ _ ps HSO.out (fun k hk => ⟨(HP2.out k hk).1.below hb2, (HP2.out k hk).2⟩) hps4 hps5 HP3.out).mono ?_); rintro e w3 ⟨v, rfl, hR, hb3⟩)))
    go_returns
    exact ⟨_, rfl, hR, below_trans hB2 hb3⟩

/-- A NODE AHEAD OF A DEEPER ONE. -/
theorem ahead_c (K : Nat → Prop) : ∀ (d e : Nat), d ≤ 80 → e < d → ∀ (q p : Option Addr) (c' c : Nat) (ys xs : List Int) (w : World), RRep K w e q c' ys → RRep K w d p c xs → 2 ≤ c → c ≤ 16 → Top e c' → (ys ++ xs).length ≤ 1000000 →
      Calls Try.prog 38 #[.pointer q, .pointer p] w (Ret (fun v w' => PartsP (New K w) d c (ys ++ xs) v w') w)
  | 0, _, _, he => absurd he (by omega)
  | d + 1, e, hd, he => fun q p c' c ys xs w h' h hc hc16 ht hl => ahead_step K d e (by omega) (by omega) (fun hed => ahead_c K d e (by omega) hed) q p c' c ys xs w h' h hc hc16 ht hl
end Go.Proofs.Ytcjpdjecgeenfaa.Ro
end

section
namespace Go.Proofs.Ytcjpdjecgeenfaa.Ro
open Go Go.RowKit Go.Proofs.Ytcjpdjecgeenfaa.Mem Go.Proofs.YtcjpdjecgeenfaaW.PrintWords

/-- a whole tree -/
def Tree (K : Nat → Prop) (w : World) (p : Option Addr) (xs : List Int) : Prop :=
  (p = none ∧ xs = []) ∨ ∃ d c, RRep K w d p c xs ∧ Top d c

section
variable {K K' : Nat → Prop} {w w' : World} {d c : Nat} {p : Option Addr} {xs : List Int}
theorem Tree.below (h : Tree K w p xs) (hb : Below w.heap.size w w') : Tree K w' p xs := h.elim Or.inl fun ⟨d, c, h, ht⟩ => Or.inr ⟨d, c, h.below hb, ht⟩
theorem Tree.mono (h : Tree K w p xs) (hK : ∀ b, K b → K' b) : Tree K' w p xs := h.elim Or.inl fun ⟨d, c, h, ht⟩ => Or.inr ⟨d, c, h.mono hK, ht⟩
theorem Tree.bound (h : Tree K w p xs) : Tree (fun b => K b ∧ b < w.heap.size) w p xs := h.elim Or.inl fun ⟨d, c, h, ht⟩ => Or.inr ⟨d, c, h.bound, ht⟩

theorem RRep.deep (h : RRep K w d p c xs) (ht : Top d c) (hl : xs.length ≤ 1000000) : d ≤ 6 := by
  obtain ⟨_, _, h0 | h2⟩ := ht
  · omega
  · refine Nat.le_of_not_lt fun hd => ?_
    have h3 := h.len.1
    have h4 : 8 ^ 7 ≤ 8 ^ d := Nat.pow_le_pow_right (by omega) (by omega)
    have h5 : 8 ^ d * 2 ≤ 8 ^ d * c := Nat.mul_le_mul_left _ h2
    have h6 : (8 : Nat) ^ 7 = 2097152 := rfl
    omega

theorem PartsP.form {m : Nat} {v : Value} (h : PartsP K d m xs v w) : ∃ A n c, v = .slice A n c := by
  obtain ⟨ps, h1, _⟩ := h
  exact h1.form

theorem inner_kids (K : Nat → Prop) (d : Nat) (A : Option Addr) (n c : Nat) (ks : List Kid) (w : World) (h : SlV K w (.slice A n c) (ptrs ks)) (hk : ∀ k ∈ ks, RRep K w d k.1 k.2.1 k.2.2 ∧ 8 ≤ k.2.1 ∧ k.2.1 ≤ 16) (hl : ks.length ≤ 16) (hd : d ≤ 100) (ht : (things ks).length ≤ 1000000) :
    Calls Try.prog 36 #[.slice A n c] w (Ret (fun v w' => ∃ p, v = .pointer p ∧ Tree (New K w) w' p (things ks)) w) := by
  match ks, h, hk, hl, ht with
  | [], h, hk, hl, ht =>
    obtain rfl : n = 0 := h.len
    refine (inner_nil A c w).mono ?_
    rintro e w' ⟨v, rfl, hv, hb⟩
    exact ⟨v, rfl, ⟨none, hv, Or.inl ⟨rfl, rfl⟩⟩, hb⟩
  | [k], h, hk, hl, ht =>
    obtain ⟨hr, h8, h16⟩ := hk k (by simp)
    refine (inner_one K A n c k.1 w h).mono ?_
    rintro e w' ⟨v, rfl, hv, hb⟩
    exact ⟨v, rfl, ⟨k.1, hv, Or.inr ⟨d, k.2.1, by rw [show things [k] = k.2.2 by simp [things]]; exact (hr.below hb).mono fun b h => New.old h, by omega, h16, by omega⟩⟩, hb⟩
  | k :: k' :: ks, h, hk, hl, ht =>
    refine (inner_many K d A n c _ w h hk (by simp) (by omega) hd ht).mono ?_
    rintro e w' ⟨v, rfl, ⟨p, rfl, hr⟩, hb⟩
    exact ⟨_, rfl, ⟨p, rfl, Or.inr ⟨d + 1, _, hr, by simp, hl, Or.inr (by simp)⟩⟩, hb⟩

theorem inner_parts (K : Nat → Prop) (d m : Nat) (A : Option Addr) (n c : Nat) (xs : List Int) (w : World) (h : PartsP K d m xs (.slice A n c) w) (hm : 1 ≤ m) (hm' : d = 0 ∨ 2 ≤ m) (hd : d ≤ 90) (ht : xs.length ≤ 1000000) :
    Calls Try.prog 36 #[.slice A n c] w (Ret (fun v w' => ∃ p, v = .pointer p ∧ Tree (New K w) w' p xs) w) := by
  obtain ⟨ps, h1, h2, rfl, h3, h4, h5⟩ := h
  match ps, h1, h2, h3, h4, h5, ht with
  | [k], h, hk, _, _, _, ht =>
    obtain ⟨hr, h8, h16⟩ := hk k (by simp)
    refine (inner_one K A n c k.1 w h).mono ?_
    rintro e w' ⟨v, rfl, hv, hb⟩
    exact ⟨v, rfl, ⟨k.1, hv, Or.inr ⟨d, k.2.1, by rw [show things [k] = k.2.2 by simp [things]]; exact (hr.below hb).mono fun b h => New.old h, by omega, h16, by omega⟩⟩, hb⟩
  | k :: k' :: ks, h, hk, _, hl, h8, ht => exact inner_kids K d A n c _ w h (fun x hx => ⟨(hk x hx).1, h8 (by simp) x hx, (hk x hx).2.2⟩) (by omega) (by omega) ht
end

set_option maxHeartbeats 4000000 in
/-- THE TREE OF TWO, ONE BEHIND THE OTHER. -/
theorem join_c (K : Nat → Prop) (p q : Option Addr) (xs ys : List Int) (w : World) (h : Tree K w p xs) (h' : Tree K w q ys) (hl : (xs ++ ys).length ≤ 1000000) :
    Calls Try.prog 26 #[.pointer p, .pointer q] w (Ret (fun v w' => ∃ r, v = .pointer r ∧ Tree (New K w) w' r (xs ++ ys)) w) := by
  rcases h with ⟨rfl, rfl⟩ | ⟨d, c, h, ht⟩
  · have H := Lib.hid (h'.mono (K' := New K w) fun b h => New.old h)
    clear h'
    go_enter Try.func26, Try.ntmps26
    go_wp2
    go_returns
    exact ⟨_, rfl, ⟨q, rfl, H.out⟩, Below.refl _ _⟩
  rcases h' with ⟨rfl, rfl⟩ | ⟨e, c', h', ht'⟩
  · obtain ⟨g, a0, b0, rfl, -, hg⟩ := h.head
    have H := Lib.hid (show Tree (New K w) w (some ⟨g, 0, none⟩) (xs ++ []) from Or.inr ⟨d, c, by rw [List.append_nil]; exact h.mono fun b h => New.old h, ht⟩)
    clear h ht hg
    go_enter Try.func26, Try.ntmps26
    go_wp2
    go_returns
    exact ⟨_, rfl, ⟨_, rfl, H.out⟩, Below.refl _ _⟩
  obtain ⟨g, a0, b0, rfl, -, hg⟩ := h.head
  obtain ⟨g', a0', b0', rfl, -, hg'⟩ := h'.head
  have dp : w.cell? ⟨g, 1, none⟩ = some (.int .i64 ((d : Int) + 1)) := blk_cell hg 1
  have dq : w.cell? ⟨g', 1, none⟩ = some (.int .i64 ((e : Int) + 1)) := blk_cell hg' 1
  have hd6 := h.deep ht (by simp at hl; omega)
  have he6 := h'.deep ht' (by simp at hl; omega)
  obtain ⟨t1, t2, t3⟩ := ht
  obtain ⟨t1', t2', t3'⟩ := ht'
  have HI := Lib.hid (fun W (hw : Below w.heap.size w W) k m A' n' c'' (hP : PartsP (New K w) k m (xs ++ ys) (.slice A' n' c'') W) (hm : 1 ≤ m) (hm' : k = 0 ∨ 2 ≤ m) (hk : k ≤ 6) =>
    (show Calls Try.prog 36 #[.slice A' n' c''] W (Ret (fun v w' => ∃ r, v = .pointer r ∧ Tree (New K w) w' r (xs ++ ys)) W) from by
      refine (inner_parts (New K w) k m A' n' c'' (xs ++ ys) W hP hm hm' (by omega) hl).mono ?_
      rintro e w' ⟨v, rfl, ⟨r, rfl, hT⟩, hb⟩
      exact ⟨_, rfl, ⟨r, rfl, hT.mono fun b h => h.elim id fun h => New.fresh (Nat.le_trans hw.size h)⟩, hb⟩))
  have HPQ := Lib.hid (fun W (hw : Below w.heap.size w W) => And.intro (h.below hw) (h'.below hw))
  clear h h' hg hg'
  rcases Nat.lt_trichotomy e d with hed | hed | hed
  · have hlt : (e : Int) + 1 < (d : Int) + 1 := by omega
    have HPC := Lib.hid (fun W (hw : Below w.heap.size w W) => (show Calls Try.prog 37 #[.pointer (some ⟨g, 0, none⟩), .pointer (some ⟨g', 0, none⟩)] W (Ret (fun v w' => PartsP (New K w) d c (xs ++ ys) v w') W) from by
      refine (behind_c K d e (by omega) hed _ _ _ _ _ _ W (HPQ.out W hw).1 (HPQ.out W hw).2 (by omega) t2 ⟨t1', t2', t3'⟩ hl).mono ?_
      rintro e' w' ⟨v, rfl, hP, hb⟩
      exact ⟨v, rfl, hP.mono fun b h => h.elim New.old fun h => New.fresh (Nat.le_trans hw.size h), hb⟩))
    clear HPQ hl
    go_enter Try.func26, Try.ntmps26
    go_wp2_with fail
    go_quiet (fail)
    go_wp2_with (first
      | (go_at_call 37; ((with_reducible refine (HPC.out _ (Drawn0.mk ⟨_, rfl⟩).below).mono ?_); rintro e w1 ⟨v, rfl, hP, hb1⟩; obtain ⟨Ap, np, cp, rfl⟩ := hP.form; have hB1 : Below w.heap.size w w1 := below_trans (Drawn0.mk ⟨_, rfl⟩).below hb1; have HP := Lib.hid hP; clear hP HPC))
      | (go_at_call 36; ((with_reducible refine (HI.out _ hB1 d c _ _ _ HP.out (by omega) (by omega) hd6).mono ?_); rintro e w2 ⟨v, rfl, ⟨r, rfl, hT⟩, hb2⟩)))
    go_returns
    exact ⟨_, rfl, ⟨r, rfl, hT⟩, below_trans hB1 hb2⟩
  · subst hed
    have hlt : ¬ (e : Int) + 1 < (e : Int) + 1 := by omega
    have HPC := Lib.hid (fun W (hw : Below w.heap.size w W) => (show Calls Try.prog 39 #[.pointer (some ⟨g, 0, none⟩), .pointer (some ⟨g', 0, none⟩)] W (Ret (fun v w' => PartsP (New K w) e (c + c') (xs ++ ys) v w') W) from by
      refine (glue_c K e _ _ _ _ _ _ W (HPQ.out W hw).1 (HPQ.out W hw).2 ⟨t1, t2, t3⟩ ⟨t1', t2', t3'⟩ (by omega) hl).mono ?_
      rintro e' w' ⟨v, rfl, hP, hb⟩
      exact ⟨v, rfl, hP.mono fun b h => h.elim New.old fun h => New.fresh (Nat.le_trans hw.size h), hb⟩))
    clear HPQ hl
    go_enter Try.func26, Try.ntmps26
    go_wp2_with fail
    go_quiet (fail)
    go_wp2_with fail
    go_quiet (fail)
    go_wp2_with (first
      | (go_at_call 39; ((with_reducible refine (HPC.out _ (Drawn0.mk ⟨_, rfl⟩).below).mono ?_); rintro e w1 ⟨v, rfl, hP, hb1⟩; obtain ⟨Ap, np, cp, rfl⟩ := hP.form; have hB1 : Below w.heap.size w w1 := below_trans (Drawn0.mk ⟨_, rfl⟩).below hb1; have HP := Lib.hid hP; clear hP HPC))
      | (go_at_call 36; ((with_reducible refine (HI.out _ hB1 _ (c + c') _ _ _ HP.out (by omega) (by omega) hd6).mono ?_); rintro e w2 ⟨v, rfl, ⟨r, rfl, hT⟩, hb2⟩)))
    go_returns
    exact ⟨_, rfl, ⟨r, rfl, hT⟩, below_trans hB1 hb2⟩
  · have hlt : (d : Int) + 1 < (e : Int) + 1 := by omega
    have hlt' : ¬ (e : Int) + 1 < (d : Int) + 1 := by omega
    have HPC := Lib.hid (fun W (hw : Below w.heap.size w W) => (show Calls Try.prog 38 #[.pointer (some ⟨g, 0, none⟩), .pointer (some ⟨g', 0, none⟩)] W (Ret (fun v w' => PartsP (New K w) e c' (xs ++ ys) v w') W) from by
      refine (ahead_c K e d (by omega) hed _ _ _ _ _ _ W (HPQ.out W hw).1 (HPQ.out W hw).2 (by omega) t2' ⟨t1, t2, t3⟩ hl).mono ?_
      rintro e' w' ⟨v, rfl, hP, hb⟩
      exact ⟨v, rfl, hP.mono fun b h => h.elim New.old fun h => New.fresh (Nat.le_trans hw.size h), hb⟩))
    clear HPQ hl
    go_enter Try.func26, Try.ntmps26
    go_wp2_with fail
    go_quiet (fail)
    go_wp2_with fail
    go_quiet (fail)
    go_wp2_with (first
      | (go_at_call 38; ((with_reducible refine (HPC.out _ (Drawn0.mk ⟨_, rfl⟩).below).mono ?_); rintro e w1 ⟨v, rfl, hP, hb1⟩; obtain ⟨Ap, np, cp, rfl⟩ := hP.form; have hB1 : Below w.heap.size w w1 := below_trans (Drawn0.mk ⟨_, rfl⟩).below hb1; have HP := Lib.hid hP; clear hP HPC))
      | (go_at_call 36; ((with_reducible refine (HI.out _ hB1 _ c' _ _ _ HP.out (by omega) (by omega) he6).mono ?_); rintro e w2 ⟨v, rfl, ⟨r, rfl, hT⟩, hb2⟩)))
    go_returns
    exact ⟨_, rfl, ⟨r, rfl, hT⟩, below_trans hB1 hb2⟩
end Go.Proofs.Ytcjpdjecgeenfaa.Ro
end

section
namespace Go.Proofs.Ytcjpdjecgeenfaa.Ro
open Go Go.RowKit Go.Proofs.Ytcjpdjecgeenfaa.Mem Go.Proofs.YtcjpdjecgeenfaaW.PrintWords

/-- a tree's first i things, and the others -/
def CutP (K : Nat → Prop) (xs : List Int) (i : Nat) (v : Value) (w : World) : Prop :=
  ∃ a b, v = .tuple #[.pointer a, .pointer b] ∧ Tree K w a (xs.take i) ∧ Tree K w b (xs.drop i)

set_option maxHeartbeats 4000000 in
theorem split_edge (K : Nat → Prop) (p : Option Addr) (xs : List Int) (i : Int) (w : World) (h : Tree K w p xs) (hi : p = none ∨ i ≤ 0 ∨ (xs.length : Int) ≤ i) :
    Calls Try.prog 35 #[.pointer p, .int .i64 i] w (Ret (CutP (New K w) xs i.toNat) w) := by
  have H := Lib.hid (h.mono (K' := New K w) fun b h => New.old h)
  rcases h with ⟨rfl, rfl⟩ | ⟨d, c, h, ht⟩
  · clear hi
    go_enter Try.func35, Try.ntmps35
    go_wp2
    go_returns
    exact ⟨_, rfl, ⟨none, none, rfl, Or.inl ⟨rfl, by simp⟩, Or.inl ⟨rfl, by simp⟩⟩, Below.refl _ _⟩
  obtain ⟨g, a0, b0, rfl, -, hg⟩ := h.head
  have dn : w.cell? ⟨g, 0, none⟩ = some (.int .i64 (xs.length : Int)) := blk_cell hg 0
  clear h ht hg
  by_cases h0 : i ≤ 0
  · have HN := Lib.hid (show i.toNat = 0 by omega)
    clear hi
    go_enter Try.func35, Try.ntmps35
    go_wp2
    go_returns
    exact ⟨_, rfl, ⟨none, _, rfl, Or.inl ⟨rfl, by rw [HN.out]; rfl⟩, by rw [HN.out]; exact H.out⟩, Below.refl _ _⟩
  · have h1 : (xs.length : Int) ≤ i := by rcases hi with h | h | h; exact absurd h (by simp); exact absurd h h0; exact h
    have HN := Lib.hid (show xs.length ≤ i.toNat by omega)
    clear hi
    go_enter Try.func35, Try.ntmps35
    go_wp2
    go_returns
    exact ⟨_, rfl, ⟨_, none, rfl, by rw [List.take_of_length_le HN.out]; exact H.out, Or.inl ⟨rfl, List.drop_eq_nil_of_le HN.out⟩⟩, Below.refl _ _⟩

set_option maxHeartbeats 8000000 in
theorem split_leaf (K : Nat → Prop) (p : Option Addr) (c : Nat) (xs : List Int) (m : Nat) (w : World) (h : RRep K w 0 p c xs) (hc : c ≤ 16) (hm0 : 0 < m) (hm : m < xs.length) :
    Calls Try.prog 35 #[.pointer p, .int .i64 (m : Int)] w (Ret (CutP (New K w) xs m) w) := by
  obtain ⟨g, s, rfl, hK, hg, hs, rfl⟩ := h
  obtain ⟨A, n, cap, rfl⟩ := hs.form
  obtain rfl : n = xs.length := by have := hs.len; simpa using this
  obtain ⟨ad, rfl, -⟩ := hs.addr (by simp; omega)
  have hcap : xs.length ≤ cap := by obtain ⟨_, _, e, h3, _⟩ := hs; injection e with _ _ e3; subst e3; simpa using h3
  have dn : w.cell? ⟨g, 0, none⟩ = some (.int .i64 (xs.length : Int)) := blk_cell hg 0
  have dd : w.cell? ⟨g, 1, none⟩ = some (.int .i64 1) := blk_cell hg 1
  have k3 : w.cell? ⟨g, 3, none⟩ = some (.slice (some ad) xs.length cap) := blk_cell hg 3
  have ht := hs.take m (by simp; omega)
  have hd := hs.drop m (by simp; omega)
  rw [← List.map_take] at ht
  rw [← List.map_drop] at hd
  have HA := Lib.hid (fun W (hw : Below w.heap.size w W) => both_int' (some ad) m cap (ints (xs.take m)) none 0 0 [] W K (fun _ => False) (ht.below hw) (SlV.nil _ W) (by simp; omega) (by simp))
  have HB := Lib.hid (fun W (hw : Below w.heap.size w W) => both_int' (some (ad.add m)) (xs.length - m) (cap - m) (ints (xs.drop m)) none 0 0 [] W K (fun _ => False) (hd.below hw) (SlV.nil _ W) (by simp; omega) (by simp))
  have HN1 := Lib.hid (show xs.take m ≠ [] from List.ne_nil_of_length_pos (by rw [List.length_take]; omega))
  have HN2 := Lib.hid (show xs.drop m ≠ [] from List.ne_nil_of_length_pos (by rw [List.length_drop]; omega))
  have HT1 := Lib.hid (show Top 0 (xs.take m).length from ⟨by rw [List.length_take]; omega, by rw [List.length_take]; omega, Or.inl rfl⟩)
  have HT2 := Lib.hid (show Top 0 (xs.drop m).length from ⟨by rw [List.length_drop]; omega, by rw [List.length_drop]; omega, Or.inl rfl⟩)
  clear ht hd hs hg hK
  have hc0 : (0 : Int) ≤ (m : Int) := by omega
  have hc1 : (m : Int) ≤ (xs.length : Int) := by omega
  have hc2 : (m : Int) ≤ (cap : Int) := by omega
  have hc3 : (xs.length : Int) ≤ (cap : Int) := by omega
  have hc4 : ¬ cap = m := by omega
  have hm0' : ¬ (m : Int) ≤ 0 := by omega
  have hm' : ¬ (xs.length : Int) ≤ (m : Int) := by omega
  go_enter Try.func35, Try.ntmps35
  go_wp2_with fail
  have HW := Lib.hid (Below.drew (Below.refl w.heap.size w))
  go_region_with (first
      | (go_at_call 28; (with_reducible refine (HA.out _ HW.out).mono ?_); rintro e wx ⟨v, rfl, hO, hbx⟩; obtain ⟨Aa, na, ca, rfl⟩ := hO.slv.form; have HSa := Lib.hid (hO.slv.mono (K' := Fresh w) fun b h => Nat.le_trans HW.out.size h); clear hO HA; (try replace HSa := Lib.hid (HSa.out.below hbx)); (try replace HSb := Lib.hid (HSb.out.below hbx)); (try replace HRa := Lib.hid (HRa.out.below hbx)); (try replace HRb := Lib.hid (HRb.out.below hbx)); have HW := Lib.hid (below_trans HW.out hbx); (try clear kx); have kx := cell_below k3 HW.out; clear hbx)
      | (go_at_call 28; (with_reducible refine (HB.out _ HW.out).mono ?_); rintro e wx ⟨v, rfl, hO, hbx⟩; obtain ⟨Ab, nb, cb, rfl⟩ := hO.slv.form; have HSb := Lib.hid (hO.slv.mono (K' := Fresh w) fun b h => Nat.le_trans HW.out.size h); clear hO HB; (try replace HSa := Lib.hid (HSa.out.below hbx)); (try replace HSb := Lib.hid (HSb.out.below hbx)); (try replace HRa := Lib.hid (HRa.out.below hbx)); (try replace HRb := Lib.hid (HRb.out.below hbx)); have HW := Lib.hid (below_trans HW.out hbx); (try clear kx); have kx := cell_below k3 HW.out; clear hbx)
      | (go_at_call 27; (with_reducible refine (leaf_some _ _ _ _ (xs.take m) _ (by have := HSa.out; simpa using this) HN1.out).mono ?_); rintro e wx ⟨v, rfl, ⟨pa, rfl, hr⟩, hbx⟩; clear HSa; have HRa := Lib.hid (hr.mono (K' := Fresh w) fun b h => h.elim id fun h => Nat.le_trans HW.out.size h); clear hr; (try replace HSa := Lib.hid (HSa.out.below hbx)); (try replace HSb := Lib.hid (HSb.out.below hbx)); (try replace HRb := Lib.hid (HRb.out.below hbx)); have HW := Lib.hid (below_trans HW.out hbx); (try clear kx); have kx := cell_below k3 HW.out; clear hbx)
      | (go_at_call 27; (with_reducible refine (leaf_some _ _ _ _ (xs.drop m) _ (by have := HSb.out; simpa using this) HN2.out).mono ?_); rintro e wx ⟨v, rfl, ⟨pb, rfl, hr⟩, hbx⟩; clear HSb; have HRb := Lib.hid (hr.mono (K' := Fresh w) fun b h => h.elim id fun h => Nat.le_trans HW.out.size h); clear hr; (try replace HSa := Lib.hid (HSa.out.below hbx)); (try replace HSb := Lib.hid (HSb.out.below hbx)); (try replace HRa := Lib.hid (HRa.out.below hbx)); have HW := Lib.hid (below_trans HW.out hbx); (try clear kx); have kx := cell_below k3 HW.out; clear hbx)
      | fail)
  all_goals
    go_wp2_with fail
    go_returns
    exact ⟨_, rfl, ⟨_, _, rfl, Or.inr ⟨0, _, HRa.out.mono fun b h => New.fresh h, HT1.out⟩, Or.inr ⟨0, _, HRb.out.mono fun b h => New.fresh h, HT2.out⟩⟩, HW.out⟩
end Go.Proofs.Ytcjpdjecgeenfaa.Ro
end

section
namespace Go.Proofs.Ytcjpdjecgeenfaa.Ro
open Go Go.RowKit Go.Proofs.Ytcjpdjecgeenfaa.Mem Go.Proofs.YtcjpdjecgeenfaaW.PrintWords

theorem join_new (K : Nat → Prop) (w : World) (p q : Option Addr) (xs ys : List Int) (W : World) (hw : Below w.heap.size w W) (h : Tree (New K w) W p xs) (h' : Tree (New K w) W q ys) (hl : (xs ++ ys).length ≤ 1000000) :
    Calls Try.prog 26 #[.pointer p, .pointer q] W (Ret (fun v w' => ∃ r, v = .pointer r ∧ Tree (New K w) w' r (xs ++ ys)) W) := by
  refine (join_c (New K w) p q xs ys W h h' hl).mono ?_
  rintro e w' ⟨v, rfl, ⟨r, rfl, hT⟩, hb⟩
  exact ⟨_, rfl, ⟨r, rfl, hT.mono fun b h => h.elim id fun h => New.fresh (Nat.le_trans hw.size h)⟩, hb⟩

theorem inner_new (K : Nat → Prop) (w : World) (d : Nat) (ks : List Kid) (A : Option Addr) (n c : Nat) (W : World) (hw : Below w.heap.size w W) (h : SlV (Fresh w) W (.slice A n c) (ptrs ks ++ [])) (hk : ∀ k ∈ ks, RRep K w d k.1 k.2.1 k.2.2 ∧ 8 ≤ k.2.1 ∧ k.2.1 ≤ 16) (hl : ks.length ≤ 16) (hd : d ≤ 90) (ht : (things ks).length ≤ 1000000) :
    Calls Try.prog 36 #[.slice A n c] W (Ret (fun v w' => ∃ r, v = .pointer r ∧ Tree (New K w) w' r (things ks)) W) := by
  rw [List.append_nil] at h
  refine (inner_kids (New K w) d A n c ks W (h.mono fun b h => New.fresh h) (fun k hkk => ⟨((hk k hkk).1.below hw).mono fun b h => New.old h, (hk k hkk).2⟩) hl (by omega) ht).mono ?_
  rintro e w' ⟨v, rfl, ⟨r, rfl, hT⟩, hb⟩
  exact ⟨_, rfl, ⟨r, rfl, hT.mono fun b h => h.elim id fun h => New.fresh (Nat.le_trans hw.size h)⟩, hb⟩

theorem SlV.zero (K : Nat → Prop) (w : World) (ad : Addr) : SlV K w (.slice (some ad) 0 0) [] := ⟨some ad, 0, rfl, Nat.le_refl _, by simp [maxLen], fun h => absurd h (by simp), fun u h => by cases h⟩

/-- a place among kids' things: what holds at each round's head of the search for the kid -/
def FindI (w : World) (ks : List Kid) (i : Nat) (k : Nat) (v1 v6 : Value) (wr : World) : Prop :=
  w = wr ∧ ∃ j m : Nat, v6 = .int .i64 (j : Int) ∧ v1 = .int .i64 (m : Int) ∧ j + k = ks.length ∧ (things (ks.take j)).length + m = i

theorem things_at {ks : List Kid} {j : Nat} {kid : Kid} (h : ks[j]? = some kid) : things ks = things (ks.take j) ++ (kid.2.2 ++ things (ks.drop (j + 1))) := by
  have hj : j < ks.length := (List.getElem?_eq_some_iff.1 h).1
  have hx : ks[j] = kid := (List.getElem?_eq_some_iff.1 h).2
  have h1 : ks = ks.take j ++ kid :: ks.drop (j + 1) := by rw [← hx, List.getElem_cons_drop hj, List.take_append_drop]
  conv => lhs; rw [h1]
  rw [things_append]
  rfl

theorem things_take_at {ks : List Kid} {j : Nat} {kid : Kid} (h : ks[j]? = some kid) : things (ks.take (j + 1)) = things (ks.take j) ++ kid.2.2 := by
  rw [List.take_add_one, h, things_append]; simp [things]

theorem take_mid (a b c : List Int) (m : Nat) (hm : m ≤ b.length) : (a ++ (b ++ c)).take (a.length + m) = a ++ b.take m := by
  rw [List.take_append, List.take_of_length_le (by omega), Nat.add_sub_cancel_left, List.take_append, Nat.sub_eq_zero_of_le hm, List.take_zero, List.append_nil]
theorem drop_mid (a b c : List Int) (m : Nat) (hm : m ≤ b.length) : (a ++ (b ++ c)).drop (a.length + m) = b.drop m ++ c := by
  rw [List.drop_append, List.drop_eq_nil_of_le (by omega), Nat.add_sub_cancel_left, List.drop_append, Nat.sub_eq_zero_of_le hm, List.drop_zero, List.nil_append]

set_option maxHeartbeats 16000000 in
theorem split_inner (K : Nat → Prop) (d : Nat) (hd : d ≤ 80)
    (ih : ∀ (p : Option Addr) (c : Nat) (xs : List Int) (i : Int) (w : World), RRep K w d p c xs → Top d c → xs.length ≤ 1000000 →
      Calls Try.prog 35 #[.pointer p, .int .i64 i] w (Ret (CutP (New K w) xs i.toNat) w))
    (p : Option Addr) (c : Nat) (xs : List Int) (m : Nat) (w : World) (h : RRep K w (d + 1) p c xs) (hc : c ≤ 16) (hm0 : 0 < m) (hm : m < xs.length) (hl : xs.length ≤ 1000000) :
    Calls Try.prog 35 #[.pointer p, .int .i64 (m : Int)] w (Ret (CutP (New K w) xs m) w) := by
  obtain ⟨g, s, ks, rfl, hK, hg, hs, hks, rfl, rfl⟩ := h
  obtain ⟨A, n, cap, rfl⟩ := hs.form
  obtain rfl : n = ks.length := by have := hs.len; simpa using this
  have hks0 : 0 < ks.length := List.length_pos_iff.2 (by rintro rfl; simp [things] at hm)
  obtain ⟨ad, rfl, hcell⟩ := hs.addr (by simpa using hks0)
  have hcap : ks.length ≤ cap := by obtain ⟨_, _, e, h3, _⟩ := hs; injection e with _ _ e3; subst e3; simpa using h3
  obtain ⟨tn, htn⟩ : ∃ tn : Nat, tn = (things ks).length := ⟨_, rfl⟩
  have dn : w.cell? ⟨g, 0, none⟩ = some (.int .i64 (tn : Int)) := by rw [htn]; exact blk_cell hg 0
  have dd : w.cell? ⟨g, 1, none⟩ = some (.int .i64 ((d : Int) + 2)) := blk_cell hg 1
  have k2 : w.cell? ⟨g, 2, none⟩ = some (.slice (some ad) ks.length cap) := blk_cell hg 2
  have hd2 : ((d : Int) + 2 == 1) = false := beq_false_of_ne (by omega)
  have hm0' : ¬ (m : Int) ≤ 0 := by omega
  have hm' : ¬ (tn : Int) ≤ (m : Int) := by omega
  have HM := Lib.hid (show m < (things ks).length ∧ (things ks).length ≤ 1000000 from ⟨hm, hl⟩)
  have HS := Lib.hid hs
  have HC := Lib.hid hcell
  have HKS := Lib.hid hks
  have HIH := Lib.hid ih
  clear hs hcell hks hg hK ih hm hl htn
  go_enter Try.func35, Try.ntmps35
  go_wp2_with fail
  go_loopg [1, 6] ks.length (fun k v1 v6 wr => Aside (FindI w ks m k v1 v6 wr))
  case atStart =>
    show FindI _ _ _ _ _ _ _
    exact ⟨rfl, 0, m, rfl, rfl, by omega, by simp [things]⟩
  case round =>
    obtain ⟨rfl, j, mi, rfl, rfl, hj, hmi⟩ := hrel.out
    have HMI := Lib.hid hmi; clear hmi
    clear hrel
    cases gk with
    | zero =>
      refine absurd HMI.out ?_
      have := HM.out
      rw [List.take_of_length_le (by omega)]
      omega
    | succ k =>
      have hjl : j < ks.length := by omega
      have hjI : (j : Int) < (ks.length : Int) := by omega
      obtain ⟨kid, hkid⟩ : ∃ kid, ks[j]? = some kid := ⟨_, List.getElem?_eq_getElem hjl⟩
      obtain ⟨g1, a1, b1, e1, hg1, B1⟩ := (HKS.out kid (List.mem_of_getElem? hkid)).1.head
      have c1 : w.cell? (ad.add j) = some (.pointer (some ⟨g1, 0, none⟩)) := by have := HC.out j (.pointer kid.1) (by simp [hkid]); rw [e1] at this; exact this
      obtain ⟨l1, hl1⟩ : ∃ l1 : Nat, l1 = kid.2.2.length := ⟨_, rfl⟩
      have d1 : w.cell? ⟨g1, 0, none⟩ = some (.int .i64 (l1 : Int)) := by rw [hl1]; exact blk_cell B1 0
      have HL1 := Lib.hid hl1
      have HKID := Lib.hid hkid
      obtain ⟨j1, hj1⟩ : ∃ j1 : Nat, j1 = j + 1 := ⟨_, rfl⟩
      have HT := Lib.hid (show things ks = things (ks.take j) ++ (kid.2.2 ++ things (ks.drop j1)) from by rw [hj1]; exact things_at hkid)
      have hmb : mi ≤ 1000000 := by have := HM.out; have := HMI.out; omega
      have hmbI : (mi : Int) ≤ 1000000 := by omega
      clear hl1 hkid B1 hg1
      by_cases hge : l1 ≤ mi
      · have hgeI : (l1 : Int) ≤ (mi : Int) := by omega
        have hws : IntKind.i64.wrap ((mi : Int) - (l1 : Int)) = ((mi - l1 : Nat) : Int) := by rw [IntKind.wrap_i64]; omega
        clear e1
        go_wp2_with fail
        go_roundg k
        case measure => omega
        case rel =>
          show FindI _ _ _ _ _ _ _
          exact ⟨rfl, j + 1, mi - l1, by first | rfl | (push_cast; rfl), by first | rfl | (congr 1; omega), by omega, by have := things_take_at HKID.out; rw [this, List.length_append]; have := HMI.out; have := HL1.out; omega⟩
      · have hgeI : ¬ (l1 : Int) ≤ (mi : Int) := by omega
        have HE1 := Lib.hid (show things (ks.take j) ++ kid.2.2.take mi = (things ks).take m by rw [HT.out, ← HMI.out]; exact (take_mid _ _ _ _ (by have := HL1.out; omega)).symm)
        have HE2 := Lib.hid (show kid.2.2.drop mi ++ things (ks.drop j1) = (things ks).drop m by rw [HT.out, ← HMI.out]; exact (drop_mid _ _ _ _ (by have := HL1.out; omega)).symm)
        have HLA := Lib.hid (show (things (ks.take j) ++ kid.2.2.take mi).length ≤ 1000000 by rw [HE1.out, List.length_take]; have := HM.out; omega)
        have HLB := Lib.hid (show (kid.2.2.drop mi ++ things (ks.drop j1)).length ≤ 1000000 by rw [HE2.out, List.length_drop]; have := HM.out; omega)
        have HLC := Lib.hid (show (things (ks.take j)).length ≤ 1000000 by have := HLA.out; rw [List.length_append] at this; omega)
        have HLD := Lib.hid (show (things (ks.drop j1)).length ≤ 1000000 by have := HLB.out; rw [List.length_append] at this; omega)
        have HKA := Lib.hid (show ∀ k ∈ ks.take j, RRep K w d k.1 k.2.1 k.2.2 ∧ 8 ≤ k.2.1 ∧ k.2.1 ≤ 16 from fun k hk => HKS.out k (List.mem_of_mem_take hk))
        have HKB := Lib.hid (show ∀ k ∈ ks.drop j1, RRep K w d k.1 k.2.1 k.2.2 ∧ 8 ≤ k.2.1 ∧ k.2.1 ≤ 16 from fun k hk => HKS.out k (List.mem_of_mem_drop hk))
        have HNA := Lib.hid (show (ks.take j).length ≤ 16 by rw [List.length_take]; omega)
        have HNB := Lib.hid (show (ks.drop j1).length ≤ 16 by rw [List.length_drop]; omega)
        have HDD := Lib.hid (show d ≤ 90 by omega)
        have HREC := Lib.hid (show Calls Try.prog 35 #[.pointer (some ⟨g1, 0, none⟩), .int .i64 (mi : Int)] w (Ret (CutP (New K w) kid.2.2 mi) w) from by
          obtain ⟨hr, h8, h16⟩ := HKS.out kid (List.mem_of_getElem? HKID.out)
          rw [e1] at hr
          have := HIH.out _ _ _ (mi : Int) w hr ⟨by omega, h16, by omega⟩ (by have := HM.out; have h2 := congrArg List.length HT.out; rw [List.length_append, List.length_append] at h2; omega)
          exact this)
        have hst := HS.out.take j (by simp; omega)
        have hsd := HS.out.drop j1 (by simp; omega)
        rw [← List.map_take] at hst
        rw [← List.map_drop] at hsd
        have HA := Lib.hid (fun W (hw : Below w.heap.size w W) => both_ptr' (some ad) j cap (ptrs (ks.take j)) none 0 0 [] W K (fun _ => False) (hst.below hw) (SlV.nil _ W) (by simp; omega) (by simp))
        clear hst e1 HIH HKS HT HS HC
        have hc0 : (0 : Int) ≤ (j : Int) := by omega
        have hc1 : (j : Int) ≤ (ks.length : Int) := by omega
        have hc2 : (j : Int) ≤ (cap : Int) := by omega
        have hc3 : (ks.length : Int) ≤ (cap : Int) := by omega
        have hc5 : IntKind.i64.wrap ((j : Int) + 1) = (j1 : Int) := by rw [IntKind.wrap_i64]; omega
        have hc6 : (j1 : Int) ≤ (ks.length : Int) := by omega
        have hc7 : (j1 : Int) ≤ (cap : Int) := by omega
        have hc8 : (0 : Int) ≤ (j1 : Int) := by omega
        have hc9 : cap ≤ 1000000 ∨ True := Or.inr trivial
        clear hj1 hc9
        by_cases hcj : cap = j1
        · clear hsd
          have hcj := hcj.symm; subst hcj
          have HDR := Lib.hid (show ks.drop j1 = [] from List.drop_eq_nil_of_le (by omega))
          have HB := Lib.hid (fun W (hw : Below w.heap.size w W) => both_ptr' (some ad) 0 0 (ptrs (ks.drop j1)) none 0 0 [] W K (fun _ => False) (by rw [HDR.out]; exact SlV.zero K W ad) (SlV.nil _ W) (by rw [HDR.out]; simp) (by simp))
          go_wp2_with (go_at_call 35; ((with_reducible refine (HREC.out).mono ?_); rintro e w1 ⟨v, rfl, ⟨ta, tb, rfl, hta, htb⟩, hb1⟩; have HTa := Lib.hid (hta.below (Below.drew (Below.refl _ _))); have HTb := Lib.hid (htb.below (Below.drew (Below.refl _ _))); clear hta htb HREC; have HW := Lib.hid (Below.drew hb1); have kx := cell_below k2 hb1; clear hb1))
          go_region_with (first
            | (go_at_call 47; (with_reducible refine (HA.out _ HW.out).mono ?_); rintro e wx ⟨v, rfl, hO, hbx⟩; obtain ⟨Aa, na, ca, rfl⟩ := hO.slv.form; have HSa := Lib.hid (hO.slv.mono (K' := Fresh w) fun b h => Nat.le_trans HW.out.size h); clear hO HA; (try replace HSb := Lib.hid (HSb.out.below hbx)); (try replace HRa := Lib.hid (HRa.out.below hbx)); (try replace HRb := Lib.hid (HRb.out.below hbx)); (try replace HTa := Lib.hid (HTa.out.below hbx)); (try replace HTb := Lib.hid (HTb.out.below hbx)); (try replace HJa := Lib.hid (HJa.out.below hbx)); (try replace HJb := Lib.hid (HJb.out.below hbx)); have HW := Lib.hid (below_trans HW.out hbx); (try clear kx); have kx := cell_below k2 HW.out; clear hbx)
            | (go_at_call 47; (with_reducible refine (HB.out _ HW.out).mono ?_); rintro e wx ⟨v, rfl, hO, hbx⟩; obtain ⟨Ab, nb, cb, rfl⟩ := hO.slv.form; have HSb := Lib.hid (hO.slv.mono (K' := Fresh w) fun b h => Nat.le_trans HW.out.size h); clear hO HB; (try replace HSa := Lib.hid (HSa.out.below hbx)); (try replace HRa := Lib.hid (HRa.out.below hbx)); (try replace HRb := Lib.hid (HRb.out.below hbx)); (try replace HTa := Lib.hid (HTa.out.below hbx)); (try replace HTb := Lib.hid (HTb.out.below hbx)); (try replace HJa := Lib.hid (HJa.out.below hbx)); (try replace HJb := Lib.hid (HJb.out.below hbx)); have HW := Lib.hid (below_trans HW.out hbx); (try clear kx); have kx := cell_below k2 HW.out; clear hbx)
            | (go_at_call 36; (with_reducible refine (inner_new K w d (ks.take j) _ _ _ _ HW.out HSa.out HKA.out HNA.out HDD.out HLC.out).mono ?_); rintro e wx ⟨v, rfl, ⟨pa, rfl, hr⟩, hbx⟩; clear HSa; have HRa := Lib.hid hr; clear hr; (try replace HSa := Lib.hid (HSa.out.below hbx)); (try replace HSb := Lib.hid (HSb.out.below hbx)); (try replace HRb := Lib.hid (HRb.out.below hbx)); (try replace HTa := Lib.hid (HTa.out.below hbx)); (try replace HTb := Lib.hid (HTb.out.below hbx)); (try replace HJa := Lib.hid (HJa.out.below hbx)); (try replace HJb := Lib.hid (HJb.out.below hbx)); have HW := Lib.hid (below_trans HW.out hbx); (try clear kx); have kx := cell_below k2 HW.out; clear hbx)
            | (go_at_call 36; (with_reducible refine (inner_new K w d (ks.drop j1) _ _ _ _ HW.out HSb.out HKB.out HNB.out HDD.out HLD.out).mono ?_); rintro e wx ⟨v, rfl, ⟨pb, rfl, hr⟩, hbx⟩; clear HSb; have HRb := Lib.hid hr; clear hr; (try replace HSa := Lib.hid (HSa.out.below hbx)); (try replace HSb := Lib.hid (HSb.out.below hbx)); (try replace HRa := Lib.hid (HRa.out.below hbx)); (try replace HTa := Lib.hid (HTa.out.below hbx)); (try replace HTb := Lib.hid (HTb.out.below hbx)); (try replace HJa := Lib.hid (HJa.out.below hbx)); (try replace HJb := Lib.hid (HJb.out.below hbx)); have HW := Lib.hid (below_trans HW.out hbx); (try clear kx); have kx := cell_below k2 HW.out; clear hbx)
            | (go_at_call 26; (with_reducible refine (join_new K w _ _ _ _ _ HW.out HRa.out HTa.out HLA.out).mono ?_); rintro e wx ⟨v, rfl, ⟨qa, rfl, hr⟩, hbx⟩; clear HRa HTa; have HJa := Lib.hid hr; clear hr; (try replace HSa := Lib.hid (HSa.out.below hbx)); (try replace HSb := Lib.hid (HSb.out.below hbx)); (try replace HRa := Lib.hid (HRa.out.below hbx)); (try replace HRb := Lib.hid (HRb.out.below hbx)); (try replace HTa := Lib.hid (HTa.out.below hbx)); (try replace HTb := Lib.hid (HTb.out.below hbx)); (try replace HJb := Lib.hid (HJb.out.below hbx)); have HW := Lib.hid (below_trans HW.out hbx); (try clear kx); have kx := cell_below k2 HW.out; clear hbx)
            | (go_at_call 26; (with_reducible refine (join_new K w _ _ _ _ _ HW.out HTb.out HRb.out HLB.out).mono ?_); rintro e wx ⟨v, rfl, ⟨qb, rfl, hr⟩, hbx⟩; clear HRb HTb; have HJb := Lib.hid hr; clear hr; (try replace HSa := Lib.hid (HSa.out.below hbx)); (try replace HSb := Lib.hid (HSb.out.below hbx)); (try replace HRa := Lib.hid (HRa.out.below hbx)); (try replace HRb := Lib.hid (HRb.out.below hbx)); (try replace HTa := Lib.hid (HTa.out.below hbx)); (try replace HTb := Lib.hid (HTb.out.below hbx)); (try replace HJa := Lib.hid (HJa.out.below hbx)); have HW := Lib.hid (below_trans HW.out hbx); (try clear kx); have kx := cell_below k2 HW.out; clear hbx)
            | fail)
          all_goals
            go_wp2_with fail
            go_returns
            have hja := HJa.out
            have hjb := HJb.out
            rw [HE1.out] at hja
            rw [HE2.out] at hjb
            exact ⟨_, rfl, ⟨_, _, rfl, hja, hjb⟩, HW.out⟩
        · have HB := Lib.hid (fun W (hw : Below w.heap.size w W) => both_ptr' (some (ad.add j1)) (ks.length - j1) (cap - j1) (ptrs (ks.drop j1)) none 0 0 [] W K (fun _ => False) (hsd.below hw) (SlV.nil _ W) (by simp; omega) (by simp))
          clear hsd
          go_wp2_with (go_at_call 35; ((with_reducible refine (HREC.out).mono ?_); rintro e w1 ⟨v, rfl, ⟨ta, tb, rfl, hta, htb⟩, hb1⟩; have HTa := Lib.hid (hta.below (Below.drew (Below.refl _ _))); have HTb := Lib.hid (htb.below (Below.drew (Below.refl _ _))); clear hta htb HREC; have HW := Lib.hid (Below.drew hb1); have kx := cell_below k2 hb1; clear hb1))
          go_region_with (first
            | (go_at_call 47; (with_reducible refine (HA.out _ HW.out).mono ?_); rintro e wx ⟨v, rfl, hO, hbx⟩; obtain ⟨Aa, na, ca, rfl⟩ := hO.slv.form; have HSa := Lib.hid (hO.slv.mono (K' := Fresh w) fun b h => Nat.le_trans HW.out.size h); clear hO HA; (try replace HSb := Lib.hid (HSb.out.below hbx)); (try replace HRa := Lib.hid (HRa.out.below hbx)); (try replace HRb := Lib.hid (HRb.out.below hbx)); (try replace HTa := Lib.hid (HTa.out.below hbx)); (try replace HTb := Lib.hid (HTb.out.below hbx)); (try replace HJa := Lib.hid (HJa.out.below hbx)); (try replace HJb := Lib.hid (HJb.out.below hbx)); have HW := Lib.hid (below_trans HW.out hbx); (try clear kx); have kx := cell_below k2 HW.out; clear hbx)
            | (go_at_call 47; (with_reducible refine (HB.out _ HW.out).mono ?_); rintro e wx ⟨v, rfl, hO, hbx⟩; obtain ⟨Ab, nb, cb, rfl⟩ := hO.slv.form; have HSb := Lib.hid (hO.slv.mono (K' := Fresh w) fun b h => Nat.le_trans HW.out.size h); clear hO HB; (try replace HSa := Lib.hid (HSa.out.below hbx)); (try replace HRa := Lib.hid (HRa.out.below hbx)); (try replace HRb := Lib.hid (HRb.out.below hbx)); (try replace HTa := Lib.hid (HTa.out.below hbx)); (try replace HTb := Lib.hid (HTb.out.below hbx)); (try replace HJa := Lib.hid (HJa.out.below hbx)); (try replace HJb := Lib.hid (HJb.out.below hbx)); have HW := Lib.hid (below_trans HW.out hbx); (try clear kx); have kx := cell_below k2 HW.out; clear hbx)
            | (go_at_call 36; (with_reducible refine (inner_new K w d (ks.take j) _ _ _ _ HW.out HSa.out HKA.out HNA.out HDD.out HLC.out).mono ?_); rintro e wx ⟨v, rfl, ⟨pa, rfl, hr⟩, hbx⟩; clear HSa; have HRa := Lib.hid hr; clear hr; (try replace HSa := Lib.hid (HSa.out.below hbx)); (try replace HSb := Lib.hid (HSb.out.below hbx)); (try replace HRb := Lib.hid (HRb.out.below hbx)); (try replace HTa := Lib.hid (HTa.out.below hbx)); (try replace HTb := Lib.hid (HTb.out.below hbx)); (try replace HJa := Lib.hid (HJa.out.below hbx)); (try replace HJb := Lib.hid (HJb.out.below hbx)); have HW := Lib.hid (below_trans HW.out hbx); (try clear kx); have kx := cell_below k2 HW.out; clear hbx)
            | (go_at_call 36; (with_reducible refine (inner_new K w d (ks.drop j1) _ _ _ _ HW.out HSb.out HKB.out HNB.out HDD.out HLD.out).mono ?_); rintro e wx ⟨v, rfl, ⟨pb, rfl, hr⟩, hbx⟩; clear HSb; have HRb := Lib.hid hr; clear hr; (try replace HSa := Lib.hid (HSa.out.below hbx)); (try replace HSb := Lib.hid (HSb.out.below hbx)); (try replace HRa := Lib.hid (HRa.out.below hbx)); (try replace HTa := Lib.hid (HTa.out.below hbx)); (try replace HTb := Lib.hid (HTb.out.below hbx)); (try replace HJa := Lib.hid (HJa.out.below hbx)); (try replace HJb := Lib.hid (HJb.out.below hbx)); have HW := Lib.hid (below_trans HW.out hbx); (try clear kx); have kx := cell_below k2 HW.out; clear hbx)
            | (go_at_call 26; (with_reducible refine (join_new K w _ _ _ _ _ HW.out HRa.out HTa.out HLA.out).mono ?_); rintro e wx ⟨v, rfl, ⟨qa, rfl, hr⟩, hbx⟩; clear HRa HTa; have HJa := Lib.hid hr; clear hr; (try replace HSa := Lib.hid (HSa.out.below hbx)); (try replace HSb := Lib.hid (HSb.out.below hbx)); (try replace HRa := Lib.hid (HRa.out.below hbx)); (try replace HRb := Lib.hid (HRb.out.below hbx)); (try replace HTa := Lib.hid (HTa.out.below hbx)); (try replace HTb := Lib.hid (HTb.out.below hbx)); (try replace HJb := Lib.hid (HJb.out.below hbx)); have HW := Lib.hid (below_trans HW.out hbx); (try clear kx); have kx := cell_below k2 HW.out; clear hbx)
            | (go_at_call 26; (with_reducible refine (join_new K w _ _ _ _ _ HW.out HTb.out HRb.out HLB.out).mono ?_); rintro e wx ⟨v, rfl, ⟨qb, rfl, hr⟩, hbx⟩; clear HRb HTb; have HJb := Lib.hid hr; clear hr; (try replace HSa := Lib.hid (HSa.out.below hbx)); (try replace HSb := Lib.hid (HSb.out.below hbx)); (try replace HRa := Lib.hid (HRa.out.below hbx)); (try replace HRb := Lib.hid (HRb.out.below hbx)); (try replace HTa := Lib.hid (HTa.out.below hbx)); (try replace HTb := Lib.hid (HTb.out.below hbx)); (try replace HJa := Lib.hid (HJa.out.below hbx)); have HW := Lib.hid (below_trans HW.out hbx); (try clear kx); have kx := cell_below k2 HW.out; clear hbx)
            | fail)
          all_goals
            go_wp2_with fail
            go_returns
            have hja := HJa.out
            have hjb := HJb.out
            rw [HE1.out] at hja
            rw [HE2.out] at hjb
            exact ⟨_, rfl, ⟨_, _, rfl, hja, hjb⟩, HW.out⟩
end Go.Proofs.Ytcjpdjecgeenfaa.Ro
end

section
namespace Go.Proofs.Ytcjpdjecgeenfaa.Ro
open Go Go.RowKit Go.Proofs.Ytcjpdjecgeenfaa.Mem Go.Proofs.YtcjpdjecgeenfaaW.PrintWords

theorem split_node (K : Nat → Prop) : ∀ (d : Nat), d ≤ 80 → ∀ (p : Option Addr) (c : Nat) (xs : List Int) (i : Int) (w : World), RRep K w d p c xs → Top d c → xs.length ≤ 1000000 →
      Calls Try.prog 35 #[.pointer p, .int .i64 i] w (Ret (CutP (New K w) xs i.toNat) w)
  | d, hd, p, c, xs, i, w, h, ht, hl => by
    by_cases h0 : i ≤ 0 ∨ (xs.length : Int) ≤ i
    · exact split_edge K p xs i w (Or.inr ⟨d, c, h, ht⟩) (Or.inr h0)
    · obtain ⟨m, rfl⟩ : ∃ m : Nat, i = (m : Int) := ⟨i.toNat, by omega⟩
      rw [Int.toNat_natCast]
      have hm0 : 0 < m := by omega
      have hm : m < xs.length := by omega
      match d, hd, h with
      | 0, _, h => exact split_leaf K p c xs m w h ht.2.1 hm0 hm
      | d + 1, hd, h => exact split_inner K d (by omega) (split_node K d (by omega)) p c xs m w h ht.2.1 hm0 hm hl

/-- A TREE'S FIRST i THINGS, AND THE OTHERS. -/
theorem split_c (K : Nat → Prop) (p : Option Addr) (xs : List Int) (i : Int) (w : World) (h : Tree K w p xs) (hl : xs.length ≤ 1000000) :
    Calls Try.prog 35 #[.pointer p, .int .i64 i] w (Ret (CutP (New K w) xs i.toNat) w) := by
  rcases h with ⟨rfl, rfl⟩ | ⟨d, c, h, ht⟩
  · exact split_edge K none [] i w (Or.inl ⟨rfl, rfl⟩) (Or.inl rfl)
  · exact split_node K d (by have := h.deep ht hl; omega) p c xs i w h ht hl
end Go.Proofs.Ytcjpdjecgeenfaa.Ro
end
