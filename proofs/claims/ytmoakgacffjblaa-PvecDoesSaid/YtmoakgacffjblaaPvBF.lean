/- All vectors that came of a script, and the document's lists. -/
import Derived.Test.YtmoakgacffjblaaPvBC
import Derived.Maps.AppendAt
set_option linter.unusedVariables false
set_option linter.unusedSimpArgs false
namespace Go.Proofs.Ytmoakgacffjblaa.Pv
open Go Go.RowKit Go.Proofs.Ytmoakgacffjblaa.Mem Go.Proofs.YtmoakgacffjblaaW.PrintWords Go.Proofs.Ytmoakgacffjblaa.PPvecDoes

theorem flat4_get {α : Type} (f : α → List Value) : ∀ (xs : List α), (∀ x ∈ xs, (f x).length = 4) → ∀ (i j : Nat) (x : α), xs[i]? = some x → j < 4 → (xs.flatMap f)[i * 4 + j]? = (f x)[j]?
  | [], _, i, j, x, hx, _ => by simp at hx
  | y :: ys, h, 0, j, x, hx, hj => by
    simp at hx
    subst hx
    have hy := h y (by simp)
    rw [List.flatMap_cons, List.getElem?_append_left (by omega)]
    simp
  | y :: ys, h, i + 1, j, x, hx, hj => by
    simp at hx
    have hy := h y (by simp)
    rw [List.flatMap_cons, List.getElem?_append_right (by omega)]
    have := flat4_get f ys (fun x hx => h x (by simp [hx])) i j x hx hj
    rw [← this]
    congr 1
    omega

/-- where the vectors' things may lie -/
def KD (g : Nat) (vs ls : Value) : Nat → Prop := fun b => b ≠ g ∧ some b ≠ vs.ownBlock ∧ some b ≠ ls.ownBlock

abbrev Past := Value × Value × List Int

/-- the rows of all vectors and of all lists so far -/
def Hist (w : World) (g : Nat) (vs ls : Value) (hist : List Past) (wr : World) : Prop :=
  wr.ownsRow w.heap.size 26 4 vs hist.length (hist.flatMap fun h => h.1.cells.toList) ∧ wr.ownsRow w.heap.size 24 1 ls hist.length (hist.map fun h => h.2.1) ∧
  (∀ h ∈ hist, VRep (KD g vs ls) wr h.1 h.2.2 ∧ SlV (KD g vs ls) wr h.2.1 (ints h.2.2) ∧ h.2.2.length ≤ 60000) ∧ some g ≠ vs.ownBlock ∧ some g ≠ ls.ownBlock

theorem Hist.apart {w : World} {g : Nat} {vs ls : Value} {hist : List Past} {wr : World} (h : Hist w g vs ls hist wr) : ls.ownBlock = none ∨ ls.ownBlock ≠ vs.ownBlock := by
  cases hl : ls.ownBlock with
  | none => exact .inl rfl
  | some k =>
    refine .inr fun e => ?_
    obtain ⟨c1, h1⟩ := own_typed h.2.1 k hl
    obtain ⟨c2, h2⟩ := own_typed h.1 k e.symm
    rw [h1] at h2
    injection h2 with h2
    injection h2 with _ h2
    exact absurd h2 (by decide)

theorem hist_push {w : World} {g : Nat} {vs ls : Value} {hist : List Past} {W : World} (H : Hist w g vs ls hist W) (hB : Below w.heap.size w W) (hwg : g < W.heap.size) {v s : Value} {l : List Int} (hV : VRep (KD g vs ls) W v l) (hS : SlV (KD g vs ls) W s (ints l)) (hl : l.length ≤ 60000)
    {vs' : Value} {w7 : World} (o7 : w7.ownsRow w.heap.size 26 4 vs' (hist.length + 1) ((hist.flatMap fun h => h.1.cells.toList) ++ v.cells.toList)) (g7 : (W.alloc (.cells v.cells 26)).grownBy w7 vs.ownBlock) (a7 : vs'.ownBlock = vs.ownBlock ∨ vs'.ownBlock = some (W.alloc (.cells v.cells 26)).heap.size)
    {ls' : Value} {w8 : World} (o8 : w8.ownsRow w.heap.size 24 1 ls' (hist.length + 1) ((hist.map fun h => h.2.1) ++ [s])) (g8 : (w7.alloc (.cells #[s] 24)).grownBy w8 ls.ownBlock) (a8 : ls'.ownBlock = ls.ownBlock ∨ ls'.ownBlock = some (w7.alloc (.cells #[s] 24)).heap.size) :
    Hist w g vs' ls' (hist ++ [(v, s, l)]) w8 ∧ VRep (KD g vs' ls') w8 v l ∧ SlV (KD g vs' ls') w8 s (ints l) ∧ w8.heap[g]? = W.heap[g]? ∧ Below w.heap.size w w8 := by
  have hs7 : W.heap.size + 1 ≤ w7.heap.size := by have := g7.size; rw [World.size_alloc] at this; exact this
  have hs8 : w7.heap.size + 1 ≤ w8.heap.size := by have := g8.size; rw [World.size_alloc] at this; exact this
  have hne7 : ∀ b, b < W.heap.size → some b ≠ vs.ownBlock → some b ≠ vs'.ownBlock := fun b hb hn e => by
    rcases a7 with a | a
    · exact hn (e.trans a)
    · rw [a, World.size_alloc] at e; injection e with e; omega
  have hne8 : ∀ b, b < W.heap.size → some b ≠ ls.ownBlock → some b ≠ ls'.ownBlock := fun b hb hn e => by
    rcases a8 with a | a
    · exact hn (e.trans a)
    · rw [a, World.size_alloc] at e; injection e with e; omega
  have hkeep : ∀ b, b < W.heap.size → some b ≠ vs.ownBlock → some b ≠ ls.ownBlock → w8.heap[b]? = W.heap[b]? := fun b hb h1 h2 => by
    refine (g8.block b (by rw [World.size_alloc]; omega) h2).trans ((Below.heap_alloc w7 _ b (by omega)).trans ?_)
    exact (g7.block b (by rw [World.size_alloc]; omega) h1).trans (Below.heap_alloc W _ b hb)
  have kv : ∀ {x : Value} {y : List Int}, VRep (KD g vs ls) W x y → VRep (KD g vs' ls') w8 x y := fun h =>
    (vrep_bound h).keep (fun b h => ⟨h.1.1, hne7 b h.2 h.1.2.1, hne8 b h.2 h.1.2.2⟩) fun b h _ => hkeep b h.2 h.1.2.1 h.1.2.2
  have ks : ∀ {x : Value} {y : List Value}, SlV (KD g vs ls) W x y → SlV (KD g vs' ls') w8 x y := fun h =>
    (h.bound.keep fun b h _ => hkeep b h.2 h.1.2.1 h.1.2.2).mono fun b h => ⟨h.1.1, hne7 b h.2 h.1.2.1, hne8 b h.2 h.1.2.2⟩
  obtain ⟨hv, hls, hall, hg1, hg2⟩ := H
  have o7' : w8.ownsRow w.heap.size 26 4 vs' (hist.length + 1) ((hist.flatMap fun h => h.1.cells.toList) ++ v.cells.toList) := by
    refine (o7.alloc _).kept g8 ?_
    cases hl : vs'.ownBlock with
    | none => exact .inl rfl
    | some k =>
      refine .inr fun e => ?_
      obtain ⟨c1, h1⟩ := own_typed o7 k hl
      have hklt : k < W.heap.size := own_lt hls k e.symm
      obtain ⟨c2, h2⟩ := own_typed hls k e.symm
      by_cases hkv : some k = vs.ownBlock
      · obtain ⟨c3, h3⟩ := own_typed hv k hkv.symm
        rw [h2] at h3
        injection h3 with h3
        injection h3 with _ h3
        exact absurd h3 (by decide)
      · have := (g7.block k (by rw [World.size_alloc]; omega) hkv).trans (Below.heap_alloc W _ k hklt)
        rw [h1, h2] at this
        injection this with this
        injection this with _ this
        exact absurd this (by decide)
  refine ⟨⟨?_, ?_, ?_, hne7 g hwg hg1, hne8 g hwg hg2⟩, kv hV, ks hS, hkeep g hwg hg1 hg2, ?_⟩
  · rw [List.length_append, List.flatMap_append]; simpa using o7'
  · rw [List.length_append, List.map_append]; exact o8
  · intro h hh
    rcases List.mem_append.1 hh with hh | hh
    · obtain ⟨h1, h2, h3⟩ := hall h hh
      exact ⟨kv h1, ks h2, h3⟩
    · obtain rfl := List.mem_singleton.1 hh
      exact ⟨kv hV, ks hS, hl⟩
  · have h1 : Below w.heap.size w w7 := (hB.alloc hB.size _).grown g7 (by rw [World.size_alloc]; have := hB.size; omega) fun k hk => own_base hv k hk
    exact (h1.alloc h1.size _).grown g8 (by rw [World.size_alloc]; have := h1.size; omega) fun k hk => own_base hls k hk

theorem Hist.below {w : World} {g : Nat} {vs ls : Value} {hist : List Past} {W W' : World} (H : Hist w g vs ls hist W) (hb : Below W.heap.size W W') : Hist w g vs ls hist W' := by
  obtain ⟨hv, hls, hall, h1, h2⟩ := H
  exact ⟨own_move hv fun k hk => hb.block k (own_lt hv k hk), own_move hls fun k hk => hb.block k (own_lt hls k hk), fun h hh => ⟨(hall h hh).1.below hb, (hall h hh).2.1.below hb, (hall h hh).2.2⟩, h1, h2⟩

theorem Hist.far {w : World} {g : Nat} {vs ls : Value} {hist : List Past} {W : World} (H : Hist w g vs ls hist W) (i : Nat) (u : Value) : Hist w g vs ls hist (W.setCell ⟨g, i, none⟩ u) := by
  obtain ⟨hv, hls, hall, h1, h2⟩ := H
  have hn : ¬ KD g vs ls g := fun h => h.1 rfl
  exact ⟨own_move hv fun k hk => Below.heap_setCell W ⟨g, i, none⟩ u k (fun e => h1 (by rw [hk, e])), own_move hls fun k hk => Below.heap_setCell W ⟨g, i, none⟩ u k (fun e => h2 (by rw [hk, e])), fun h hh => ⟨vrep_far (hall h hh).1 g i u hn, slv_far (hall h hh).2.1 g i u hn, (hall h hh).2.2⟩, h1, h2⟩

theorem Hist.fresh {w : World} {g : Nat} {vs ls : Value} {hist : List Past} {W : World} (H : Hist w g vs ls hist W) (hg : g < W.heap.size) {b : Nat} (hb : W.heap.size ≤ b) : KD g vs ls b := by
  refine ⟨by omega, fun e => ?_, fun e => ?_⟩
  · have := own_lt H.1 b e.symm; omega
  · have := own_lt H.2.1 b e.symm; omega

/-- behind an operation and the store of what came of it -/
theorem does_stored {w : World} {g : Nat} {vs ls : Value} {hist : List Past} {wr : World} (H : Hist w g vs ls hist wr) (hB : Below w.heap.size w wr) (hw : w.heap.size ≤ g) (o : Obj) {x0 x1 x2 x3 : Value} (hb0 : wr.heap[g]? = some (.cells #[x0, x1, x2, x3] VT (0, 0)))
    {w5 : World} (hb : Below wr.heap.size wr w5) {n L : Int} {p A : Option Addr} {m c : Nat} {s : Value} {l : List Int} (hV : VRep (New (KD g vs ls) (wr.alloc o)) w5 (vec n L p (.slice A m c)) l) (hS : SlV (New (KD g vs ls) (wr.alloc o)) w5 s (ints l)) :
    Hist w g vs ls hist (put4w w5 g (.int .i64 n) (.int .i64 L) (.pointer p) (.slice A m c)) ∧ VRep (KD g vs ls) (put4w w5 g (.int .i64 n) (.int .i64 L) (.pointer p) (.slice A m c)) (vec n L p (.slice A m c)) l ∧ SlV (KD g vs ls) (put4w w5 g (.int .i64 n) (.int .i64 L) (.pointer p) (.slice A m c)) s (ints l) ∧
      (put4w w5 g (.int .i64 n) (.int .i64 L) (.pointer p) (.slice A m c)).heap[g]? = some (.cells #[.int .i64 n, .int .i64 L, .pointer p, .slice A m c] VT (0, 0)) ∧ Below w.heap.size w (put4w w5 g (.int .i64 n) (.int .i64 L) (.pointer p) (.slice A m c)) := by
  have hg := blk_lt hb0
  have hk : ∀ b, New (KD g vs ls) (wr.alloc o) b → KD g vs ls b := fun b h => h.elim id fun h => H.fresh hg (by rw [World.size_alloc] at h; omega)
  have hn : ¬ KD g vs ls g := fun h => h.1 rfl
  have h5 := H.below hb
  refine ⟨(((h5.far 0 _).far 1 _).far 2 _).far 3 _, vrep_far (vrep_far (vrep_far (vrep_far (hV.mono hk) _ _ _ hn) _ _ _ hn) _ _ _ hn) _ _ _ hn, slv_far (slv_far (slv_far (slv_far (hS.mono hk) _ _ _ hn) _ _ _ hn) _ _ _ hn) _ _ _ hn, put4 (blk_below hb0 hb), ?_⟩
  have := below_trans hB hb
  exact (((this.setCell hw _).setCell hw _).setCell hw _).setCell hw _
end Go.Proofs.Ytmoakgacffjblaa.Pv
