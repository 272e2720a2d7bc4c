/- What All gives; all things of a rope, in new memory. -/
import Derived.RangeFuncNested
import Derived.RangeFuncBound
import Derived.RangeFuncCalls
import Derived.RangeFuncLeaves
import Derived.Shelf.Abstract
import Derived.Shelf.RegionOpen
import Derived.WalkKit
import Derived.OwnWalkIn
import Derived.TacticsInMore
import Derived.LoopNIn
import Derived.LoopIn
import Derived.Maps.AppendAt
import Derived.RangeFuncWrites
import Derived.RangeFuncBox
import Derived.Test.YtcjpdjecgeenfaaRoW
set_option linter.unusedVariables false
set_option linter.unusedSimpArgs false
namespace Go.Proofs.Ytcjpdjecgeenfaa.Ro
open Go Go.RowKit Go.Shelf Go.Proofs.Ytcjpdjecgeenfaa.Mem Go.Proofs.YtcjpdjecgeenfaaW.PrintWords

attribute [local go_sem] Oper.semAt_some

/-- what the function that All gives comes to -/
def AllP (J Jx : List (Int × Int) → World → Prop) (zs : List (Int × Int)) (e : Ending) (W' : World) : Prop :=
  (∃ v, e = .returned v) ∧ ((∃ ys, ys = zs ∧ J ys W') ∨ (∃ pre, pre <+: zs ∧ Jx pre W'))

set_option maxRecDepth 100000 in
set_option maxHeartbeats 4000000 in
theorem all1_c (K : Nat → Prop) (l Bn n : Nat) (p : Option Addr) (xs : List Int) (J Jx : List (Int × Int) → World → Prop) (hY : Rounds K l xs.length J Jx) (W : World)
    (hKB : K Bn) (hbox : W.heap[Bn]? = some (.cells #[.pointer p] RT (0, 0))) (hV : Tree K W p xs) (h0 : J [] W) (hl : xs.length ≤ 1000000) :
    CallsIn Fence.wide n Try.prog 29 #[.func (.yield l) #[] #[], .pointer (some ⟨Bn, 0, none⟩)] W (AllP J Jx (idx 0 xs)) := by
  obtain ⟨k0, f0⟩ := box1 hbox
  rcases hV with ⟨rfl, rfl⟩ | ⟨d, c, hr, ht⟩
  · have HJ := Lib.hid h0; clear h0 hY hbox hl
    refine callsIn_of_wp Try.func29 rfl trivial ?_ rfl
    simp only [Try.ntmps29, List.size_toArray, List.length_cons, List.length_nil, Nat.reduceAdd, Nat.reduceSub, Array.replicate_succ, Array.replicate_zero, List.push_toArray, List.append_toArray, List.nil_append, List.cons_append]
    gi_wp2
    go_end0
    exact ⟨⟨_, rfl⟩, .inl ⟨[], rfl, HJ.out⟩⟩
  · obtain ⟨g, a0, b0, rfl, -, -⟩ := hr.head
    have hE : CallsIn Fence.wide (n - 1) Try.prog 30 #[.pointer (some ⟨g, 0, none⟩), .int .i64 0, .func (.yield l) #[] #[]] W (Gone K J Jx [] (idx 0 xs) W) := each_c K l xs.length J Jx hY d (n - 1) _ c xs 0 [] W hr ht.2.1 h0 (by simp) (by omega)
    have HE := Lib.hid hE; clear hE hr ht h0 hY hbox hl
    refine callsIn_of_wp Try.func29 rfl trivial ?_ rfl
    simp only [Try.ntmps29, List.size_toArray, List.length_cons, List.length_nil, Nat.reduceAdd, Nat.reduceSub, Array.replicate_succ, Array.replicate_zero, List.push_toArray, List.append_toArray, List.nil_append, List.cons_append]
    gi_wp2_with fail
    refine ⟨trivial, fun h => (Bool.false_ne_true h).elim, HE.out.mono ?_⟩
    rintro e W1 (⟨rfl, hJ1, hB1⟩ | ⟨rfl, q, hq, hJx1⟩)
    · have HJ := Lib.hid hJ1; clear hJ1
      gi_wp2
      go_end0
      exact ⟨⟨_, rfl⟩, .inl ⟨_, rfl, by simpa using HJ.out⟩⟩
    · have HJ := Lib.hid hJx1; clear hJx1
      have HQ := Lib.hid hq; clear hq
      gi_wp2
      go_end0
      exact ⟨⟨_, rfl⟩, .inr ⟨_, HQ.out, by simpa using HJ.out⟩⟩

set_option maxHeartbeats 1000000 in
theorem all_in (p : Option Addr) (w : World) :
    Calls Try.prog 11 #[rope p] w fun e w' => e = .returned (.func (.func 29) #[] #[.pointer (some ⟨w.heap.size, 0, none⟩)]) ∧ w' = w.alloc (.cells #[.pointer p] RT) := by
  have hmf : ∀ (fn : Fn) (first cap : Array Value) (w : World), (Instr.makeFunc fn first cap).run Try.prog w = .ok (.func fn first cap) w := fun _ _ _ _ => rfl
  go_enter Try.func11, Try.ntmps11
  go_wp2
  go_ret
  exact ⟨rfl, rfl⟩

/-- WHAT All GIVES STOPS: all things with their places, or as many as were wanted. -/
theorem all_stops (K : Nat → Prop) (Bn n : Nat) (p : Option Addr) (xs : List Int) (w : World) (hlt : ∀ b, K b → b < w.heap.size) (hKB : K Bn)
    (hbox : w.heap[Bn]? = some (.cells #[.pointer p] RT (0, 0))) (hV : Tree K w p xs) (hl : xs.length ≤ 1000000) :
    SeqStopsK Fence.wide n Try.prog 29 #[.pointer (some ⟨Bn, 0, none⟩)] (fun x : Int × Int => #[Value.int .i64 x.1, Value.int .i64 x.2]) (Kept K) (fun zs => zs = idx 0 xs) (fun pre => pre <+: idx 0 xs) xs.length w := fun l J Jx W hW hA _ hY h0 =>
  all1_c K l Bn n p xs J Jx (fun mm pre x W1 hj hl => YieldAt.anyDepth rfl mm (hY pre x W1 hj hl)) W hKB ((hW.block Bn (hlt Bn hKB)).trans hbox) (hV.below hW) h0 hl

/-- a row's block is no block of another type -/
theorem not_row4 {W : World} {B : Nat} {t e : TypeId} {cs : Array Value} (h : W.heap[B]? = some (.cells cs t (0, 0))) (hte : t ≠ e) {base size k : Nat} {v : Value} {xs : List Value} (hr : W.ownsRow base e size v k xs) : some B ≠ v.ownBlock := by
  rcases hr.2 with ⟨rfl, _⟩ | ⟨g, cap, cur, rfl, _, hgb, _⟩
  · simp [Value.ownBlock]
  · intro e'
    obtain rfl : B = g := by simpa [Value.ownBlock] using e'
    have := h.symm.trans hgb
    simp at this
    exact hte this.2

theorem idx_vals (a : Nat) (xs : List Int) : (idx a xs).map (fun x => Value.int .i64 x.2) = ints xs := by
  induction xs generalizing a with
  | nil => rfl
  | cons x xs ih => show _ :: (idx (a + 1) xs).map _ = _ :: _; rw [ih]

set_option maxRecDepth 100000 in
set_option maxHeartbeats 4000000 in
theorem list_f (K : Nat → Prop) (p : Option Addr) (xs : List Int) (w : World) (hV : Tree K w p xs) (hK : ∀ b, K b → b < w.heap.size) (hl : xs.length ≤ 1000000) (n : Nat) (hn : 3 ≤ n) :
    CallsIn Fence.wide n Try.prog 12 #[rope p] w fun e W' => ∃ v, e = .returned v ∧ W'.ownsRow w.heap.size 3 1 v xs.length (ints xs) ∧ Below w.heap.size w W' := by
  have h1 : 1 ≤ n := by omega
  obtain ⟨i0, hi, hz0, hz1, hz2⟩ := info_parts info_int
  obtain ⟨N, hN⟩ : ∃ N : Nat, N = xs.length := ⟨_, rfl⟩
  have hN6 : N ≤ 1000000 := by omega
  have hmk : ∀ W, (Instr.makeSlice 27 (.int .i64 0) (.int .i64 (N : Int))).run Try.prog W = .ok (.slice (some ⟨W.heap.size, 0, none⟩) 0 N) (W.alloc (.cells (Array.replicate N (.int .i64 0)) 3)) := by
    intro W
    have := run_make (P := Try.prog) W 27 3 i0 (.int .i64 0) Try.underlying27 hi hz0 .i64 .i64 0 (N : Int) (by omega) (by omega) (by rw [hz2]; omega) (by omega)
    rw [hz1, Nat.mul_one, show Value.cells (.int .i64 0) = #[.int .i64 0] from rfl, madeCells_one] at this
    simpa using this
  have HLn := Lib.hid (fun W (hw : Below w.heap.size w W) => (show Calls Try.prog 21 #[rope p] W (Ret (fun v _ => v = .int .i64 (N : Int)) W) from by rw [hN]; exact len_c K p xs W (hV.below hw)))
  have HN := Lib.hid hN; clear hN
  have HV := Lib.hid hV; clear hV
  have HK := Lib.hid hK; clear hK
  refine callsIn_of_wp_marks Try.func12 rfl trivial ?_ rfl
  simp only [Try.ntmps12, List.size_toArray, List.length_cons, List.length_nil, Nat.reduceAdd, Nat.reduceSub, Array.replicate_succ, Array.replicate_zero, List.push_toArray, List.append_toArray, List.nil_append, List.cons_append]
  gi_wp2_with fail
  refine ⟨trivial, (callsIn_wide.2 (HLn.out _ (by go_grown))).mono ?_⟩
  rintro e wL ⟨v, rfl, rfl, hb1⟩
  have hB1 : Below w.heap.size w wL := below_trans (by go_grown) hb1
  have BA : wL.heap[w.heap.size]? = some (.cells #[.pointer p] RT (0, 0)) := (hb1.block _ (by simp)).trans (blk_new w _)
  obtain ⟨ka, fa⟩ := box1 BA
  have ka2 : ((wL.alloc (.cells (Array.replicate N (.int .i64 0)) 3)).alloc (.cells #[.slice (some ⟨wL.heap.size, 0, none⟩) 0 N] 27)).cell? ⟨w.heap.size, 0, none⟩ = some (.pointer p) := cell_below ka (((Below.refl _ _).alloc (Nat.le_refl _) _).alloc (by simp) _)
  have HBA := Lib.hid BA; clear BA hb1
  gi_wp2_with fail
  refine ⟨trivial, (callsIn_wide.2 (all_in p _)).mono ?_⟩
  rintro e w' ⟨rfl, rfl⟩
  gi_wp2_with fail
  obtain ⟨W4, hW4⟩ : ∃ W4, (((wL.alloc (.cells (Array.replicate N (.int .i64 0)) 3)).alloc (.cells #[.slice (some ⟨wL.heap.size, 0, none⟩) 0 N] 27)).alloc (.cells #[.pointer p] RT)) = W4 := ⟨_, rfl⟩
  have hs1 : w.heap.size < wL.heap.size := blk_lt HBA.out
  have hs4 : W4.heap.size = wL.heap.size + 1 + 1 + 1 := by rw [← hW4]; simp
  have hB4 : Below w.heap.size w W4 := by rw [← hW4]; exact ((hB1.alloc hB1.size _).alloc (by simp; omega) _).alloc (by simp; omega) _
  have hbox4 : W4.heap[wL.heap.size + 1 + 1]? = some (.cells #[.pointer p] RT (0, 0)) := by rw [← hW4]; exact heap_k2 wL _ _ _
  have hout4 : Boxed W4 (wL.heap.size + 1) 27 (.slice (some ⟨wL.heap.size, 0, none⟩) 0 N) := by rw [← hW4]; exact blk_alloc (heap_k1 wL _ _) _
  have hrow4 : W4.ownsRow w.heap.size 3 1 (.slice (some ⟨wL.heap.size, 0, none⟩) 0 N) 0 [] := by
    rw [← hW4]
    have h := World.ownsRow_made (base := w.heap.size) (e := 3) (size := 1) wL (Array.replicate N (.int .i64 0)) N (by omega) (by simp [maxLen]; omega) (by simp)
    exact (h.alloc _).alloc _
  have hV4 : Tree (fun b => K b ∨ b = wL.heap.size + 1 + 1) W4 p xs := (HV.out.below hB4).mono fun _ h => Or.inl h
  have hlt4 : ∀ b, (K b ∨ b = wL.heap.size + 1 + 1) → b < W4.heap.size := fun b h => h.elim (fun h => by have := HK.out b h; omega) (fun h => by omega)
  refine' wpIn_rangeFunc_ownG rfl h1 (gf := 29) (lb := #[.pointer (some ⟨wL.heap.size + 1 + 1, 0, none⟩)]) rfl trivial (enters_of Try.func29 (by kernel_rfl) rfl)
    (all_stops (fun b => K b ∨ b = wL.heap.size + 1 + 1) (wL.heap.size + 1 + 1) (n - 1) p xs W4 hlt4 (Or.inr rfl) hbox4 hV4 (by have := HN.out; omega)) (fun h k => Kept.trans h k) ?kb ?b0 (fun _ => rfl)
    (fun pre W => ((∃ v, Boxed W (wL.heap.size + 1) 27 v ∧ W.ownsRow w.heap.size 3 1 v pre.length (pre.map fun x => Value.int .i64 x.2) ∧ True) ∧ Below w.heap.size w W) ∧ W.heap[wL.heap.size + 1 + 1]? = some (.cells #[.pointer p] RT (0, 0)))
    (fun _ _ _ => False) ?hI (fun _ _ _ _ _ hs _ _ => hs) ?h0
    _ ?assign ?body ?done ?stop
  case kb =>
    intro W l o o' hl _ _ _ b hb
    have hb4 := hlt4 b hb
    have hne : b ≠ l := by rw [hW4] at hl; omega
    simp [World.putObj, Array.getElem?_setIfInBounds_ne (Ne.symm hne)]
  case b0 => rw [hW4]; exact Below.refl _ _
  case h0 => rw [hW4]; exact ⟨⟨⟨_, hout4, by simpa using hrow4, trivial⟩, hB4⟩, hbox4⟩
  case assign =>
    intro l x W K hK
    gi_wp2
    exact hK
  case stop =>
    rintro D c pre W _ _ h _
    exact h.elim
  case hI =>
    refine OwnFrom.and (OwnFrom.and (Own.from (holdsRow_own w.heap.size (wL.heap.size + 1) 27 3 1 (fun pre : List (Int × Int) => pre.length) (fun pre => pre.map fun x => Value.int .i64 x.2) (fun _ _ => True)) _) (ownFrom_below (Nat.le_refl _) (by rw [hW4]; omega))) ?_
    intro s X Y row hs hg hr
    exact (hg.block _ (blk_lt hs) (fun e => by have := (hr _ e.symm).1; rw [hW4] at this; omega)).trans hs
  case done =>
    rintro D zs W hD rfl ⟨⟨⟨v, hv, hrow, _⟩, hB⟩, _⟩ hK
    have hc := hv.cell
    gi_wp2
    refine ⟨by simp, .inl ⟨_, _, rfl, run_takeDeferred hK, ?_⟩⟩
    refine ⟨_, results_tmp rfl _ _ _, v, rfl, ?_, hB.trans (belowK_b (w := w) (Nat.le_refl _) W D _ _ (by rw [hW4] at hD; omega) hK rfl rfl)⟩
    have h2 := ownsRow_putObj hrow (.deferred none) hK rfl
    rw [idx_length, idx_vals] at h2
    exact h2
  case body =>
    rintro l pre x W ⟨⟨⟨v, hv, hrow, _⟩, hB⟩, hbx⟩ hlt
    have hc := hv.cell
    have hpl : pre.length < 1000000 := by have := HN.out; omega
    gi_wp2_with (gi_at_builtin; refine wpListIn_append_own _ rfl _ _ 27 rfl w.heap.size 3 i0 (.int .i64 0) 1 8 Try.underlying27 hi hz0 hz1 hz2 rfl (by decide) _ _ _ rfl (hrow.alloc _) ⟨W.heap.size, 0, none⟩ 1 1 [.int .i64 x.2] rfl rfl (cell_one_new _ _ _) (by simp [Value.oneCell']) (by simp [maxLen]; omega) (by omega) (by have := hB.size; simp; omega) ?_; intro v' w1 hown' hgrow _; obtain ⟨g', cap', rfl⟩ := ownsRow_succ hown'; obtain ⟨hv1, hv2, hr2, hk2, hb2⟩ := hv.appended (by decide) hrow hB.size (by omega) hown' hgrow; have hc1 := hv1.cell; have hf1 := hv1.frozen)
    have hk3 : (w1.setCell ⟨wL.heap.size + 1, 0, none⟩ (.slice (some ⟨g', 0, none⟩) (pre.length + 1) cap')).heap[wL.heap.size + 1 + 1]? = W.heap[wL.heap.size + 1 + 1]? := by
      rw [Below.heap_setCell _ _ _ _ (by simp)]
      exact (hgrow.block _ (by rw [World.size_alloc]; have := blk_lt hbx; omega) (not_row4 hbx (by decide) hrow)).trans (Below.heap_alloc W _ _ (blk_lt hbx))
    exact ⟨hk2.from _, fun b hb => hb.elim (fun h => hb2.block b (HK.out b h)) (fun h => by rw [h]; exact hk3), ⟨⟨_, hv2, by simpa using hr2, trivial⟩, hB.trans hb2⟩, hk3.trans hbx⟩
end Go.Proofs.Ytcjpdjecgeenfaa.Ro
