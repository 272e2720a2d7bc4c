/- The contracts of both: two lists, one behind the other, in new memory. Conditions: at most a million things each. -/
import Derived.Test.YtcjpdjecgeenfaaProg
import Derived.Test.YtcjpdjecgeenfaaMem2
set_option linter.unusedVariables false
set_option linter.unusedSimpArgs false
namespace Go.Proofs.Ytcjpdjecgeenfaa.Ro
open Go Go.RowKit Go.Proofs.Ytcjpdjecgeenfaa.Mem Go.Proofs.YtcjpdjecgeenfaaW.PrintWords

/-- a list in memory of the call's own -/
def OwnR (e : TypeId) (base : Nat) (w : World) (v : Value) (xs : List Value) : Prop := w.ownsRow base e 1 v xs.length xs ∧ ∀ u ∈ xs, u.oneCell' = true
theorem OwnR.slv {e : TypeId} {base : Nat} {w : World} {v : Value} {xs : List Value} (h : OwnR e base w v xs) : SlV (fun b => base ≤ b) w v xs := slv_of_row h.1 h.2

theorem info_int : (Try.prog.info? 3).map (fun i => (i.zero, i.size, i.bytes)) = some (some (.int .i64 0), 1, 8) := by kernel_rfl

set_option maxHeartbeats 2000000 in
theorem both_int' (A : Option Addr) (n c : Nat) (xs : List Value) (A' : Option Addr) (n' c' : Nat) (ys : List Value) (w : World) (K K' : Nat → Prop) (h : SlV K w (.slice A n c) xs) (h' : SlV K' w (.slice A' n' c') ys) (hn : xs.length ≤ 1000000) (hn' : ys.length ≤ 1000000) :
    Calls Try.prog 28 #[.slice A n c, .slice A' n' c'] w (Ret (fun v w' => OwnR 3 w.heap.size w' v (xs ++ ys)) w) := by
  obtain rfl := h.len
  obtain rfl := h'.len
  obtain ⟨i0, hi, hz0, hz1, hz2⟩ := info_parts info_int
  have hmk : ∀ W, (Instr.makeSlice 27 (.int .i64 0) (.int .i64 ((xs.length : Int) + (ys.length : Int)))).run Try.prog W = .ok (.slice (some ⟨W.heap.size, 0, none⟩) 0 (xs.length + ys.length)) (W.alloc (.cells (Array.replicate (xs.length + ys.length) (.int .i64 0)) 3)) := by
    intro W
    have := run_make (P := Try.prog) W 27 3 i0 (.int .i64 0) Try.underlying27 hi hz0 .i64 .i64 0 ((xs.length : Int) + (ys.length : Int)) (by omega) (by omega) (by rw [hz2]; omega) (by omega)
    rw [hz1, Nat.mul_one, show Value.cells (.int .i64 0) = #[(.int .i64 0)] from rfl, madeCells_one] at this
    rw [show ((xs.length : Int) + (ys.length : Int)).toNat = xs.length + ys.length by omega] at this
    simpa using this
  clear hi hz0 hz1 hz2 i0
  have hrow : (w.alloc (.cells (Array.replicate (xs.length + ys.length) (.int .i64 0)) 3)).ownsRow w.heap.size 3 1 (.slice (some ⟨w.heap.size, 0, none⟩) 0 (xs.length + ys.length)) 0 [] :=
    World.ownsRow_made (base := w.heap.size) (e := 3) (size := 1) w (Array.replicate (xs.length + ys.length) (.int .i64 0)) (xs.length + ys.length) (Nat.le_refl _) (by simp [maxLen]; omega) (by simp)
  have hba : Below w.heap.size w (w.alloc (.cells (Array.replicate (xs.length + ys.length) (.int .i64 0)) 3)) := (Below.refl _ _).alloc (Nat.le_refl _) _
  have hx1 := h.below hba
  have hx2 := h'.bound.below hba
  have HR := Lib.hid hrow; clear hrow
  have HX := Lib.hid hx1; clear hx1
  have HY := Lib.hid hx2; clear hx2
  have h1x := Lib.hid h.one
  have h1y := Lib.hid h'.one
  clear h h'
  have HBA := Lib.hid hba; clear hba
  go_enter Try.func28, Try.ntmps28
  go_wp2_with (first
    | (at_builtin; refine wpList_append_slv rfl (.tmp 12) (.tmp 13) 27 3 (.int .i64 0) 8 rfl Try.underlying27 info_int rfl (by decide) w.heap.size (.slice (some ⟨w.heap.size, 0, none⟩) 0 (xs.length + ys.length)) 0 [] xs A xs.length c (fun b => K b) rfl rfl HR.out HX.out ?a1 ?a2 ?_; (case a1 => exact HBA.out.size); (case a2 => omega); intro v1 w1 hown1 hg1 hat1; have hb1 := below_grown HBA.out hg1 HR.out (Nat.le_refl _); have HO1 := Lib.hid hown1; have HB1 := Lib.hid hb1; have HYW := Lib.hid (HY.out.keep fun b hb hlt => hg1.block b hlt (by simp [Value.ownBlock]; have := hb.2; omega)); clear hown1 hg1 hat1 hb1)
    | (at_builtin; refine wpList_append_slv rfl (.tmp 14) (.tmp 15) 27 3 (.int .i64 0) 8 rfl Try.underlying27 info_int rfl (by decide) w.heap.size v1 (0 + xs.length) ([] ++ xs) ys A' ys.length c' (fun b => K' b ∧ b < w.heap.size) rfl rfl HO1.out HYW.out HB1.out.size ?b2 ?_; (case b2 => omega); intro v2 w2 hown2 hg2 hat2; have hb2 := below_grown HB1.out hg2 HO1.out (Nat.le_refl _)))
  go_returns
  refine ⟨_, rfl, ⟨?_, fun u hu => (List.mem_append.1 hu).elim (h1x.out u) (h1y.out u)⟩, hb2⟩
  rw [List.length_append]
  simpa using hown2
theorem info_ptr : (Try.prog.info? 23).map (fun i => (i.zero, i.size, i.bytes)) = some (some (.pointer none), 1, 8) := by kernel_rfl

set_option maxHeartbeats 2000000 in
theorem both_ptr' (A : Option Addr) (n c : Nat) (xs : List Value) (A' : Option Addr) (n' c' : Nat) (ys : List Value) (w : World) (K K' : Nat → Prop) (h : SlV K w (.slice A n c) xs) (h' : SlV K' w (.slice A' n' c') ys) (hn : xs.length ≤ 1000000) (hn' : ys.length ≤ 1000000) :
    Calls Try.prog 47 #[.slice A n c, .slice A' n' c'] w (Ret (fun v w' => OwnR 23 w.heap.size w' v (xs ++ ys)) w) := by
  obtain rfl := h.len
  obtain rfl := h'.len
  obtain ⟨i0, hi, hz0, hz1, hz2⟩ := info_parts info_ptr
  have hmk : ∀ W, (Instr.makeSlice 62 (.int .i64 0) (.int .i64 ((xs.length : Int) + (ys.length : Int)))).run Try.prog W = .ok (.slice (some ⟨W.heap.size, 0, none⟩) 0 (xs.length + ys.length)) (W.alloc (.cells (Array.replicate (xs.length + ys.length) (.pointer none)) 23)) := by
    intro W
    have := run_make (P := Try.prog) W 62 23 i0 (.pointer none) Try.underlying62 hi hz0 .i64 .i64 0 ((xs.length : Int) + (ys.length : Int)) (by omega) (by omega) (by rw [hz2]; omega) (by omega)
    rw [hz1, Nat.mul_one, show Value.cells (.pointer none) = #[(.pointer none)] from rfl, madeCells_one] at this
    rw [show ((xs.length : Int) + (ys.length : Int)).toNat = xs.length + ys.length by omega] at this
    simpa using this
  clear hi hz0 hz1 hz2 i0
  have hrow : (w.alloc (.cells (Array.replicate (xs.length + ys.length) (.pointer none)) 23)).ownsRow w.heap.size 23 1 (.slice (some ⟨w.heap.size, 0, none⟩) 0 (xs.length + ys.length)) 0 [] :=
    World.ownsRow_made (base := w.heap.size) (e := 23) (size := 1) w (Array.replicate (xs.length + ys.length) (.pointer none)) (xs.length + ys.length) (Nat.le_refl _) (by simp [maxLen]; omega) (by simp)
  have hba : Below w.heap.size w (w.alloc (.cells (Array.replicate (xs.length + ys.length) (.pointer none)) 23)) := (Below.refl _ _).alloc (Nat.le_refl _) _
  have hx1 := h.below hba
  have hx2 := h'.bound.below hba
  have HR := Lib.hid hrow; clear hrow
  have HX := Lib.hid hx1; clear hx1
  have HY := Lib.hid hx2; clear hx2
  have h1x := Lib.hid h.one
  have h1y := Lib.hid h'.one
  clear h h'
  have HBA := Lib.hid hba; clear hba
  go_enter Try.func47, Try.ntmps47
  go_wp2_with (first
    | (at_builtin; refine wpList_append_slv rfl (.tmp 12) (.tmp 13) 62 23 (.pointer none) 8 rfl Try.underlying62 info_ptr rfl (by decide) w.heap.size (.slice (some ⟨w.heap.size, 0, none⟩) 0 (xs.length + ys.length)) 0 [] xs A xs.length c (fun b => K b) rfl rfl HR.out HX.out ?a1 ?a2 ?_; (case a1 => exact HBA.out.size); (case a2 => omega); intro v1 w1 hown1 hg1 hat1; have hb1 := below_grown HBA.out hg1 HR.out (Nat.le_refl _); have HO1 := Lib.hid hown1; have HB1 := Lib.hid hb1; have HYW := Lib.hid (HY.out.keep fun b hb hlt => hg1.block b hlt (by simp [Value.ownBlock]; have := hb.2; omega)); clear hown1 hg1 hat1 hb1)
    | (at_builtin; refine wpList_append_slv rfl (.tmp 14) (.tmp 15) 62 23 (.pointer none) 8 rfl Try.underlying62 info_ptr rfl (by decide) w.heap.size v1 (0 + xs.length) ([] ++ xs) ys A' ys.length c' (fun b => K' b ∧ b < w.heap.size) rfl rfl HO1.out HYW.out HB1.out.size ?b2 ?_; (case b2 => omega); intro v2 w2 hown2 hg2 hat2; have hb2 := below_grown HB1.out hg2 HO1.out (Nat.le_refl _)))
  go_returns
  refine ⟨_, rfl, ⟨?_, fun u hu => (List.mem_append.1 hu).elim (h1x.out u) (h1y.out u)⟩, hb2⟩
  rw [List.length_append]
  simpa using hown2
end Go.Proofs.Ytcjpdjecgeenfaa.Ro
