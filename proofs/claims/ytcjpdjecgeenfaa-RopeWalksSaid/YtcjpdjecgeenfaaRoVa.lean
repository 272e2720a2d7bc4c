/- The rope of sixteen things is one leaf. -/
import Derived.Test.YtcjpdjecgeenfaaRoV
set_option linter.unusedVariables false
set_option linter.unusedSimpArgs false
namespace Go.Proofs.Ytcjpdjecgeenfaa.Ro
open Go Go.RowKit Go.Proofs.Ytcjpdjecgeenfaa.Mem Go.Proofs.YtcjpdjecgeenfaaW.PrintWords Go.Proofs.YtcjpdjecgeenfaaW.PrintMore
attribute [local go_sem] min2_int min_two

theorem join_none (q : Option Addr) (w : World) :
    Calls Try.prog 26 #[.pointer none, .pointer q] w (Ret (fun v w' => v = .pointer q) w) := by
  go_enter Try.func26, Try.ntmps26
  go_wp2
  go_returns
  exact ⟨_, rfl, rfl, Below.refl _ _⟩

/-- what holds at each round's head -/
def OfS (w : World) (xs : List Int) (k : Nat) (v4 : Value) (wr : World) : Prop :=
  ∃ (j : Nat) (q : Option Addr), v4 = .int .i64 (j : Int) ∧ ((k = 1 ∧ j = 0 ∧ q = none) ∨ (k = 0 ∧ j = 16 ∧ RRep (Off (fun _ => False) w 2) wr 0 q 16 xs)) ∧ wr.heap[w.heap.size]? = some (.cells #[.pointer none] RT (0, 0)) ∧ wr.heap[w.heap.size + 1]? = some (.cells #[.pointer q] RT (0, 0)) ∧ Below w.heap.size w wr

set_option maxHeartbeats 8000000 in
/-- THE ROPE OF SIXTEEN THINGS. -/
theorem of_16 (K : Nat → Prop) (v : Value) (xs : List Int) (w : World) (h : SlV K w v (ints xs)) (hl : xs.length = 16) :
    Calls Try.prog 9 #[v] w (Ret (fun u w' => ∃ p, u = rope p ∧ RRep (Fresh w) w' 0 p 16 xs) w) := by
  obtain ⟨A, n, cap, rfl⟩ := h.form
  obtain rfl : n = xs.length := by have := h.len; simpa using this
  have HS := Lib.hid h; clear h
  have hlI : (xs.length : Int) = 16 := by omega
  go_enter Try.func9, Try.ntmps9
  go_wp2_with fail
  go_loopg [4] 1 (fun k v4 wr => Aside (OfS w xs k v4 wr))
  case atStart =>
    show OfS _ _ _ _ _
    exact ⟨0, none, rfl, Or.inl ⟨rfl, rfl, rfl⟩, blk_alloc (blk_new w _) _, heap_k1 w _ _, by go_grown⟩
  case round =>
    obtain ⟨j, q, rfl, hk, B0, B1, hB⟩ := hrel.out
    clear hrel
    have HB0 := Lib.hid B0; clear B0
    have HBR := Lib.hid B1; clear B1
    have HN := Lib.hid (show w.heap.size + 2 ≤ wr.heap.size from blk_lt HBR.out)
    cases gk with
    | zero =>
      obtain ⟨k0, f0⟩ := box1 HB0.out
      obtain ⟨k1, f1⟩ := box1 HBR.out
      obtain ⟨rfl, hr⟩ : j = 16 ∧ RRep (Off (fun _ => False) w 2) wr 0 q 16 xs := by rcases hk with h | h; exact absurd h.1 (by omega); exact h.2
      have HR := Lib.hid hr; clear hr hk
      go_wp2_with fail
      refine bodyPost_ret (results_c1 rfl _ _ w.heap.size RT #[.pointer q] (0, 0) _ rfl (blk_put HB0.out 0 _ rfl) Try.underlying25 rfl (by kernel_rfl)) rfl ?_
      refine ⟨_, rfl, ⟨q, rfl, ?_⟩, by go_grown⟩
      exact HR.out.keep (K' := Fresh w) (fun b h _ => h.elim (fun h => absurd h.1 id) fun h => by show w.heap.size ≤ b; omega) fun b hb _ => Below.heap_setCell wr ⟨w.heap.size, 0, none⟩ _ b (by show b ≠ w.heap.size; rcases hb with h | h <;> omega)
    | succ k =>
      obtain ⟨rfl, hj0, rfl⟩ : k = 0 ∧ j = 0 ∧ q = none := by rcases hk with h | h; exact ⟨by omega, h.2⟩; exact absurd h.1 (by omega)
      clear hk
      have hjl : j < xs.length := by omega
      have hjn : (j : Int) < (xs.length : Int) := by omega
      obtain ⟨ad, rfl, -⟩ := HS.out.addr (by simp; omega)
      have hcap : xs.length ≤ cap := by obtain ⟨_, _, e, h3, _⟩ := HS.out; injection e with _ _ e3; subst e3; simpa using h3
      have hcj : ¬ cap = j := by omega
      have hnc : (xs.length : Int) ≤ (cap : Int) := by omega
      have hjb : (j : Int) ≤ 1000016 := by omega
      have hj0I : (0 : Int) ≤ (j : Int) := by omega
      obtain ⟨j16, hj16e⟩ : ∃ j16 : Nat, j16 = j + 16 := ⟨_, rfl⟩
      have hc5 : IntKind.i64.wrap ((j : Int) + 16) = (j16 : Int) := by rw [IntKind.wrap_i64]; omega
      go_wp2_with fail
      have hltI : ¬ (xs.length : Int) < (j16 : Int) := by omega
      have ht := (HS.out.below hB).take 16 (by rw [List.length_map]; omega)
      have hd := ht.drop j (by rw [List.length_take, List.length_map]; omega)
      have hx0 : ((ints xs).take 16).drop j = ints xs := by rw [hj0, List.drop_zero, List.take_of_length_le (by rw [List.length_map]; omega)]
      rw [hx0, show 16 - j = 16 from by omega] at hd
      have HBO := Lib.hid (fun W (hw : Below wr.heap.size wr W) => both_int' (some (ad.add j)) 16 (cap - j) (ints xs) none 0 0 [] W K (fun _ => False) (hd.below hw) (SlV.nil _ W) (by simp; omega) (by simp))
      have HYN := Lib.hid (show xs ≠ [] from List.ne_nil_of_length_pos (by omega))
      have HXL := Lib.hid hl
      have HJ0 := Lib.hid hj0
      clear ht hd hx0
      have HW := Lib.hid (Below.drew (Below.refl wr.heap.size wr))
      have hse : (j : Int) ≤ (j16 : Int) := by omega
      have hec : (j16 : Int) ≤ (cap : Int) := by omega
      have HBX := Lib.hid (blk_below HBR.out HW.out)
      obtain ⟨kx, fx⟩ := box1 HBX.out
      clear hj0 hl hlI
      go_region_with (first
        | (go_at_call 28; (with_reducible refine (HBO.out _ HW.out).mono ?_); rintro e wx ⟨v, rfl, hO, hbx⟩; obtain ⟨Aa, na, ca, rfl⟩ := hO.slv.form; have HSa := Lib.hid (hO.slv.mono (K' := Fresh wr) fun b h => Nat.le_trans HW.out.size h); clear hO HBO; (try replace HSa := Lib.hid (HSa.out.below hbx)); (try replace HRa := Lib.hid (HRa.out.below hbx)); replace HBX := Lib.hid (blk_below HBX.out hbx); have HW := Lib.hid (below_trans HW.out hbx); (try clear kx fx); obtain ⟨kx, fx⟩ := box1 HBX.out; clear hbx)
        | (go_at_call 27; (with_reducible refine (leaf_some _ _ _ _ xs _ (by have := HSa.out; simpa using this) HYN.out).mono ?_); rintro e wx ⟨v, rfl, ⟨pa, rfl, hr⟩, hbx⟩; clear HSa; have HRa := Lib.hid (show RRep (Off (fun _ => False) w 2) wx 0 pa xs.length xs from hr.mono (K' := Off (fun _ => False) w 2) fun b h => Or.inr (h.elim (Nat.le_trans HN.out) fun h => Nat.le_trans HN.out (Nat.le_trans HW.out.size h))); clear hr; (try replace HSa := Lib.hid (HSa.out.below hbx)); (try replace HRa := Lib.hid (HRa.out.below hbx)); replace HBX := Lib.hid (blk_below HBX.out hbx); have HW := Lib.hid (below_trans HW.out hbx); (try clear kx fx); obtain ⟨kx, fx⟩ := box1 HBX.out; clear hbx)
        | (go_at_call 26; (with_reducible refine (join_none _ _).mono ?_); rintro e wx ⟨v, rfl, rfl, hbx⟩; (try replace HSa := Lib.hid (HSa.out.below hbx)); (try replace HRa := Lib.hid (HRa.out.below hbx)); replace HBX := Lib.hid (blk_below HBX.out hbx); have HW := Lib.hid (below_trans HW.out hbx); (try clear kx fx); obtain ⟨kx, fx⟩ := box1 HBX.out; clear hbx)
        | fail)
      all_goals
        go_wp2_with fail
        go_roundg 0
        case measure => omega
        case rel =>
          show OfS _ _ _ _ _
          have hb0 := below_trans hB HW.out
          refine ⟨j + 16, pa, by first | rfl | (push_cast; rfl), Or.inr ⟨rfl, by rw [HJ0.out], ?_⟩, blk_far (blk_below HB0.out HW.out) (by show w.heap.size ≠ w.heap.size + 1; omega) _, blk_put HBX.out 0 _ rfl, hb0.setCell (by show w.heap.size ≤ w.heap.size + 1; omega) _⟩
          have := HRa.out.keep (w' := World.setCell _ ⟨w.heap.size + 1, 0, none⟩ (.pointer pa)) (fun _ h _ => h) fun b hb _ => Below.heap_setCell _ ⟨w.heap.size + 1, 0, none⟩ (.pointer pa) b (by show b ≠ w.heap.size + 1; rcases hb with h | h <;> omega)
          rw [HXL.out] at this
          exact this
end Go.Proofs.Ytcjpdjecgeenfaa.Ro
