/- The rope of things. -/
import Derived.Test.YtcjpdjecgeenfaaRoL
import Derived.Test.YtcjpdjecgeenfaaWMore
set_option linter.unusedVariables false
set_option linter.unusedSimpArgs false
namespace Go.Proofs.Ytcjpdjecgeenfaa.Ro
open Go Go.RowKit Go.Proofs.Ytcjpdjecgeenfaa.Mem Go.Proofs.YtcjpdjecgeenfaaW.PrintWords Go.Proofs.YtcjpdjecgeenfaaW.PrintMore
attribute [local go_sem] min2_int min_two

/-- what holds at each round's head -/
def OfI (w : World) (xs : List Int) (k : Nat) (v4 : Value) (wr : World) : Prop :=
  ∃ (j : Nat) (q : Option Addr), v4 = .int .i64 (j : Int) ∧ ((k = 0 ∧ xs.length ≤ j) ∨ (1 ≤ k ∧ j + 16 * (k - 1) < xs.length ∧ xs.length ≤ j + 16 * k)) ∧ j ≤ xs.length + 16 ∧ wr.heap[w.heap.size]? = some (.cells #[.pointer none] RT (0, 0)) ∧ wr.heap[w.heap.size + 1]? = some (.cells #[.pointer q] RT (0, 0)) ∧
    Tree (Off (fun _ => False) w 2) wr q (xs.take j) ∧ Below w.heap.size w wr

set_option maxHeartbeats 8000000 in
/-- THE ROPE OF THINGS. -/
theorem of_c (K : Nat → Prop) (v : Value) (xs : List Int) (w : World) (h : SlV K w v (ints xs)) (hl : xs.length ≤ 1000000) :
    Calls Try.prog 9 #[v] w (Ret (fun u w' => RopeV (Fresh w) w' u xs) w) := by
  obtain ⟨A, n, cap, rfl⟩ := h.form
  obtain rfl : n = xs.length := by have := h.len; simpa using this
  have HS := Lib.hid h; clear h
  have hlI : (xs.length : Int) ≤ 1000000 := by omega
  go_enter Try.func9, Try.ntmps9
  go_wp2_with fail
  go_loopg [4] ((xs.length + 15) / 16) (fun k v4 wr => Aside (OfI w xs k v4 wr))
  case atStart =>
    show OfI _ _ _ _ _
    exact ⟨0, none, rfl, by omega, by omega, blk_alloc (blk_new w _) _, heap_k1 w _ _, Or.inl ⟨rfl, by simp⟩, by go_grown⟩
  case round =>
    obtain ⟨j, q, rfl, hk, hj16, B0, B1, hT, hB⟩ := hrel.out
    clear hrel
    have HB0 := Lib.hid B0; clear B0
    have HBR := Lib.hid B1; clear B1
    have HTR := Lib.hid hT; clear hT
    obtain ⟨k0, f0⟩ := box1 HB0.out
    obtain ⟨k1, f1⟩ := box1 HBR.out
    have hjb : (j : Int) ≤ 1000016 := by omega
    have hj0 : (0 : Int) ≤ (j : Int) := by omega
    have HN := Lib.hid (show w.heap.size + 2 ≤ wr.heap.size from blk_lt HBR.out)
    cases gk with
    | zero =>
      have hjn : ¬ (j : Int) < (xs.length : Int) := by omega
      have HJN := Lib.hid (show xs.length ≤ j by omega)
      clear hk
      go_wp2_with fail
      refine bodyPost_ret (results_c1 rfl _ _ w.heap.size RT #[.pointer q] (0, 0) _ rfl (blk_put HB0.out 0 _ rfl) Try.underlying25 rfl (by kernel_rfl)) rfl ?_
      refine ⟨_, rfl, ⟨q, rfl, ?_⟩, by go_grown⟩
      have := (tree_far HTR.out w.heap.size 0 (.pointer q) (by rintro (h | h) <;> omega)).mono (K' := Fresh w) fun b h => h.elim (fun h => absurd h.1 id) fun h => by show w.heap.size ≤ b; omega
      rwa [List.take_of_length_le HJN.out] at this
    | succ k =>
      have hjl : j < xs.length := by omega
      have hjn : (j : Int) < (xs.length : Int) := by omega
      obtain ⟨ad, rfl, -⟩ := HS.out.addr (by simp; omega)
      have hcap : xs.length ≤ cap := by obtain ⟨_, _, e, h3, _⟩ := HS.out; injection e with _ _ e3; subst e3; simpa using h3
      have hcj : ¬ cap = j := by omega
      obtain ⟨j16, hj16e⟩ : ∃ j16 : Nat, j16 = j + 16 := ⟨_, rfl⟩
      have hc5 : IntKind.i64.wrap ((j : Int) + 16) = (j16 : Int) := by rw [IntKind.wrap_i64]; omega
      have hnc : (xs.length : Int) ≤ (cap : Int) := by omega
      clear k0 f0 k1 f1
      go_wp2_with fail
      by_cases hlt : xs.length < j16
      · have hltI : (xs.length : Int) < (j16 : Int) := by omega
        have ht := (HS.out.below hB).take xs.length (by rw [List.length_map]; omega)
        have hd := ht.drop j (by rw [List.length_take, List.length_map]; omega)
        rw [← List.map_take, ← List.map_drop] at hd
        obtain ⟨ys, hys⟩ : ∃ ys, ys = (xs.take xs.length).drop j := ⟨_, rfl⟩
        rw [← hys] at hd
        
        have hyl : ys.length = xs.length - j := by rw [hys, List.length_drop, List.length_take]; omega
        have htk : xs.take (j + 16) = xs.take j ++ ys := by
          rw [hys, List.drop_take]
          have h1 : xs.take (j + 16) = xs.take xs.length := by rw [List.take_of_length_le (by omega), List.take_of_length_le (Nat.le_refl _)]
          rw [h1]
          have h2 := List.take_append_drop j (xs.take xs.length)
          rw [List.take_take, Nat.min_eq_left (by omega), List.drop_take] at h2
          exact h2.symm
        have HTK := Lib.hid htk
        have HBO := Lib.hid (fun W (hw : Below wr.heap.size wr W) => both_int' (some (ad.add j)) (xs.length - j) (cap - j) (ints ys) none 0 0 [] W K (fun _ => False) (hd.below hw) (SlV.nil _ W) (by simp; omega) (by simp))
        have HYN := Lib.hid (show ys ≠ [] from List.ne_nil_of_length_pos (by omega))
        have HYT := Lib.hid (show Top 0 ys.length from ⟨by omega, by omega, Or.inl rfl⟩)
        have HJL := Lib.hid (show (xs.take j ++ ys).length ≤ 1000000 by rw [List.length_append, List.length_take]; omega)
        clear ht hd hys hyl htk
        have HW := Lib.hid (Below.drew (Below.refl wr.heap.size wr))
        have hse : (j : Int) ≤ (xs.length : Int) := by omega
        have hec : (xs.length : Int) ≤ (cap : Int) := by omega
        have HT := Lib.hid (HTR.out.below HW.out)
        have HBX := Lib.hid (blk_below HBR.out HW.out)
        obtain ⟨kx, fx⟩ := box1 HBX.out
        go_region_with (first
          | (go_at_call 28; (with_reducible refine (HBO.out _ HW.out).mono ?_); rintro e wx ⟨v, rfl, hO, hbx⟩; obtain ⟨Aa, na, ca, rfl⟩ := hO.slv.form; have HSa := Lib.hid (hO.slv.mono (K' := Fresh wr) fun b h => Nat.le_trans HW.out.size h); clear hO HBO; (try replace HSa := Lib.hid (HSa.out.below hbx)); (try replace HRa := Lib.hid (HRa.out.below hbx)); (try replace HT := Lib.hid (HT.out.below hbx)); replace HBX := Lib.hid (blk_below HBX.out hbx); have HW := Lib.hid (below_trans HW.out hbx); (try clear kx fx); obtain ⟨kx, fx⟩ := box1 HBX.out; clear hbx)
          | (go_at_call 27; (with_reducible refine (leaf_some _ _ _ _ ys _ (by have := HSa.out; simpa using this) HYN.out).mono ?_); rintro e wx ⟨v, rfl, ⟨pa, rfl, hr⟩, hbx⟩; clear HSa; have HRa := Lib.hid (show Tree (Off (fun _ => False) w 2) wx pa ys from Or.inr ⟨0, _, hr.mono (K' := Off (fun _ => False) w 2) fun b h => Or.inr (h.elim (Nat.le_trans HN.out) fun h => Nat.le_trans HN.out (Nat.le_trans HW.out.size h)), HYT.out⟩); clear hr; (try replace HSa := Lib.hid (HSa.out.below hbx)); (try replace HRa := Lib.hid (HRa.out.below hbx)); (try replace HT := Lib.hid (HT.out.below hbx)); replace HBX := Lib.hid (blk_below HBX.out hbx); have HW := Lib.hid (below_trans HW.out hbx); (try clear kx fx); obtain ⟨kx, fx⟩ := box1 HBX.out; clear hbx)
          | (go_at_call 26; (with_reducible refine (join_off (fun _ => False) w 2 _ _ (xs.take j) ys _ (Nat.le_trans HN.out HW.out.size) HT.out HRa.out HJL.out).mono ?_); rintro e wx ⟨v, rfl, ⟨pr, rfl, hr⟩, hbx⟩; clear HRa HT; have HT := Lib.hid hr; clear hr; (try replace HSa := Lib.hid (HSa.out.below hbx)); (try replace HRa := Lib.hid (HRa.out.below hbx)); (try replace HT := Lib.hid (HT.out.below hbx)); replace HBX := Lib.hid (blk_below HBX.out hbx); have HW := Lib.hid (below_trans HW.out hbx); (try clear kx fx); obtain ⟨kx, fx⟩ := box1 HBX.out; clear hbx)
          | fail)
        all_goals
          go_wp2_with fail
          go_roundg k
          case measure => omega
          case rel =>
            show OfI _ _ _ _ _
            have hb0 := below_trans hB HW.out
            refine ⟨j + 16, pr, by first | rfl | (push_cast; rfl), by omega, by omega, blk_far (blk_below HB0.out HW.out) (by show w.heap.size ≠ w.heap.size + 1; omega) _, blk_put HBX.out 0 _ rfl, ?_, hb0.setCell (by show w.heap.size ≤ w.heap.size + 1; omega) _⟩
            rw [HTK.out]
            exact tree_far HT.out (w.heap.size + 1) 0 (.pointer pr) (by rintro (h | h) <;> omega)

      · have hltI : ¬ (xs.length : Int) < (j16 : Int) := by omega
        have ht := (HS.out.below hB).take j16 (by rw [List.length_map]; omega)
        have hd := ht.drop j (by rw [List.length_take, List.length_map]; omega)
        rw [← List.map_take, ← List.map_drop] at hd
        obtain ⟨ys, hys⟩ : ∃ ys, ys = (xs.take j16).drop j := ⟨_, rfl⟩
        rw [← hys] at hd
        rw [show j16 - j = 16 from by omega] at hd
        have hyl : ys.length = j16 - j := by rw [hys, List.length_drop, List.length_take]; omega
        have htk : xs.take (j + 16) = xs.take j ++ ys := by
          rw [hys, List.drop_take]
          have h1 : xs.take (j + 16) = xs.take j16 := by rw [show j16 = j + 16 from by omega]
          rw [h1]
          have h2 := List.take_append_drop j (xs.take j16)
          rw [List.take_take, Nat.min_eq_left (by omega), List.drop_take] at h2
          exact h2.symm
        have HTK := Lib.hid htk
        have HBO := Lib.hid (fun W (hw : Below wr.heap.size wr W) => both_int' (some (ad.add j)) 16 (cap - j) (ints ys) none 0 0 [] W K (fun _ => False) (hd.below hw) (SlV.nil _ W) (by simp; omega) (by simp))
        have HYN := Lib.hid (show ys ≠ [] from List.ne_nil_of_length_pos (by omega))
        have HYT := Lib.hid (show Top 0 ys.length from ⟨by omega, by omega, Or.inl rfl⟩)
        have HJL := Lib.hid (show (xs.take j ++ ys).length ≤ 1000000 by rw [List.length_append, List.length_take]; omega)
        clear ht hd hys hyl htk
        have HW := Lib.hid (Below.drew (Below.refl wr.heap.size wr))
        have hse : (j : Int) ≤ (j16 : Int) := by omega
        have hec : (j16 : Int) ≤ (cap : Int) := by omega
        have HT := Lib.hid (HTR.out.below HW.out)
        have HBX := Lib.hid (blk_below HBR.out HW.out)
        obtain ⟨kx, fx⟩ := box1 HBX.out
        go_region_with (first
          | (go_at_call 28; (with_reducible refine (HBO.out _ HW.out).mono ?_); rintro e wx ⟨v, rfl, hO, hbx⟩; obtain ⟨Aa, na, ca, rfl⟩ := hO.slv.form; have HSa := Lib.hid (hO.slv.mono (K' := Fresh wr) fun b h => Nat.le_trans HW.out.size h); clear hO HBO; (try replace HSa := Lib.hid (HSa.out.below hbx)); (try replace HRa := Lib.hid (HRa.out.below hbx)); (try replace HT := Lib.hid (HT.out.below hbx)); replace HBX := Lib.hid (blk_below HBX.out hbx); have HW := Lib.hid (below_trans HW.out hbx); (try clear kx fx); obtain ⟨kx, fx⟩ := box1 HBX.out; clear hbx)
          | (go_at_call 27; (with_reducible refine (leaf_some _ _ _ _ ys _ (by have := HSa.out; simpa using this) HYN.out).mono ?_); rintro e wx ⟨v, rfl, ⟨pa, rfl, hr⟩, hbx⟩; clear HSa; have HRa := Lib.hid (show Tree (Off (fun _ => False) w 2) wx pa ys from Or.inr ⟨0, _, hr.mono (K' := Off (fun _ => False) w 2) fun b h => Or.inr (h.elim (Nat.le_trans HN.out) fun h => Nat.le_trans HN.out (Nat.le_trans HW.out.size h)), HYT.out⟩); clear hr; (try replace HSa := Lib.hid (HSa.out.below hbx)); (try replace HRa := Lib.hid (HRa.out.below hbx)); (try replace HT := Lib.hid (HT.out.below hbx)); replace HBX := Lib.hid (blk_below HBX.out hbx); have HW := Lib.hid (below_trans HW.out hbx); (try clear kx fx); obtain ⟨kx, fx⟩ := box1 HBX.out; clear hbx)
          | (go_at_call 26; (with_reducible refine (join_off (fun _ => False) w 2 _ _ (xs.take j) ys _ (Nat.le_trans HN.out HW.out.size) HT.out HRa.out HJL.out).mono ?_); rintro e wx ⟨v, rfl, ⟨pr, rfl, hr⟩, hbx⟩; clear HRa HT; have HT := Lib.hid hr; clear hr; (try replace HSa := Lib.hid (HSa.out.below hbx)); (try replace HRa := Lib.hid (HRa.out.below hbx)); (try replace HT := Lib.hid (HT.out.below hbx)); replace HBX := Lib.hid (blk_below HBX.out hbx); have HW := Lib.hid (below_trans HW.out hbx); (try clear kx fx); obtain ⟨kx, fx⟩ := box1 HBX.out; clear hbx)
          | fail)
        all_goals
          go_wp2_with fail
          go_roundg k
          case measure => omega
          case rel =>
            show OfI _ _ _ _ _
            have hb0 := below_trans hB HW.out
            refine ⟨j + 16, pr, by first | rfl | (push_cast; rfl), by omega, by omega, blk_far (blk_below HB0.out HW.out) (by show w.heap.size ≠ w.heap.size + 1; omega) _, blk_put HBX.out 0 _ rfl, ?_, hb0.setCell (by show w.heap.size ≤ w.heap.size + 1; omega) _⟩
            rw [HTK.out]
            exact tree_far HT.out (w.heap.size + 1) 0 (.pointer pr) (by rintro (h | h) <;> omega)
end Go.Proofs.Ytcjpdjecgeenfaa.Ro
