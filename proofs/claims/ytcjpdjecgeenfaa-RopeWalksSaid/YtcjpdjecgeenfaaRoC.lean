/- A node over kids. -/
import Derived.Test.YtcjpdjecgeenfaaRoB
set_option linter.unusedVariables false
set_option linter.unusedSimpArgs false
namespace Go.Proofs.Ytcjpdjecgeenfaa.Ro
open Go Go.RowKit Go.Proofs.Ytcjpdjecgeenfaa.Mem Go.Proofs.YtcjpdjecgeenfaaW.PrintWords

theorem wrap_mid (a : Int) (h0 : 0 ≤ a) (h1 : a ≤ 1000000000000) : wrap64 a = a := by unfold wrap64; omega

set_option maxHeartbeats 1000000 in
theorem inner_nil (A : Option Addr) (c : Nat) (w : World) :
    Calls Try.prog 36 #[.slice A 0 c] w (Ret (fun v _ => v = .pointer none) w) := by
  go_enter Try.func36, Try.ntmps36
  go_wp2
  go_returns
  exact ⟨_, rfl, rfl, Below.refl _ _⟩

set_option maxHeartbeats 1000000 in
theorem inner_one (K : Nat → Prop) (A : Option Addr) (n c : Nat) (q : Option Addr) (w : World) (h : SlV K w (.slice A n c) [.pointer q]) :
    Calls Try.prog 36 #[.slice A n c] w (Ret (fun v _ => v = .pointer q) w) := by
  obtain rfl : n = 1 := h.len
  obtain ⟨ad, rfl, hc⟩ := h.addr (by simp)
  have c0 : w.cell? ad = some (.pointer q) := by have := hc 0 (.pointer q) rfl; simpa [Addr.add] using this
  clear h hc
  go_enter Try.func36, Try.ntmps36
  go_wp2
  go_returns
  exact ⟨_, rfl, rfl, Below.refl _ _⟩

/-- what holds at each round's head -/
def InnI (w : World) (d : Nat) (s : Value) (ks : List Kid) (k : Nat) (v27 : Value) (wr : World) : Prop :=
  ∃ j m : Nat, v27 = .int .i64 (j : Int) ∧ j + k = ks.length ∧ m = (things (ks.take j)).length ∧ wr.heap[w.heap.size]? = some (.cells #[.int .i64 (m : Int), .int .i64 ((d : Int) + 2), s, .slice none 0 0] 64 (0, 0)) ∧ Below w.heap.size w wr

set_option maxHeartbeats 4000000 in
theorem inner_many (K : Nat → Prop) (d : Nat) (A : Option Addr) (n c : Nat) (ks : List Kid) (w : World) (h : SlV K w (.slice A n c) (ptrs ks)) (hk : ∀ k ∈ ks, RRep K w d k.1 k.2.1 k.2.2 ∧ 8 ≤ k.2.1 ∧ k.2.1 ≤ 16) (h2 : 2 ≤ ks.length) (hl : ks.length ≤ 1000) (hd : d ≤ 100) (ht : (things ks).length ≤ 1000000) :
    Calls Try.prog 36 #[.slice A n c] w (Ret (fun v w' => ∃ p, v = .pointer p ∧ RRep (New K w) w' (d + 1) p ks.length (things ks)) w) := by
  obtain rfl : n = ks.length := by have := h.len; simpa using this
  obtain ⟨ad, rfl, hc⟩ := h.addr (by simp; omega)
  have hn0 : ((ks.length : Int) == 0) = false := beq_false_of_ne (by omega)
  have hn1 : ((ks.length : Int) == 1) = false := beq_false_of_ne (by omega)
  obtain ⟨k0, hk0⟩ : ∃ k0, ks[0]? = some k0 := ⟨_, List.getElem?_eq_getElem (by omega)⟩
  obtain ⟨g0, a0, b0, e0, hg0, B0⟩ := (hk k0 (List.mem_of_getElem? hk0)).1.head
  have c0 : w.cell? ad = some (.pointer (some ⟨g0, 0, none⟩)) := by have := hc 0 (.pointer k0.1) (by simp [hk0]); rw [e0] at this; simpa [Addr.add] using this
  have d0 : w.cell? ⟨g0, 1, none⟩ = some (.int .i64 ((d : Int) + 1)) := blk_cell B0 1
  clear B0 hg0 e0 hk0
  have HC := Lib.hid hc; clear hc
  have HK := Lib.hid hk; clear hk
  have H := Lib.hid h; clear h
  have HT := Lib.hid ht; clear ht
  have hlI : (ks.length : Int) ≤ 1000 := by omega
  have hdI : (d : Int) ≤ 100 := by omega
  go_enter Try.func36, Try.ntmps36
  go_wp2_with fail
  go_loopg [27] ks.length (fun k v27 wr => Aside (InnI w d (.slice (some ad) ks.length c) ks k v27 wr))
  case atStart =>
    show InnI _ _ _ _ _ _ _
    refine ⟨0, 0, rfl, by omega, rfl, ?_, by go_grown⟩
    have := blk_new w (.cells #[.int .i64 0, .int .i64 ((d : Int) + 1 + 1), .slice (some ad) ks.length c, .slice none 0 0] 64)
    rw [show (d : Int) + 1 + 1 = (d : Int) + 2 by omega] at this
    first | exact this | (rw [show (d : Int) + 1 + 1 = (d : Int) + 2 by omega]; exact this)
  case round =>
    obtain ⟨j, m, rfl, hj, hm, B, hB⟩ := hrel.out
    have HM := Lib.hid hm; clear hm
    clear hrel
    obtain ⟨⟨q0, q1, q2, q3⟩, f0, f1, f2, f3⟩ := box4 B
    have HB := Lib.hid B; clear B
    cases gk with
    | zero =>
      obtain rfl : j = ks.length := by omega
      clear hj
      go_wp2_with fail
      go_returns
      have hB0 := HB.out
      rw [HM.out, List.take_length] at hB0
      exact ⟨_, rfl, ⟨_, rfl, w.heap.size, _, ks, rfl, New.fresh (Nat.le_refl _), hB0, (H.out.mono fun b h => New.old h).below hB, fun k hk => ⟨((HK.out k hk).1.mono fun b h => New.old h).below hB, (HK.out k hk).2⟩, rfl, rfl⟩, hB⟩
    | succ k =>
      have hjl : j < ks.length := by omega
      have hjI : (j : Int) < (ks.length : Int) := by omega
      obtain ⟨kid, hkid⟩ : ∃ kid, ks[j]? = some kid := ⟨_, List.getElem?_eq_getElem hjl⟩
      obtain ⟨g1, a1, b1, e1, hg1, B1⟩ := (HK.out kid (List.mem_of_getElem? hkid)).1.head
      have c1 : wr.cell? (ad.add j) = some (.pointer (some ⟨g1, 0, none⟩)) := by have := HC.out j (.pointer kid.1) (by simp [hkid]); rw [e1] at this; exact cell_below this hB
      obtain ⟨l1, hl1⟩ : ∃ l1 : Nat, l1 = kid.2.2.length := ⟨_, rfl⟩
      have d1 : wr.cell? ⟨g1, 0, none⟩ = some (.int .i64 (l1 : Int)) := by rw [hl1]; exact cell_below (blk_cell B1 0) hB
      have hne : g1 ≠ w.heap.size := by have := blk_lt B1; omega
      have htk : things (ks.take (j + 1)) = things (ks.take j) ++ kid.2.2 := by rw [List.take_add_one, hkid]; show List.flatMap _ _ = _; rw [List.flatMap_append]; simp
      have hsum : (things (ks.take (j + 1))).length ≤ 1000000 := by
        have h1 : things ks = things (ks.take (j + 1)) ++ things (ks.drop (j + 1)) := by show List.flatMap _ ks = _; rw [← List.flatMap_append, List.take_append_drop]
        have h2 := congrArg List.length h1
        rw [List.length_append] at h2
        have := HT.out
        omega
      rw [htk, List.length_append] at hsum
      rw [← HM.out, ← hl1] at hsum
      have hsI : (m : Int) + (l1 : Int) ≤ 1000000 := by omega
      have HTK := Lib.hid htk
      have HL1 := Lib.hid hl1
      clear htk hl1 hsum B1 hg1 e1 hkid
      go_wp2_with fail
      have hws : IntKind.i64.wrap ((m : Int) + (l1 : Int)) = (m : Int) + (l1 : Int) := by rw [IntKind.wrap_i64]; omega
      go_region
      all_goals
        clear hws
        go_wp2_with fail
        go_roundg k
        case measure => omega
        case rel =>
          show InnI _ _ _ _ _ _ _
          exact ⟨j + 1, m + l1, by first | rfl | (push_cast; rfl), by omega, by rw [HTK.out, List.length_append, HM.out, HL1.out], by first | exact blk_put HB.out 0 _ rfl | (push_cast; exact blk_put HB.out 0 _ rfl), Below.drew (Below.setCell (p := ⟨w.heap.size, 0, none⟩) hB (by exact Nat.le_refl w.heap.size) _)⟩
end Go.Proofs.Ytcjpdjecgeenfaa.Ro
