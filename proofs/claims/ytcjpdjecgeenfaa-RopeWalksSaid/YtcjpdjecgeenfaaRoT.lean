/- A rope's depth; the thing at a place. -/
import Derived.Test.YtcjpdjecgeenfaaRoS
set_option linter.unusedVariables false
set_option linter.unusedSimpArgs false
namespace Go.Proofs.Ytcjpdjecgeenfaa.Ro
open Go Go.RowKit Go.Proofs.Ytcjpdjecgeenfaa.Mem Go.Proofs.YtcjpdjecgeenfaaW.PrintWords

set_option maxHeartbeats 1000000 in
theorem depth_c (K : Nat → Prop) (p : Option Addr) (xs : List Int) (w : World) (h : Tree K w p xs) (hl : xs.length ≤ 1000000) :
    Calls Try.prog 17 #[rope p] w (Ret (fun v _ => ∃ n : Nat, v = .int .i64 (n : Int) ∧ n ≤ 7 ∧ ((n = 0 ∧ xs = []) ∨ ∃ d c, n = d + 1 ∧ RRep K w d p c xs ∧ Top d c)) w) := by
  rcases h with ⟨rfl, rfl⟩ | ⟨d, c, h, ht⟩
  · go_enter Try.func17, Try.ntmps17
    go_wp2
    go_returns
    exact ⟨_, rfl, ⟨0, rfl, by omega, Or.inl ⟨rfl, by trivial⟩⟩, by go_grown⟩
  · have hd6 := h.deep ht hl
    have H := Lib.hid h
    obtain ⟨g, a0, b0, rfl, -, hg⟩ := h.head
    have hlt := blk_lt hg
    have dn : w.cell? ⟨g, 1, none⟩ = some (.int .i64 ((d : Int) + 1)) := blk_cell hg 1
    have dn' : (w.alloc (.cells #[.pointer (some ⟨g, 0, none⟩)] RT)).cell? ⟨g, 1, none⟩ = some (.int .i64 ((d : Int) + 1)) := cell_below dn ((Below.refl _ _).alloc (Nat.le_refl _) _)
    have HT := Lib.hid ht
    clear h ht hg
    go_enter Try.func17, Try.ntmps17
    go_wp2
    go_returns
    exact ⟨_, rfl, ⟨d + 1, by push_cast; rfl, by omega, Or.inr ⟨d, c, rfl, H.out, HT.out⟩⟩, by go_grown⟩

set_option maxHeartbeats 2000000 in
theorem get_out (K : Nat → Prop) (p : Option Addr) (xs : List Int) (i : Int) (w : World) (h : Tree K w p xs) (hi : i < 0 ∨ (xs.length : Int) ≤ i) :
    Calls Try.prog 18 #[rope p, .int .i64 i] w (Ret (fun v _ => v = .tuple #[.int .i64 0, .bool false]) w) := by
  have HH := Lib.hid (fun W (hw : Below w.heap.size w W) => has_no K p xs i W (h.below hw) hi)
  clear h
  go_enter Try.func18, Try.ntmps18
  go_wp2_with (go_at_call 33; ((with_reducible refine (HH.out _ (by go_grown)).mono ?_); rintro e w1 ⟨v, rfl, rfl, hb1⟩; have hB1 : Below w.heap.size w w1 := below_trans (by go_grown) hb1))
  go_returns
  exact ⟨_, rfl, rfl, hB1⟩

/-- what holds at each round's head: the thing lies below this node -/
def GetI (W : World) (K : Nat → Prop) (xs : List Int) (m : Nat) (d : Nat) (v1 v7 : Value) (wr : World) : Prop :=
  W = wr ∧ ∃ (q : Option Addr) (c : Nat) (ys : List Int) (j : Nat), v7 = .pointer q ∧ v1 = .int .i64 (j : Int) ∧ RRep K W d q c ys ∧ c ≤ 16 ∧ j < ys.length ∧ ys.length ≤ 1000000 ∧ ys[j]? = xs[m]?

set_option maxHeartbeats 8000000 in
/-- THE THING AT A PLACE. -/
theorem get_in (K : Nat → Prop) (p : Option Addr) (xs : List Int) (m : Nat) (x : Int) (w : World) (h : Tree K w p xs) (hx : xs[m]? = some x) (hl : xs.length ≤ 1000000) :
    Calls Try.prog 18 #[rope p, .int .i64 (m : Int)] w (Ret (fun v _ => v = .tuple #[.int .i64 x, .bool true]) w) := by
  have hm : m < xs.length := (List.getElem?_eq_some_iff.1 hx).1
  have HH := Lib.hid (fun W (hw : Below w.heap.size w W) => has_yes K p xs (m : Int) W (h.below hw) (by omega) (by omega))
  have HX := Lib.hid hx; clear hx
  rcases h with ⟨rfl, rfl⟩ | ⟨d0, c0, h, ht⟩
  · simp at hm
  have hd6 := h.deep ht hl
  have HM := Lib.hid (show m < xs.length ∧ xs.length ≤ 1000000 from ⟨hm, hl⟩)
  have HR := Lib.hid (show RRep K w d0 p c0 xs ∧ c0 ≤ 16 from ⟨h, ht.2.1⟩)
  clear h ht hm hl
  go_enter Try.func18, Try.ntmps18
  go_wp2_with (go_at_call 33; ((with_reducible refine (HH.out _ (by go_grown)).mono ?_); rintro e W ⟨v, rfl, rfl, hb1⟩; have B0 : W.heap[w.heap.size]? = some (.cells #[.pointer p] RT (0, 0)) := (hb1.block _ (by simp)).trans (blk_new w _); obtain ⟨bc0, bf0⟩ := box1 B0; have hB1 : Below w.heap.size w W := below_trans (by go_grown) hb1; clear B0 hb1))
  have HBW := Lib.hid hB1; clear hB1
  go_loopg [1, 7, 8] d0 (fun k v1 v7 v8 wr => Aside (GetI W K xs m k v1 v7 wr))
  case atStart =>
    show GetI _ _ _ _ _ _ _ _
    exact ⟨rfl, p, c0, xs, m, rfl, rfl, HR.out.1.below HBW.out, HR.out.2, HM.out.1, HM.out.2, rfl⟩
  case round =>
    obtain ⟨rfl, q, c, ys, jm, rfl, rfl, hr, hc, hjm, hyl, hyx⟩ := hrel.out
    have HYX := Lib.hid hyx; clear hyx
    clear hrel
    cases gk with
    | zero =>
      obtain ⟨g, s, rfl, hK, hg, hs, rfl⟩ := hr
      obtain ⟨A, n, cap, rfl⟩ := hs.form
      obtain rfl : n = ys.length := by have := hs.len; simpa using this
      obtain ⟨ad, rfl, hcell⟩ := hs.addr (by simp; omega)
      have dd : W.cell? ⟨g, 1, none⟩ = some (.int .i64 1) := blk_cell hg 1
      have k3 : W.cell? ⟨g, 3, none⟩ = some (.slice (some ad) ys.length cap) := blk_cell hg 3
      have cx : W.cell? (ad.add jm) = some (.int .i64 x) := hcell jm (.int .i64 x) (by rw [List.getElem?_map, HYX.out, HX.out]; rfl)
      have hjI : (jm : Int) < (ys.length : Int) := by omega
      clear hs hcell hg hK
      go_wp2_with fail
      go_returns
      exact ⟨_, rfl, rfl, HBW.out⟩
    | succ d =>
      obtain ⟨g, s, ks, rfl, hK, hg, hs, hks, rfl, rfl⟩ := hr
      obtain ⟨A, n, cap, rfl⟩ := hs.form
      obtain rfl : n = ks.length := by have := hs.len; simpa using this
      have hks0 : 0 < ks.length := List.length_pos_iff.2 (by rintro rfl; simp [things] at hjm)
      obtain ⟨ad, rfl, hcell⟩ := hs.addr (by simpa using hks0)
      have dd : W.cell? ⟨g, 1, none⟩ = some (.int .i64 ((d : Int) + 2)) := blk_cell hg 1
      have k2 : W.cell? ⟨g, 2, none⟩ = some (.slice (some ad) ks.length cap) := blk_cell hg 2
      have hd2 : (1 : Int) < (d : Int) + 2 := by omega
      have HM := Lib.hid (show jm < (things ks).length ∧ (things ks).length ≤ 1000000 from ⟨hjm, hyl⟩)
      have HC := Lib.hid hcell
      have HKS := Lib.hid hks
      clear hs hcell hks hg hK hjm hyl
      go_wp2_with fail
      go_loopg [1, 8] ks.length (fun k v1 v8 wr => Aside (FindI W ks jm k v1 v8 wr))
      case atStart =>
        show FindI _ _ _ _ _ _ _
        exact ⟨rfl, 0, jm, rfl, rfl, by omega, by simp [things]⟩
      case round =>
        obtain ⟨rfl, j, mi, rfl, rfl, hj, hmi⟩ := hrel.out
        have HMI := Lib.hid hmi; clear hmi
        clear hrel
        cases gk with
        | zero =>
          refine absurd HMI.out ?_
          have := HM.out
          rw [List.take_of_length_le (by omega)]
          omega
        | succ k =>
          have hjl : j < ks.length := by omega
          have hjI : (j : Int) < (ks.length : Int) := by omega
          obtain ⟨kid, hkid⟩ : ∃ kid, ks[j]? = some kid := ⟨_, List.getElem?_eq_getElem hjl⟩
          obtain ⟨g1, a1, b1, e1, hg1, B1⟩ := (HKS.out kid (List.mem_of_getElem? hkid)).1.head
          have c1 : W.cell? (ad.add j) = some (.pointer (some ⟨g1, 0, none⟩)) := by have := HC.out j (.pointer kid.1) (by simp [hkid]); rw [e1] at this; exact this
          obtain ⟨l1, hl1⟩ : ∃ l1 : Nat, l1 = kid.2.2.length := ⟨_, rfl⟩
          have d1 : W.cell? ⟨g1, 0, none⟩ = some (.int .i64 (l1 : Int)) := by rw [hl1]; exact blk_cell B1 0
          have HL1 := Lib.hid hl1
          have HKID := Lib.hid hkid
          obtain ⟨j1, hj1⟩ : ∃ j1 : Nat, j1 = j + 1 := ⟨_, rfl⟩
          have HT := Lib.hid (show things ks = things (ks.take j) ++ (kid.2.2 ++ things (ks.drop j1)) from by rw [hj1]; exact things_at hkid)
          have hmb : mi ≤ 1000000 := by have := HM.out; have := HMI.out; omega
          have hmbI : (mi : Int) ≤ 1000000 := by omega
          clear hl1 hkid B1 hg1
          by_cases hge : l1 ≤ mi
          · have hgeI : (l1 : Int) ≤ (mi : Int) := by omega
            have hws : IntKind.i64.wrap ((mi : Int) - (l1 : Int)) = ((mi - l1 : Nat) : Int) := by rw [IntKind.wrap_i64]; omega
            clear e1
            go_wp2_with fail
            go_roundg k
            case measure => omega
            case rel =>
              show FindI _ _ _ _ _ _ _
              exact ⟨rfl, j + 1, mi - l1, by first | rfl | (push_cast; rfl), by first | rfl | (congr 1; omega), by omega, by have := things_take_at HKID.out; rw [this, List.length_append]; have := HMI.out; have := HL1.out; omega⟩
          · have hgeI : ¬ (l1 : Int) ≤ (mi : Int) := by omega
            go_wp2_with fail
            go_roundg d
            case measure => omega
            case rel =>
              show GetI _ _ _ _ _ _ _ _
              obtain ⟨hr, h8, h16⟩ := HKS.out kid (List.mem_of_getElem? HKID.out)
              rw [e1] at hr
              refine ⟨rfl, _, _, _, mi, rfl, rfl, hr, h16, by have := HL1.out; omega, by have := HM.out; have h2 := congrArg List.length HT.out; rw [List.length_append, List.length_append] at h2; omega, ?_⟩
              rw [← HYX.out, HT.out, ← HMI.out, List.getElem?_append_right (by omega), Nat.add_sub_cancel_left, List.getElem?_append_left (by have := HL1.out; omega)]
end Go.Proofs.Ytcjpdjecgeenfaa.Ro
