/- A tree with another thing at a place: an inner node.  -/
import Derived.Test.YtcjpdjecgeenfaaRoQ
set_option linter.unusedVariables false
set_option linter.unusedSimpArgs false
namespace Go.Proofs.Ytcjpdjecgeenfaa.Ro
open Go Go.RowKit Go.Proofs.Ytcjpdjecgeenfaa.Mem Go.Proofs.YtcjpdjecgeenfaaW.PrintWords

theorem things_set {ks : List Kid} {j mi m : Nat} {kid : Kid} {r : Option Addr} {c : Nat} {x : Int} (h : ks[j]? = some kid) (hm : (things (ks.take j)).length + mi = m) (hl : mi < kid.2.2.length) : (things ks).set m x = things (ks.set j (r, c, kid.2.2.set mi x)) := by
  have hj : j < ks.length := (List.getElem?_eq_some_iff.1 h).1
  rw [things_at h, things_at (ks := ks.set j (r, c, kid.2.2.set mi x)) (kid := (r, c, kid.2.2.set mi x)) (List.getElem?_set_self hj), List.take_set_of_le (Nat.le_refl j), List.drop_set_of_lt (Nat.lt_succ_self j), ← hm]
  rw [List.set_append_right _ _ (by omega), Nat.add_sub_cancel_left, List.set_append_left _ _ hl]

set_option maxHeartbeats 8000000 in
theorem set_inner (K : Nat → Prop) (d : Nat) (hd : d ≤ 80) (x : Int)
    (ih : ∀ (K : Nat → Prop) (p : Option Addr) (c : Nat) (xs : List Int) (m : Nat) (w : World), RRep K w d p c xs → c ≤ 16 → m < xs.length → xs.length ≤ 1000000 →
      Calls Try.prog 50 #[.pointer p, .int .i64 (m : Int), .int .i64 x] w (Ret (fun v w' => ∃ r, v = .pointer r ∧ RRep (New K w) w' d r c (xs.set m x)) w))
    (p : Option Addr) (c : Nat) (xs : List Int) (m : Nat) (w : World) (h : RRep K w (d + 1) p c xs) (hc : c ≤ 16) (hm : m < xs.length) (hl : xs.length ≤ 1000000) :
    Calls Try.prog 50 #[.pointer p, .int .i64 (m : Int), .int .i64 x] w (Ret (fun v w' => ∃ r, v = .pointer r ∧ RRep (New K w) w' (d + 1) r c (xs.set m x)) w) := by
  obtain ⟨g, s, ks, rfl, hK, hg, hs, hks, rfl, rfl⟩ := h
  obtain ⟨A, n, cap, rfl⟩ := hs.form
  obtain rfl : n = ks.length := by have := hs.len; simpa using this
  have hks0 : 0 < ks.length := List.length_pos_iff.2 (by rintro rfl; simp [things] at hm)
  obtain ⟨ad, rfl, hcell⟩ := hs.addr (by simpa using hks0)
  have hcap : ks.length ≤ cap := by obtain ⟨_, _, e, h3, _⟩ := hs; injection e with _ _ e3; subst e3; simpa using h3
  obtain ⟨tn, htn⟩ : ∃ tn : Nat, tn = (things ks).length := ⟨_, rfl⟩
  have dn : w.cell? ⟨g, 0, none⟩ = some (.int .i64 (tn : Int)) := by rw [htn]; exact blk_cell hg 0
  have dd : w.cell? ⟨g, 1, none⟩ = some (.int .i64 ((d : Int) + 2)) := blk_cell hg 1
  have k2 : w.cell? ⟨g, 2, none⟩ = some (.slice (some ad) ks.length cap) := blk_cell hg 2
  have HTN := Lib.hid htn
  have hltg := blk_lt hg
  have hd2 : ((d : Int) + 2 == 1) = false := beq_false_of_ne (by omega)
  have HM := Lib.hid (show m < (things ks).length ∧ (things ks).length ≤ 1000000 from ⟨hm, hl⟩)
  have HS := Lib.hid hs
  have HC := Lib.hid hcell
  have HKS := Lib.hid hks
  have HIH := Lib.hid ih
  clear hs hcell hks hg hK ih hm hl htn
  have hlt : g < w.heap.size := by assumption
  go_enter Try.func50, Try.ntmps50
  go_wp2_with fail
  go_region
  all_goals
    go_wp2_with fail
    obtain ⟨W0, hW0⟩ : ∃ W0, W0 = (w.alloc (.cells #[.int .i64 (tn : Int), .int .i64 ((d : Int) + 2), .slice none 0 0, .slice none 0 0] NT)).drew := ⟨_, rfl⟩
    rw [← hW0]
    have hBW : Below w.heap.size w W0 := by rw [hW0]; exact Below.drew ((Below.refl _ _).alloc (Nat.le_refl _) _)
    have hBX : W0.heap[w.heap.size]? = some (.cells #[.int .i64 (tn : Int), .int .i64 ((d : Int) + 2), .slice none 0 0, .slice none 0 0] NT (0, 0)) := by rw [hW0]; exact blk_new _ _
    have HBX := Lib.hid hBX; clear hBX hW0
    have k2' := cell_below k2 hBW
    go_loopg [1, 8] ks.length (fun k v1 v8 wr => Aside (FindI W0 ks m k v1 v8 wr))
    case atStart =>
      show FindI _ _ _ _ _ _ _
      exact ⟨rfl, 0, m, rfl, rfl, by omega, by simp [things]⟩
    case round =>
      obtain ⟨rfl, j, mi, rfl, rfl, hj, hmi⟩ := hrel.out
      have HMI := Lib.hid hmi; clear hmi
      clear hrel
      cases gk with
      | zero =>
        refine absurd HMI.out ?_
        have := HM.out
        rw [List.take_of_length_le (by omega)]
        omega
      | succ k =>
        have hjl : j < ks.length := by omega
        have hjI : (j : Int) < (ks.length : Int) := by omega
        obtain ⟨kid, hkid⟩ : ∃ kid, ks[j]? = some kid := ⟨_, List.getElem?_eq_getElem hjl⟩
        obtain ⟨g1, a1, b1, e1, hg1, B1⟩ := (HKS.out kid (List.mem_of_getElem? hkid)).1.head
        have c0 : w.cell? (ad.add j) = some (.pointer (some ⟨g1, 0, none⟩)) := by have := HC.out j (.pointer kid.1) (by simp [hkid]); rw [e1] at this; exact this
        obtain ⟨l1, hl1⟩ : ∃ l1 : Nat, l1 = kid.2.2.length := ⟨_, rfl⟩
        have d0 : w.cell? ⟨g1, 0, none⟩ = some (.int .i64 (l1 : Int)) := by rw [hl1]; exact blk_cell B1 0
        have c1 := cell_below c0 hBW
        have d1 := cell_below d0 hBW
        have HL1 := Lib.hid hl1
        have HKID := Lib.hid hkid
        obtain ⟨j1, hj1⟩ : ∃ j1 : Nat, j1 = j + 1 := ⟨_, rfl⟩
        have HT := Lib.hid (show things ks = things (ks.take j) ++ (kid.2.2 ++ things (ks.drop j1)) from by rw [hj1]; exact things_at hkid)
        have hmb : mi ≤ 1000000 := by have := HM.out; have := HMI.out; omega
        have hmbI : (mi : Int) ≤ 1000000 := by omega
        clear hl1 hkid B1 hg1
        by_cases hge : l1 ≤ mi
        · have hgeI : (l1 : Int) ≤ (mi : Int) := by omega
          have hws : IntKind.i64.wrap ((mi : Int) - (l1 : Int)) = ((mi - l1 : Nat) : Int) := by rw [IntKind.wrap_i64]; omega
          clear e1
          go_wp2_with fail
          go_roundg k
          case measure => omega
          case rel =>
            show FindI _ _ _ _ _ _ _
            exact ⟨rfl, j + 1, mi - l1, by first | rfl | (push_cast; rfl), by first | rfl | (congr 1; omega), by omega, by have := things_take_at HKID.out; rw [this, List.length_append]; have := HMI.out; have := HL1.out; omega⟩
        · have hgeI : ¬ (l1 : Int) ≤ (mi : Int) := by omega
          have HBO := Lib.hid (fun W (hw : Below w.heap.size w W) => both_ptr' (some ad) ks.length cap (ptrs ks) none 0 0 [] W K (fun _ => False) (HS.out.below hw) (SlV.nil _ W) (by simp; omega) (by simp))
          have HP := Lib.hid (show 0 < (ptrs ks).length by rw [List.length_map]; omega)
          go_wp2_with (go_at_call 47; ((with_reducible refine (HBO.out _ hBW).mono ?_); rintro e w1 ⟨v, rfl, hO, hb1⟩; rw [List.append_nil] at hO; obtain ⟨gv, cv, rfl, hgv, hI⟩ := hO.blk HP.out; have hlen : (ptrs ks).length = ks.length := (by simp); rw [hlen]; have B := blk_below HBX.out hb1; obtain ⟨⟨q0, q1, q2, q3⟩, f0, f1, f2, f3⟩ := box4 B; have hsz : w.heap.size < W0.heap.size := blk_lt HBX.out; have hne1 : gv ≠ w.heap.size := (by omega); have hne2 : w.heap.size ≠ gv := (by omega); have hB1 : Below w.heap.size w w1 := below_trans hBW hb1; have HI := Lib.hid hI; have HB := Lib.hid B; clear hO hI B hlen))
          obtain ⟨w2, hw2⟩ : ∃ w2, w2 = w1.setCell ⟨w.heap.size, 2, none⟩ (.slice (some ⟨gv, 0, none⟩) ks.length cv) := ⟨_, rfl⟩
          rw [← hw2]
          have hB2 : Below w.heap.size w w2 := by rw [hw2]; exact Below.setCell (p := ⟨w.heap.size, 2, none⟩) hB1 (by exact Nat.le_refl w.heap.size) _
          have HI2 := Lib.hid (show InB w2 _ gv cv (ptrs ks) by rw [hw2]; exact HI.out.keep fun _ => Below.heap_setCell w1 ⟨w.heap.size, 2, none⟩ _ gv hne1)
          have HB2 := Lib.hid (show w2.heap[w.heap.size]? = some (.cells #[.int .i64 (tn : Int), .int .i64 ((d : Int) + 2), .slice (some ⟨gv, 0, none⟩) ks.length cv, .slice none 0 0] NT (0, 0)) by rw [hw2]; exact blk_put HB.out 2 _ rfl)
          have hgv2 : gv < w2.heap.size := HI2.out.lt
          have hgs2 : w.heap.size < w2.heap.size := blk_lt HB2.out
          clear q0 q1 q2 q3 f0 f1 f2 f3 HI HB hw2 HBX k2' c1 d1
          have q2 := (box4 HB2.out).1.2.2.1
          have k2'' := cell_below k2 hB2
          have c2 := cell_below c0 hB2
          have hfr := HI2.out.frozen j
          have hce := HI2.out.cell (j := j) (u := .pointer kid.1) (by simp [HKID.out])
          have HREC := Lib.hid (fun W (hw : Below w.heap.size w W) => (show Calls Try.prog 50 #[.pointer (some ⟨g1, 0, none⟩), .int .i64 (mi : Int), .int .i64 x] W (Ret (fun v w' => ∃ r, v = .pointer r ∧ RRep (New (fun b => K b ∧ b < w.heap.size) W) w' d r kid.2.1 (kid.2.2.set mi x)) W) from by
            obtain ⟨hr, h8, h16⟩ := HKS.out kid (List.mem_of_getElem? HKID.out)
            rw [e1] at hr
            exact HIH.out _ _ _ _ mi W (hr.bound.below hw) h16 (by have := HL1.out; omega) (by have := HM.out; have h2 := congrArg List.length HT.out; rw [List.length_append, List.length_append] at h2; omega)))
          have HW := Lib.hid (Below.drew hB2)
          go_region_with (first
            | (go_at_call 50; (with_reducible refine (HREC.out _ HW.out).mono ?_); rintro e w3 ⟨v, rfl, ⟨r, rfl, hr⟩, hb3⟩; have hb23 : Below w2.heap.size w2 w3 := below_trans (Below.drew (Below.refl _ _)) hb3; have HR := Lib.hid (show RRep (New (fun b => K b ∧ b < w.heap.size) w2) w3 d r kid.2.1 (kid.2.2.set mi x) from hr); clear hr HREC; have HI3 := Lib.hid (HI2.out.below hb23); have HB3 := Lib.hid (blk_below HB2.out hb23); have q3 := (box4 HB3.out).1.2.2.1; have k3 := cell_below k2'' hb23; have c3 := cell_below c2 hb23; have hfr3 := HI3.out.frozen j; have hce3 := HI3.out.cell (j := j) (u := .pointer kid.1) (by simp [HKID.out]); have HB33 := Lib.hid (below_trans hB2 hb23))
            | fail)
          all_goals
            go_wp2_with fail
            go_returns
            have hB33 := HB33.out
            have hBF : Below w.heap.size w (w3.setCell ⟨gv, j, none⟩ (.pointer r)) := by go_grown
            have hgw : w.heap.size ≤ gv := by omega
            refine ⟨_, rfl, ⟨_, rfl, w.heap.size, _, ks.set j (r, kid.2.1, kid.2.2.set mi x), rfl, New.fresh (Nat.le_refl _), by rw [List.length_set, ← HTN.out]; exact blk_far HB3.out hne2 _, ?_, fun k hk => ?_, ?_, (List.length_set).symm⟩, hBF⟩
            · have h1 := (HI3.out.set j (.pointer r) rfl).slv (K := New K w) (New.fresh hgw)
              rw [show (ptrs ks).set j (.pointer r) = ptrs (ks.set j (r, kid.2.1, kid.2.2.set mi x)) from by simp [List.map_set], List.length_map, List.length_set] at h1
              exact h1
            · rcases List.mem_or_eq_of_mem_set hk with h | rfl
              · exact ⟨((HKS.out k h).1.below hBF).mono fun b h => New.old h, (HKS.out k h).2⟩
              · refine ⟨HR.out.keep (fun b hb _ => hb.elim (fun h => New.old h.1) fun h => New.fresh (Nat.le_trans hB2.size h)) fun b hb _ => Below.heap_setCell w3 ⟨gv, j, none⟩ _ b ?_, (HKS.out kid (List.mem_of_getElem? HKID.out)).2⟩
                rcases hb with h | h
                · have := h.2; show b ≠ gv; omega
                · have h' : w2.heap.size ≤ b := h; show b ≠ gv; omega
            · exact things_set HKID.out HMI.out (by have := HL1.out; omega)
end Go.Proofs.Ytcjpdjecgeenfaa.Ro
