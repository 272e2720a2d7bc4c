/- A tree cut: an inner node. -/
import Derived.Test.YtcjpdjecgeenfaaRoI
set_option linter.unusedVariables false
set_option linter.unusedSimpArgs false
namespace Go.Proofs.Ytcjpdjecgeenfaa.Ro
open Go Go.RowKit Go.Proofs.Ytcjpdjecgeenfaa.Mem Go.Proofs.YtcjpdjecgeenfaaW.PrintWords

theorem join_new (K : Nat → Prop) (w : World) (p q : Option Addr) (xs ys : List Int) (W : World) (hw : Below w.heap.size w W) (h : Tree (New K w) W p xs) (h' : Tree (New K w) W q ys) (hl : (xs ++ ys).length ≤ 1000000) :
    Calls Try.prog 26 #[.pointer p, .pointer q] W (Ret (fun v w' => ∃ r, v = .pointer r ∧ Tree (New K w) w' r (xs ++ ys)) W) := by
  refine (join_c (New K w) p q xs ys W h h' hl).mono ?_
  rintro e w' ⟨v, rfl, ⟨r, rfl, hT⟩, hb⟩
  exact ⟨_, rfl, ⟨r, rfl, hT.mono fun b h => h.elim id fun h => New.fresh (Nat.le_trans hw.size h)⟩, hb⟩

theorem inner_new (K : Nat → Prop) (w : World) (d : Nat) (ks : List Kid) (A : Option Addr) (n c : Nat) (W : World) (hw : Below w.heap.size w W) (h : SlV (Fresh w) W (.slice A n c) (ptrs ks ++ [])) (hk : ∀ k ∈ ks, RRep K w d k.1 k.2.1 k.2.2 ∧ 8 ≤ k.2.1 ∧ k.2.1 ≤ 16) (hl : ks.length ≤ 16) (hd : d ≤ 90) (ht : (things ks).length ≤ 1000000) :
    Calls Try.prog 36 #[.slice A n c] W (Ret (fun v w' => ∃ r, v = .pointer r ∧ Tree (New K w) w' r (things ks)) W) := by
  rw [List.append_nil] at h
  refine (inner_kids (New K w) d A n c ks W (h.mono fun b h => New.fresh h) (fun k hkk => ⟨((hk k hkk).1.below hw).mono fun b h => New.old h, (hk k hkk).2⟩) hl (by omega) ht).mono ?_
  rintro e w' ⟨v, rfl, ⟨r, rfl, hT⟩, hb⟩
  exact ⟨_, rfl, ⟨r, rfl, hT.mono fun b h => h.elim id fun h => New.fresh (Nat.le_trans hw.size h)⟩, hb⟩

theorem SlV.zero (K : Nat → Prop) (w : World) (ad : Addr) : SlV K w (.slice (some ad) 0 0) [] := ⟨some ad, 0, rfl, Nat.le_refl _, by simp [maxLen], fun h => absurd h (by simp), fun u h => by cases h⟩

/-- a place among kids' things: what holds at each round's head of the search for the kid -/
def FindI (w : World) (ks : List Kid) (i : Nat) (k : Nat) (v1 v6 : Value) (wr : World) : Prop :=
  w = wr ∧ ∃ j m : Nat, v6 = .int .i64 (j : Int) ∧ v1 = .int .i64 (m : Int) ∧ j + k = ks.length ∧ (things (ks.take j)).length + m = i

theorem things_at {ks : List Kid} {j : Nat} {kid : Kid} (h : ks[j]? = some kid) : things ks = things (ks.take j) ++ (kid.2.2 ++ things (ks.drop (j + 1))) := by
  have hj : j < ks.length := (List.getElem?_eq_some_iff.1 h).1
  have hx : ks[j] = kid := (List.getElem?_eq_some_iff.1 h).2
  have h1 : ks = ks.take j ++ kid :: ks.drop (j + 1) := by rw [← hx, List.getElem_cons_drop hj, List.take_append_drop]
  conv => lhs; rw [h1]
  rw [things_append]
  rfl

theorem things_take_at {ks : List Kid} {j : Nat} {kid : Kid} (h : ks[j]? = some kid) : things (ks.take (j + 1)) = things (ks.take j) ++ kid.2.2 := by
  rw [List.take_add_one, h, things_append]; simp [things]

theorem take_mid (a b c : List Int) (m : Nat) (hm : m ≤ b.length) : (a ++ (b ++ c)).take (a.length + m) = a ++ b.take m := by
  rw [List.take_append, List.take_of_length_le (by omega), Nat.add_sub_cancel_left, List.take_append, Nat.sub_eq_zero_of_le hm, List.take_zero, List.append_nil]
theorem drop_mid (a b c : List Int) (m : Nat) (hm : m ≤ b.length) : (a ++ (b ++ c)).drop (a.length + m) = b.drop m ++ c := by
  rw [List.drop_append, List.drop_eq_nil_of_le (by omega), Nat.add_sub_cancel_left, List.drop_append, Nat.sub_eq_zero_of_le hm, List.drop_zero, List.nil_append]

set_option maxHeartbeats 16000000 in
theorem split_inner (K : Nat → Prop) (d : Nat) (hd : d ≤ 80)
    (ih : ∀ (p : Option Addr) (c : Nat) (xs : List Int) (i : Int) (w : World), RRep K w d p c xs → Top d c → xs.length ≤ 1000000 →
      Calls Try.prog 35 #[.pointer p, .int .i64 i] w (Ret (CutP (New K w) xs i.toNat) w))
    (p : Option Addr) (c : Nat) (xs : List Int) (m : Nat) (w : World) (h : RRep K w (d + 1) p c xs) (hc : c ≤ 16) (hm0 : 0 < m) (hm : m < xs.length) (hl : xs.length ≤ 1000000) :
    Calls Try.prog 35 #[.pointer p, .int .i64 (m : Int)] w (Ret (CutP (New K w) xs m) w) := by
  obtain ⟨g, s, ks, rfl, hK, hg, hs, hks, rfl, rfl⟩ := h
  obtain ⟨A, n, cap, rfl⟩ := hs.form
  obtain rfl : n = ks.length := by have := hs.len; simpa using this
  have hks0 : 0 < ks.length := List.length_pos_iff.2 (by rintro rfl; simp [things] at hm)
  obtain ⟨ad, rfl, hcell⟩ := hs.addr (by simpa using hks0)
  have hcap : ks.length ≤ cap := by obtain ⟨_, _, e, h3, _⟩ := hs; injection e with _ _ e3; subst e3; simpa using h3
  obtain ⟨tn, htn⟩ : ∃ tn : Nat, tn = (things ks).length := ⟨_, rfl⟩
  have dn : w.cell? ⟨g, 0, none⟩ = some (.int .i64 (tn : Int)) := by rw [htn]; exact blk_cell hg 0
  have dd : w.cell? ⟨g, 1, none⟩ = some (.int .i64 ((d : Int) + 2)) := blk_cell hg 1
  have k2 : w.cell? ⟨g, 2, none⟩ = some (.slice (some ad) ks.length cap) := blk_cell hg 2
  have hd2 : ((d : Int) + 2 == 1) = false := beq_false_of_ne (by omega)
  have hm0' : ¬ (m : Int) ≤ 0 := by omega
  have hm' : ¬ (tn : Int) ≤ (m : Int) := by omega
  have HM := Lib.hid (show m < (things ks).length ∧ (things ks).length ≤ 1000000 from ⟨hm, hl⟩)
  have HS := Lib.hid hs
  have HC := Lib.hid hcell
  have HKS := Lib.hid hks
  have HIH := Lib.hid ih
  clear hs hcell hks hg hK ih hm hl htn
  go_enter Try.func35, Try.ntmps35
  go_wp2_with fail
  go_loopg [1, 6] ks.length (fun k v1 v6 wr => Aside (FindI w ks m k v1 v6 wr))
  case atStart =>
    show FindI _ _ _ _ _ _ _
    exact ⟨rfl, 0, m, rfl, rfl, by omega, by simp [things]⟩
  case round =>
    obtain ⟨rfl, j, mi, rfl, rfl, hj, hmi⟩ := hrel.out
    have HMI := Lib.hid hmi; clear hmi
    clear hrel
    cases gk with
    | zero =>
      refine absurd HMI.out ?_
      have := HM.out
      rw [List.take_of_length_le (by omega)]
      omega
    | succ k =>
      have hjl : j < ks.length := by omega
      have hjI : (j : Int) < (ks.length : Int) := by omega
      obtain ⟨kid, hkid⟩ : ∃ kid, ks[j]? = some kid := ⟨_, List.getElem?_eq_getElem hjl⟩
      obtain ⟨g1, a1, b1, e1, hg1, B1⟩ := (HKS.out kid (List.mem_of_getElem? hkid)).1.head
      have c1 : w.cell? (ad.add j) = some (.pointer (some ⟨g1, 0, none⟩)) := by have := HC.out j (.pointer kid.1) (by simp [hkid]); rw [e1] at this; exact this
      obtain ⟨l1, hl1⟩ : ∃ l1 : Nat, l1 = kid.2.2.length := ⟨_, rfl⟩
      have d1 : w.cell? ⟨g1, 0, none⟩ = some (.int .i64 (l1 : Int)) := by rw [hl1]; exact blk_cell B1 0
      have HL1 := Lib.hid hl1
      have HKID := Lib.hid hkid
      obtain ⟨j1, hj1⟩ : ∃ j1 : Nat, j1 = j + 1 := ⟨_, rfl⟩
      have HT := Lib.hid (show things ks = things (ks.take j) ++ (kid.2.2 ++ things (ks.drop j1)) from by rw [hj1]; exact things_at hkid)
      have hmb : mi ≤ 1000000 := by have := HM.out; have := HMI.out; omega
      have hmbI : (mi : Int) ≤ 1000000 := by omega
      clear hl1 hkid B1 hg1
      by_cases hge : l1 ≤ mi
      · have hgeI : (l1 : Int) ≤ (mi : Int) := by omega
        have hws : IntKind.i64.wrap ((mi : Int) - (l1 : Int)) = ((mi - l1 : Nat) : Int) := by rw [IntKind.wrap_i64]; omega
        clear e1
        go_wp2_with fail
        go_roundg k
        case measure => omega
        case rel =>
          show FindI _ _ _ _ _ _ _
          exact ⟨rfl, j + 1, mi - l1, by first | rfl | (push_cast; rfl), by first | rfl | (congr 1; omega), by omega, by have := things_take_at HKID.out; rw [this, List.length_append]; have := HMI.out; have := HL1.out; omega⟩
      · have hgeI : ¬ (l1 : Int) ≤ (mi : Int) := by omega
        have HE1 := Lib.hid (show things (ks.take j) ++ kid.2.2.take mi = (things ks).take m by rw [HT.out, ← HMI.out]; exact (take_mid _ _ _ _ (by have := HL1.out; omega)).symm)
        have HE2 := Lib.hid (show kid.2.2.drop mi ++ things (ks.drop j1) = (things ks).drop m by rw [HT.out, ← HMI.out]; exact (drop_mid _ _ _ _ (by have := HL1.out; omega)).symm)
        have HLA := Lib.hid (show (things (ks.take j) ++ kid.2.2.take mi).length ≤ 1000000 by rw [HE1.out, List.length_take]; have := HM.out; omega)
        have HLB := Lib.hid (show (kid.2.2.drop mi ++ things (ks.drop j1)).length ≤ 1000000 by rw [HE2.out, List.length_drop]; have := HM.out; omega)
        have HLC := Lib.hid (show (things (ks.take j)).length ≤ 1000000 by have := HLA.out; rw [List.length_append] at this; omega)
        have HLD := Lib.hid (show (things (ks.drop j1)).length ≤ 1000000 by have := HLB.out; rw [List.length_append] at this; omega)
        have HKA := Lib.hid (show ∀ k ∈ ks.take j, RRep K w d k.1 k.2.1 k.2.2 ∧ 8 ≤ k.2.1 ∧ k.2.1 ≤ 16 from fun k hk => HKS.out k (List.mem_of_mem_take hk))
        have HKB := Lib.hid (show ∀ k ∈ ks.drop j1, RRep K w d k.1 k.2.1 k.2.2 ∧ 8 ≤ k.2.1 ∧ k.2.1 ≤ 16 from fun k hk => HKS.out k (List.mem_of_mem_drop hk))
        have HNA := Lib.hid (show (ks.take j).length ≤ 16 by rw [List.length_take]; omega)
        have HNB := Lib.hid (show (ks.drop j1).length ≤ 16 by rw [List.length_drop]; omega)
        have HDD := Lib.hid (show d ≤ 90 by omega)
        have HREC := Lib.hid (show Calls Try.prog 35 #[.pointer (some ⟨g1, 0, none⟩), .int .i64 (mi : Int)] w (Ret (CutP (New K w) kid.2.2 mi) w) from by
          obtain ⟨hr, h8, h16⟩ := HKS.out kid (List.mem_of_getElem? HKID.out)
          rw [e1] at hr
          have := HIH.out _ _ _ (mi : Int) w hr ⟨by omega, h16, by omega⟩ (by have := HM.out; have h2 := congrArg List.length HT.out; rw [List.length_append, List.length_append] at h2; omega)
          exact this)
        have hst := HS.out.take j (by simp; omega)
        have hsd := HS.out.drop j1 (by simp; omega)
        rw [← List.map_take] at hst
        rw [← List.map_drop] at hsd
        have HA := Lib.hid (fun W (hw : Below w.heap.size w W) => both_ptr' (some ad) j cap (ptrs (ks.take j)) none 0 0 [] W K (fun _ => False) (hst.below hw) (SlV.nil _ W) (by simp; omega) (by simp))
        clear hst e1 HIH HKS HT HS HC
        have hc0 : (0 : Int) ≤ (j : Int) := by omega
        have hc1 : (j : Int) ≤ (ks.length : Int) := by omega
        have hc2 : (j : Int) ≤ (cap : Int) := by omega
        have hc3 : (ks.length : Int) ≤ (cap : Int) := by omega
        have hc5 : IntKind.i64.wrap ((j : Int) + 1) = (j1 : Int) := by rw [IntKind.wrap_i64]; omega
        have hc6 : (j1 : Int) ≤ (ks.length : Int) := by omega
        have hc7 : (j1 : Int) ≤ (cap : Int) := by omega
        have hc8 : (0 : Int) ≤ (j1 : Int) := by omega
        have hc9 : cap ≤ 1000000 ∨ True := Or.inr trivial
        clear hj1 hc9
        by_cases hcj : cap = j1
        · clear hsd
          have hcj := hcj.symm; subst hcj
          have HDR := Lib.hid (show ks.drop j1 = [] from List.drop_eq_nil_of_le (by omega))
          have HB := Lib.hid (fun W (hw : Below w.heap.size w W) => both_ptr' (some ad) 0 0 (ptrs (ks.drop j1)) none 0 0 [] W K (fun _ => False) (by rw [HDR.out]; exact SlV.zero K W ad) (SlV.nil _ W) (by rw [HDR.out]; simp) (by simp))
          go_wp2_with (go_at_call 35; ((with_reducible refine (HREC.out).mono ?_); rintro e w1 ⟨v, rfl, ⟨ta, tb, rfl, hta, htb⟩, hb1⟩; have HTa := Lib.hid (hta.below (Below.drew (Below.refl _ _))); have HTb := Lib.hid (htb.below (Below.drew (Below.refl _ _))); clear hta htb HREC; have HW := Lib.hid (Below.drew hb1); have kx := cell_below k2 hb1; clear hb1))
          go_region_with (first
            | (go_at_call 47; (with_reducible refine (HA.out _ HW.out).mono ?_); rintro e wx ⟨v, rfl, hO, hbx⟩; obtain ⟨Aa, na, ca, rfl⟩ := hO.slv.form; have HSa := Lib.hid (hO.slv.mono (K' := Fresh w) fun b h => Nat.le_trans HW.out.size h); clear hO HA; (try replace HSb := Lib.hid (HSb.out.below hbx)); (try replace HRa := Lib.hid (HRa.out.below hbx)); (try replace HRb := Lib.hid (HRb.out.below hbx)); (try replace HTa := Lib.hid (HTa.out.below hbx)); (try replace HTb := Lib.hid (HTb.out.below hbx)); (try replace HJa := Lib.hid (HJa.out.below hbx)); (try replace HJb := Lib.hid (HJb.out.below hbx)); have HW := Lib.hid (below_trans HW.out hbx); (try clear kx); have kx := cell_below k2 HW.out; clear hbx)
            | (go_at_call 47; (with_reducible refine (HB.out _ HW.out).mono ?_); rintro e wx ⟨v, rfl, hO, hbx⟩; obtain ⟨Ab, nb, cb, rfl⟩ := hO.slv.form; have HSb := Lib.hid (hO.slv.mono (K' := Fresh w) fun b h => Nat.le_trans HW.out.size h); clear hO HB; (try replace HSa := Lib.hid (HSa.out.below hbx)); (try replace HRa := Lib.hid (HRa.out.below hbx)); (try replace HRb := Lib.hid (HRb.out.below hbx)); (try replace HTa := Lib.hid (HTa.out.below hbx)); (try replace HTb := Lib.hid (HTb.out.below hbx)); (try replace HJa := Lib.hid (HJa.out.below hbx)); (try replace HJb := Lib.hid (HJb.out.below hbx)); have HW := Lib.hid (below_trans HW.out hbx); (try clear kx); have kx := cell_below k2 HW.out; clear hbx)
            | (go_at_call 36; (with_reducible refine (inner_new K w d (ks.take j) _ _ _ _ HW.out HSa.out HKA.out HNA.out HDD.out HLC.out).mono ?_); rintro e wx ⟨v, rfl, ⟨pa, rfl, hr⟩, hbx⟩; clear HSa; have HRa := Lib.hid hr; clear hr; (try replace HSa := Lib.hid (HSa.out.below hbx)); (try replace HSb := Lib.hid (HSb.out.below hbx)); (try replace HRb := Lib.hid (HRb.out.below hbx)); (try replace HTa := Lib.hid (HTa.out.below hbx)); (try replace HTb := Lib.hid (HTb.out.below hbx)); (try replace HJa := Lib.hid (HJa.out.below hbx)); (try replace HJb := Lib.hid (HJb.out.below hbx)); have HW := Lib.hid (below_trans HW.out hbx); (try clear kx); have kx := cell_below k2 HW.out; clear hbx)
            | (go_at_call 36; (with_reducible refine (inner_new K w d (ks.drop j1) _ _ _ _ HW.out HSb.out HKB.out HNB.out HDD.out HLD.out).mono ?_); rintro e wx ⟨v, rfl, ⟨pb, rfl, hr⟩, hbx⟩; clear HSb; have HRb := Lib.hid hr; clear hr; (try replace HSa := Lib.hid (HSa.out.below hbx)); (try replace HSb := Lib.hid (HSb.out.below hbx)); (try replace HRa := Lib.hid (HRa.out.below hbx)); (try replace HTa := Lib.hid (HTa.out.below hbx)); (try replace HTb := Lib.hid (HTb.out.below hbx)); (try replace HJa := Lib.hid (HJa.out.below hbx)); (try replace HJb := Lib.hid (HJb.out.below hbx)); have HW := Lib.hid (below_trans HW.out hbx); (try clear kx); have kx := cell_below k2 HW.out; clear hbx)
            | (go_at_call 26; (with_reducible refine (join_new K w _ _ _ _ _ HW.out HRa.out HTa.out HLA.out).mono ?_); rintro e wx ⟨v, rfl, ⟨qa, rfl, hr⟩, hbx⟩; clear HRa HTa; have HJa := Lib.hid hr; clear hr; (try replace HSa := Lib.hid (HSa.out.below hbx)); (try replace HSb := Lib.hid (HSb.out.below hbx)); (try replace HRa := Lib.hid (HRa.out.below hbx)); (try replace HRb := Lib.hid (HRb.out.below hbx)); (try replace HTa := Lib.hid (HTa.out.below hbx)); (try replace HTb := Lib.hid (HTb.out.below hbx)); (try replace HJb := Lib.hid (HJb.out.below hbx)); have HW := Lib.hid (below_trans HW.out hbx); (try clear kx); have kx := cell_below k2 HW.out; clear hbx)
            | (go_at_call 26; (with_reducible refine (join_new K w _ _ _ _ _ HW.out HTb.out HRb.out HLB.out).mono ?_); rintro e wx ⟨v, rfl, ⟨qb, rfl, hr⟩, hbx⟩; clear HRb HTb; have HJb := Lib.hid hr; clear hr; (try replace HSa := Lib.hid (HSa.out.below hbx)); (try replace HSb := Lib.hid (HSb.out.below hbx)); (try replace HRa := Lib.hid (HRa.out.below hbx)); (try replace HRb := Lib.hid (HRb.out.below hbx)); (try replace HTa := Lib.hid (HTa.out.below hbx)); (try replace HTb := Lib.hid (HTb.out.below hbx)); (try replace HJa := Lib.hid (HJa.out.below hbx)); have HW := Lib.hid (below_trans HW.out hbx); (try clear kx); have kx := cell_below k2 HW.out; clear hbx)
            | fail)
          all_goals
            go_wp2_with fail
            go_returns
            have hja := HJa.out
            have hjb := HJb.out
            rw [HE1.out] at hja
            rw [HE2.out] at hjb
            exact ⟨_, rfl, ⟨_, _, rfl, hja, hjb⟩, HW.out⟩
        · have HB := Lib.hid (fun W (hw : Below w.heap.size w W) => both_ptr' (some (ad.add j1)) (ks.length - j1) (cap - j1) (ptrs (ks.drop j1)) none 0 0 [] W K (fun _ => False) (hsd.below hw) (SlV.nil _ W) (by simp; omega) (by simp))
          clear hsd
          go_wp2_with (go_at_call 35; ((with_reducible refine (HREC.out).mono ?_); rintro e w1 ⟨v, rfl, ⟨ta, tb, rfl, hta, htb⟩, hb1⟩; have HTa := Lib.hid (hta.below (Below.drew (Below.refl _ _))); have HTb := Lib.hid (htb.below (Below.drew (Below.refl _ _))); clear hta htb HREC; have HW := Lib.hid (Below.drew hb1); have kx := cell_below k2 hb1; clear hb1))
          go_region_with (first
            | (go_at_call 47; (with_reducible refine (HA.out _ HW.out).mono ?_); rintro e wx ⟨v, rfl, hO, hbx⟩; obtain ⟨Aa, na, ca, rfl⟩ := hO.slv.form; have HSa := Lib.hid (hO.slv.mono (K' := Fresh w) fun b h => Nat.le_trans HW.out.size h); clear hO HA; (try replace HSb := Lib.hid (HSb.out.below hbx)); (try replace HRa := Lib.hid (HRa.out.below hbx)); (try replace HRb := Lib.hid (HRb.out.below hbx)); (try replace HTa := Lib.hid (HTa.out.below hbx)); (try replace HTb := Lib.hid (HTb.out.below hbx)); (try replace HJa := Lib.hid (HJa.out.below hbx)); (try replace HJb := Lib.hid (HJb.out.below hbx)); have HW := Lib.hid (below_trans HW.out hbx); (try clear kx); have kx := cell_below k2 HW.out; clear hbx)
            | (go_at_call 47; (with_reducible refine (HB.out _ HW.out).mono ?_); rintro e wx ⟨v, rfl, hO, hbx⟩; obtain ⟨Ab, nb, cb, rfl⟩ := hO.slv.form; have HSb := Lib.hid (hO.slv.mono (K' := Fresh w) fun b h => Nat.le_trans HW.out.size h); clear hO HB; (try replace HSa := Lib.hid (HSa.out.below hbx)); (try replace HRa := Lib.hid (HRa.out.below hbx)); (try replace HRb := Lib.hid (HRb.out.below hbx)); (try replace HTa := Lib.hid (HTa.out.below hbx)); (try replace HTb := Lib.hid (HTb.out.below hbx)); (try replace HJa := Lib.hid (HJa.out.below hbx)); (try replace HJb := Lib.hid (HJb.out.below hbx)); have HW := Lib.hid (below_trans HW.out hbx); (try clear kx); have kx := cell_below k2 HW.out; clear hbx)
            | (go_at_call 36; (with_reducible refine (inner_new K w d (ks.take j) _ _ _ _ HW.out HSa.out HKA.out HNA.out HDD.out HLC.out).mono ?_); rintro e wx ⟨v, rfl, ⟨pa, rfl, hr⟩, hbx⟩; clear HSa; have HRa := Lib.hid hr; clear hr; (try replace HSa := Lib.hid (HSa.out.below hbx)); (try replace HSb := Lib.hid (HSb.out.below hbx)); (try replace HRb := Lib.hid (HRb.out.below hbx)); (try replace HTa := Lib.hid (HTa.out.below hbx)); (try replace HTb := Lib.hid (HTb.out.below hbx)); (try replace HJa := Lib.hid (HJa.out.below hbx)); (try replace HJb := Lib.hid (HJb.out.below hbx)); have HW := Lib.hid (below_trans HW.out hbx); (try clear kx); have kx := cell_below k2 HW.out; clear hbx)
            | (go_at_call 36; (with_reducible refine (inner_new K w d (ks.drop j1) _ _ _ _ HW.out HSb.out HKB.out HNB.out HDD.out HLD.out).mono ?_); rintro e wx ⟨v, rfl, ⟨pb, rfl, hr⟩, hbx⟩; clear HSb; have HRb := Lib.hid hr; clear hr; (try replace HSa := Lib.hid (HSa.out.below hbx)); (try replace HSb := Lib.hid (HSb.out.below hbx)); (try replace HRa := Lib.hid (HRa.out.below hbx)); (try replace HTa := Lib.hid (HTa.out.below hbx)); (try replace HTb := Lib.hid (HTb.out.below hbx)); (try replace HJa := Lib.hid (HJa.out.below hbx)); (try replace HJb := Lib.hid (HJb.out.below hbx)); have HW := Lib.hid (below_trans HW.out hbx); (try clear kx); have kx := cell_below k2 HW.out; clear hbx)
            | (go_at_call 26; (with_reducible refine (join_new K w _ _ _ _ _ HW.out HRa.out HTa.out HLA.out).mono ?_); rintro e wx ⟨v, rfl, ⟨qa, rfl, hr⟩, hbx⟩; clear HRa HTa; have HJa := Lib.hid hr; clear hr; (try replace HSa := Lib.hid (HSa.out.below hbx)); (try replace HSb := Lib.hid (HSb.out.below hbx)); (try replace HRa := Lib.hid (HRa.out.below hbx)); (try replace HRb := Lib.hid (HRb.out.below hbx)); (try replace HTa := Lib.hid (HTa.out.below hbx)); (try replace HTb := Lib.hid (HTb.out.below hbx)); (try replace HJb := Lib.hid (HJb.out.below hbx)); have HW := Lib.hid (below_trans HW.out hbx); (try clear kx); have kx := cell_below k2 HW.out; clear hbx)
            | (go_at_call 26; (with_reducible refine (join_new K w _ _ _ _ _ HW.out HTb.out HRb.out HLB.out).mono ?_); rintro e wx ⟨v, rfl, ⟨qb, rfl, hr⟩, hbx⟩; clear HRb HTb; have HJb := Lib.hid hr; clear hr; (try replace HSa := Lib.hid (HSa.out.below hbx)); (try replace HSb := Lib.hid (HSb.out.below hbx)); (try replace HRa := Lib.hid (HRa.out.below hbx)); (try replace HRb := Lib.hid (HRb.out.below hbx)); (try replace HTa := Lib.hid (HTa.out.below hbx)); (try replace HTb := Lib.hid (HTb.out.below hbx)); (try replace HJa := Lib.hid (HJa.out.below hbx)); have HW := Lib.hid (below_trans HW.out hbx); (try clear kx); have kx := cell_below k2 HW.out; clear hbx)
            | fail)
          all_goals
            go_wp2_with fail
            go_returns
            have hja := HJa.out
            have hjb := HJb.out
            rw [HE1.out] at hja
            rw [HE2.out] at hjb
            exact ⟨_, rfl, ⟨_, _, rfl, hja, hjb⟩, HW.out⟩
end Go.Proofs.Ytcjpdjecgeenfaa.Ro
