/- A tree cut: the edges; a leaf. -/
import Derived.Test.YtcjpdjecgeenfaaRoH
set_option linter.unusedVariables false
set_option linter.unusedSimpArgs false
namespace Go.Proofs.Ytcjpdjecgeenfaa.Ro
open Go Go.RowKit Go.Proofs.Ytcjpdjecgeenfaa.Mem Go.Proofs.YtcjpdjecgeenfaaW.PrintWords

/-- a tree's first i things, and the others -/
def CutP (K : Nat → Prop) (xs : List Int) (i : Nat) (v : Value) (w : World) : Prop :=
  ∃ a b, v = .tuple #[.pointer a, .pointer b] ∧ Tree K w a (xs.take i) ∧ Tree K w b (xs.drop i)

set_option maxHeartbeats 4000000 in
theorem split_edge (K : Nat → Prop) (p : Option Addr) (xs : List Int) (i : Int) (w : World) (h : Tree K w p xs) (hi : p = none ∨ i ≤ 0 ∨ (xs.length : Int) ≤ i) :
    Calls Try.prog 35 #[.pointer p, .int .i64 i] w (Ret (CutP (New K w) xs i.toNat) w) := by
  have H := Lib.hid (h.mono (K' := New K w) fun b h => New.old h)
  rcases h with ⟨rfl, rfl⟩ | ⟨d, c, h, ht⟩
  · clear hi
    go_enter Try.func35, Try.ntmps35
    go_wp2
    go_returns
    exact ⟨_, rfl, ⟨none, none, rfl, Or.inl ⟨rfl, by simp⟩, Or.inl ⟨rfl, by simp⟩⟩, Below.refl _ _⟩
  obtain ⟨g, a0, b0, rfl, -, hg⟩ := h.head
  have dn : w.cell? ⟨g, 0, none⟩ = some (.int .i64 (xs.length : Int)) := blk_cell hg 0
  clear h ht hg
  by_cases h0 : i ≤ 0
  · have HN := Lib.hid (show i.toNat = 0 by omega)
    clear hi
    go_enter Try.func35, Try.ntmps35
    go_wp2
    go_returns
    exact ⟨_, rfl, ⟨none, _, rfl, Or.inl ⟨rfl, by rw [HN.out]; rfl⟩, by rw [HN.out]; exact H.out⟩, Below.refl _ _⟩
  · have h1 : (xs.length : Int) ≤ i := by rcases hi with h | h | h; exact absurd h (by simp); exact absurd h h0; exact h
    have HN := Lib.hid (show xs.length ≤ i.toNat by omega)
    clear hi
    go_enter Try.func35, Try.ntmps35
    go_wp2
    go_returns
    exact ⟨_, rfl, ⟨_, none, rfl, by rw [List.take_of_length_le HN.out]; exact H.out, Or.inl ⟨rfl, List.drop_eq_nil_of_le HN.out⟩⟩, Below.refl _ _⟩

set_option maxHeartbeats 8000000 in
theorem split_leaf (K : Nat → Prop) (p : Option Addr) (c : Nat) (xs : List Int) (m : Nat) (w : World) (h : RRep K w 0 p c xs) (hc : c ≤ 16) (hm0 : 0 < m) (hm : m < xs.length) :
    Calls Try.prog 35 #[.pointer p, .int .i64 (m : Int)] w (Ret (CutP (New K w) xs m) w) := by
  obtain ⟨g, s, rfl, hK, hg, hs, rfl⟩ := h
  obtain ⟨A, n, cap, rfl⟩ := hs.form
  obtain rfl : n = xs.length := by have := hs.len; simpa using this
  obtain ⟨ad, rfl, -⟩ := hs.addr (by simp; omega)
  have hcap : xs.length ≤ cap := by obtain ⟨_, _, e, h3, _⟩ := hs; injection e with _ _ e3; subst e3; simpa using h3
  have dn : w.cell? ⟨g, 0, none⟩ = some (.int .i64 (xs.length : Int)) := blk_cell hg 0
  have dd : w.cell? ⟨g, 1, none⟩ = some (.int .i64 1) := blk_cell hg 1
  have k3 : w.cell? ⟨g, 3, none⟩ = some (.slice (some ad) xs.length cap) := blk_cell hg 3
  have ht := hs.take m (by simp; omega)
  have hd := hs.drop m (by simp; omega)
  rw [← List.map_take] at ht
  rw [← List.map_drop] at hd
  have HA := Lib.hid (fun W (hw : Below w.heap.size w W) => both_int' (some ad) m cap (ints (xs.take m)) none 0 0 [] W K (fun _ => False) (ht.below hw) (SlV.nil _ W) (by simp; omega) (by simp))
  have HB := Lib.hid (fun W (hw : Below w.heap.size w W) => both_int' (some (ad.add m)) (xs.length - m) (cap - m) (ints (xs.drop m)) none 0 0 [] W K (fun _ => False) (hd.below hw) (SlV.nil _ W) (by simp; omega) (by simp))
  have HN1 := Lib.hid (show xs.take m ≠ [] from List.ne_nil_of_length_pos (by rw [List.length_take]; omega))
  have HN2 := Lib.hid (show xs.drop m ≠ [] from List.ne_nil_of_length_pos (by rw [List.length_drop]; omega))
  have HT1 := Lib.hid (show Top 0 (xs.take m).length from ⟨by rw [List.length_take]; omega, by rw [List.length_take]; omega, Or.inl rfl⟩)
  have HT2 := Lib.hid (show Top 0 (xs.drop m).length from ⟨by rw [List.length_drop]; omega, by rw [List.length_drop]; omega, Or.inl rfl⟩)
  clear ht hd hs hg hK
  have hc0 : (0 : Int) ≤ (m : Int) := by omega
  have hc1 : (m : Int) ≤ (xs.length : Int) := by omega
  have hc2 : (m : Int) ≤ (cap : Int) := by omega
  have hc3 : (xs.length : Int) ≤ (cap : Int) := by omega
  have hc4 : ¬ cap = m := by omega
  have hm0' : ¬ (m : Int) ≤ 0 := by omega
  have hm' : ¬ (xs.length : Int) ≤ (m : Int) := by omega
  go_enter Try.func35, Try.ntmps35
  go_wp2_with fail
  have HW := Lib.hid (Below.drew (Below.refl w.heap.size w))
  go_region_with (first
      | (go_at_call 28; (with_reducible refine (HA.out _ HW.out).mono ?_); rintro e wx ⟨v, rfl, hO, hbx⟩; obtain ⟨Aa, na, ca, rfl⟩ := hO.slv.form; have HSa := Lib.hid (hO.slv.mono (K' := Fresh w) fun b h => Nat.le_trans HW.out.size h); clear hO HA; (try replace HSa := Lib.hid (HSa.out.below hbx)); (try replace HSb := Lib.hid (HSb.out.below hbx)); (try replace HRa := Lib.hid (HRa.out.below hbx)); (try replace HRb := Lib.hid (HRb.out.below hbx)); have HW := Lib.hid (below_trans HW.out hbx); (try clear kx); have kx := cell_below k3 HW.out; clear hbx)
      | (go_at_call 28; (with_reducible refine (HB.out _ HW.out).mono ?_); rintro e wx ⟨v, rfl, hO, hbx⟩; obtain ⟨Ab, nb, cb, rfl⟩ := hO.slv.form; have HSb := Lib.hid (hO.slv.mono (K' := Fresh w) fun b h => Nat.le_trans HW.out.size h); clear hO HB; (try replace HSa := Lib.hid (HSa.out.below hbx)); (try replace HSb := Lib.hid (HSb.out.below hbx)); (try replace HRa := Lib.hid (HRa.out.below hbx)); (try replace HRb := Lib.hid (HRb.out.below hbx)); have HW := Lib.hid (below_trans HW.out hbx); (try clear kx); have kx := cell_below k3 HW.out; clear hbx)
      | (go_at_call 27; (with_reducible refine (leaf_some _ _ _ _ (xs.take m) _ (by have := HSa.out; simpa using this) HN1.out).mono ?_); rintro e wx ⟨v, rfl, ⟨pa, rfl, hr⟩, hbx⟩; clear HSa; have HRa := Lib.hid (hr.mono (K' := Fresh w) fun b h => h.elim id fun h => Nat.le_trans HW.out.size h); clear hr; (try replace HSa := Lib.hid (HSa.out.below hbx)); (try replace HSb := Lib.hid (HSb.out.below hbx)); (try replace HRb := Lib.hid (HRb.out.below hbx)); have HW := Lib.hid (below_trans HW.out hbx); (try clear kx); have kx := cell_below k3 HW.out; clear hbx)
      | (go_at_call 27; (with_reducible refine (leaf_some _ _ _ _ (xs.drop m) _ (by have := HSb.out; simpa using this) HN2.out).mono ?_); rintro e wx ⟨v, rfl, ⟨pb, rfl, hr⟩, hbx⟩; clear HSb; have HRb := Lib.hid (hr.mono (K' := Fresh w) fun b h => h.elim id fun h => Nat.le_trans HW.out.size h); clear hr; (try replace HSa := Lib.hid (HSa.out.below hbx)); (try replace HSb := Lib.hid (HSb.out.below hbx)); (try replace HRa := Lib.hid (HRa.out.below hbx)); have HW := Lib.hid (below_trans HW.out hbx); (try clear kx); have kx := cell_below k3 HW.out; clear hbx)
      | fail)
  all_goals
    go_wp2_with fail
    go_returns
    exact ⟨_, rfl, ⟨_, _, rfl, Or.inr ⟨0, _, HRa.out.mono fun b h => New.fresh h, HT1.out⟩, Or.inr ⟨0, _, HRb.out.mono fun b h => New.fresh h, HT2.out⟩⟩, HW.out⟩
end Go.Proofs.Ytcjpdjecgeenfaa.Ro
