/- One or two nodes of up to twice as many things, or kids, as one has. -/
import Derived.Test.YtcjpdjecgeenfaaRoC
import Derived.Deep.RegionHeld3
import Derived.Deep.RegionWith
set_option linter.unusedVariables false
set_option linter.unusedSimpArgs false
namespace Go.Proofs.Ytcjpdjecgeenfaa.Ro
open Go Go.RowKit Go.Proofs.Ytcjpdjecgeenfaa.Mem Go.Proofs.YtcjpdjecgeenfaaW.PrintWords

/-- a list of one or two nodes of depth d + 1, each with at least m things or kids, or eight -/
def PartsP (K : Nat → Prop) (d m : Nat) (xs : List Int) (v : Value) (w : World) : Prop :=
  ∃ ps : List Kid, SlV K w v (ptrs ps) ∧ (∀ k ∈ ps, RRep K w d k.1 k.2.1 k.2.2 ∧ min 8 m ≤ k.2.1 ∧ k.2.1 ≤ 16) ∧ things ps = xs ∧ 1 ≤ ps.length ∧ ps.length ≤ 2 ∧ (2 ≤ ps.length → ∀ k ∈ ps, 8 ≤ k.2.1)

theorem parts_one {K : Nat → Prop} {d m : Nat} {xs : List Int} {w : World} {g : Nat} {p : Option Addr} {c : Nat} (hg : w.heap[g]? = some (.cells #[.pointer p] 23 (0, 0))) (hK : K g) (h : RRep K w d p c xs) (h8 : min 8 m ≤ c) (h16 : c ≤ 16) : PartsP K d m xs (.slice (some ⟨g, 0, none⟩) 1 1) w := by
  refine ⟨[(p, c, xs)], SlV.blk (xs := ptrs [(p, c, xs)]) (c := 1) hg (fun j u hu => ?_) (by simp) (by simp [maxLen]) (fun u hu => ?_) hK, fun k hk => ?_, by simp [things], by simp, by simp, by simp⟩
  · rcases j with _ | j
    · simpa using hu
    · simp at hu
  · obtain rfl := List.mem_singleton.1 hu; rfl
  · obtain rfl := List.mem_singleton.1 hk; exact ⟨h, h8, h16⟩

theorem parts_two {K : Nat → Prop} {d m : Nat} {xs ys : List Int} {w : World} {g : Nat} {p q : Option Addr} {c c' : Nat} (hg : w.heap[g]? = some (.cells #[.pointer p, .pointer q] 23 (0, 0))) (hK : K g) (h : RRep K w d p c xs) (h8 : 8 ≤ c) (h16 : c ≤ 16) (h' : RRep K w d q c' ys) (h8' : 8 ≤ c') (h16' : c' ≤ 16) : PartsP K d m (xs ++ ys) (.slice (some ⟨g, 0, none⟩) 2 2) w := by
  refine ⟨[(p, c, xs), (q, c', ys)], SlV.blk (xs := ptrs [(p, c, xs), (q, c', ys)]) (c := 2) hg (fun j u hu => ?_) (by simp) (by simp [maxLen]) (fun u hu => ?_) hK, fun k hk => ?_, by simp [things], by simp, by simp, fun _ k hk => by simp at hk; rcases hk with rfl | rfl <;> assumption⟩
  · match j with
    | 0 => simpa using hu
    | 1 => simpa using hu
    | j + 2 => simp at hu
  · simp at hu; rcases hu with rfl | rfl <;> rfl
  · simp at hk; rcases hk with rfl | rfl
    · exact ⟨h, Nat.le_trans (Nat.min_le_left _ _) h8, h16⟩
    · exact ⟨h', Nat.le_trans (Nat.min_le_left _ _) h8', h16'⟩

set_option maxHeartbeats 4000000 in
theorem leaves_c (K : Nat → Prop) (A : Option Addr) (n c : Nat) (xs : List Int) (w : World) (h : SlV K w (.slice A n c) (ints xs)) (h1 : 1 ≤ xs.length) (h2 : xs.length ≤ 32) :
    Calls Try.prog 49 #[.slice A n c] w (Ret (fun v w' => PartsP (New K w) 0 xs.length xs v w') w) := by
  obtain rfl : n = xs.length := by have := h.len; simpa using this
  have hcap : xs.length ≤ c := by obtain ⟨_, _, e, h3, _⟩ := h; injection e with _ _ e3; subst e3; simpa using h3
  by_cases h16 : xs.length ≤ 16
  · have h16I : (xs.length : Int) ≤ 16 := by omega
    have H := Lib.hid h; clear h
    have HX := Lib.hid (show xs ≠ [] by rintro rfl; simp at h1)
    go_enter Try.func49, Try.ntmps49
    go_wp2_with (go_at_call 27; ((with_reducible refine (leaf_some _ _ _ _ xs _ H.out HX.out).mono ?_); rintro e w1 ⟨v, rfl, ⟨p, rfl, hr⟩, hb1⟩; have HR := Lib.hid hr; clear hr))
    go_returns
    have hb2 : Below w1.heap.size w1 (w1.alloc (.cells #[.pointer p] 23)) := (Below.refl _ _).alloc (Nat.le_refl _) _
    exact ⟨_, rfl, parts_one (blk_new w1 _) (New.fresh hb1.size) (HR.out.below hb2) (Nat.min_le_right _ _) h16, hb1.alloc hb1.size _⟩
  · obtain ⟨ad, rfl, -⟩ := h.addr (by simp; omega)
    obtain ⟨hf, hhf⟩ : ∃ hf : Nat, hf = xs.length / 2 := ⟨_, rfl⟩
    have hh1 : 8 ≤ hf := by omega
    have hh2 : hf ≤ 16 := by omega
    have hh3 : xs.length - hf ≤ 16 := by omega
    have hh4 : hf + 8 ≤ xs.length := by omega
    have hhI : (xs.length : Int) / 2 = (hf : Int) := by omega
    have h16I : ¬ (xs.length : Int) ≤ 16 := by omega
    have ht := h.take hf (by simp; omega)
    have hd := h.drop hf (by simp; omega)
    rw [← List.map_take] at ht
    rw [← List.map_drop] at hd
    have HA := Lib.hid (fun W (hw : Below w.heap.size w W) => both_int' (some ad) hf c (ints (xs.take hf)) none 0 0 [] W K (fun _ => False) (ht.below hw) (SlV.nil _ W) (by simp; omega) (by simp))
    have HB := Lib.hid (fun W (hw : Below w.heap.size w W) => both_int' (some (ad.add hf)) (xs.length - hf) (c - hf) (ints (xs.drop hf)) none 0 0 [] W K (fun _ => False) (hd.below hw) (SlV.nil _ W) (by simp; omega) (by simp))
    have HN1 := Lib.hid (show xs.take hf ≠ [] from List.ne_nil_of_length_pos (by rw [List.length_take]; omega))
    have HN2 := Lib.hid (show xs.drop hf ≠ [] from List.ne_nil_of_length_pos (by rw [List.length_drop]; omega))
    clear ht hd h hhf
    have hc0 : (0 : Int) ≤ (hf : Int) := by omega
    have hc1 : (hf : Int) ≤ (xs.length : Int) := by omega
    have hc2 : (hf : Int) ≤ (c : Int) := by omega
    have hc3 : (xs.length : Int) ≤ (c : Int) := by omega
    have hc4 : ¬ c = hf := by omega
    go_enter Try.func49, Try.ntmps49
    go_wp2_with fail
    have HW := Lib.hid (Below.drew (Below.refl w.heap.size w))
    go_region_with (first
      | (go_at_call 28; (with_reducible refine (HA.out _ HW.out).mono ?_); rintro e wx ⟨v, rfl, hO, hbx⟩; obtain ⟨Aa, na, ca, rfl⟩ := hO.slv.form; have HSa := Lib.hid (hO.slv.mono (K' := Fresh w) fun b h => Nat.le_trans HW.out.size h); clear hO HA; (try replace HSa := Lib.hid (HSa.out.below hbx)); (try replace HSb := Lib.hid (HSb.out.below hbx)); (try replace HRa := Lib.hid (HRa.out.below hbx)); (try replace HRb := Lib.hid (HRb.out.below hbx)); have HW := Lib.hid (below_trans HW.out hbx); clear hbx)
      | (go_at_call 28; (with_reducible refine (HB.out _ HW.out).mono ?_); rintro e wx ⟨v, rfl, hO, hbx⟩; obtain ⟨Ab, nb, cb, rfl⟩ := hO.slv.form; have HSb := Lib.hid (hO.slv.mono (K' := Fresh w) fun b h => Nat.le_trans HW.out.size h); clear hO HB; (try replace HSa := Lib.hid (HSa.out.below hbx)); (try replace HSb := Lib.hid (HSb.out.below hbx)); (try replace HRa := Lib.hid (HRa.out.below hbx)); (try replace HRb := Lib.hid (HRb.out.below hbx)); have HW := Lib.hid (below_trans HW.out hbx); clear hbx)
      | (go_at_call 27; (with_reducible refine (leaf_some _ _ _ _ (xs.take hf) _ (by have := HSa.out; simpa using this) HN1.out).mono ?_); rintro e wx ⟨v, rfl, ⟨pa, rfl, hr⟩, hbx⟩; clear HSa; have HRa := Lib.hid (hr.mono (K' := Fresh w) fun b h => h.elim id fun h => Nat.le_trans HW.out.size h); clear hr; (try replace HSa := Lib.hid (HSa.out.below hbx)); (try replace HSb := Lib.hid (HSb.out.below hbx)); (try replace HRa := Lib.hid (HRa.out.below hbx)); (try replace HRb := Lib.hid (HRb.out.below hbx)); have HW := Lib.hid (below_trans HW.out hbx); clear hbx)
      | (go_at_call 27; (with_reducible refine (leaf_some _ _ _ _ (xs.drop hf) _ (by have := HSb.out; simpa using this) HN2.out).mono ?_); rintro e wx ⟨v, rfl, ⟨pb, rfl, hr⟩, hbx⟩; clear HSb; have HRb := Lib.hid (hr.mono (K' := Fresh w) fun b h => h.elim id fun h => Nat.le_trans HW.out.size h); clear hr; (try replace HSa := Lib.hid (HSa.out.below hbx)); (try replace HSb := Lib.hid (HSb.out.below hbx)); (try replace HRa := Lib.hid (HRa.out.below hbx)); (try replace HRb := Lib.hid (HRb.out.below hbx)); have HW := Lib.hid (below_trans HW.out hbx); clear hbx)
      | fail)
    all_goals
      go_wp2_with fail
      go_returns
      have hb2 : Below wx.heap.size wx (wx.alloc (.cells #[.pointer pa, .pointer pb] 23)) := (Below.refl _ _).alloc (Nat.le_refl _) _
      have hp := parts_two (K := New K w) (m := xs.length) (blk_new wx (.cells #[.pointer pa, .pointer pb] 23)) (New.fresh HW.out.size) ((HRa.out.below hb2).mono fun b h => New.fresh h) (by rw [List.length_take]; omega) (by rw [List.length_take]; omega) ((HRb.out.below hb2).mono fun b h => New.fresh h) (by rw [List.length_drop]; omega) (by rw [List.length_drop]; omega)
      rw [List.take_append_drop] at hp
      exact ⟨_, rfl, hp, HW.out.alloc HW.out.size _⟩

set_option maxHeartbeats 4000000 in
theorem inners_c (K : Nat → Prop) (d : Nat) (A : Option Addr) (n c : Nat) (xs : List Kid) (w : World) (h : SlV K w (.slice A n c) (ptrs xs)) (hk : ∀ k ∈ xs, RRep K w d k.1 k.2.1 k.2.2 ∧ 8 ≤ k.2.1 ∧ k.2.1 ≤ 16) (h1 : 2 ≤ xs.length) (h2 : xs.length ≤ 32) (hd : d ≤ 100) (ht : (things xs).length ≤ 1000000) :
    Calls Try.prog 48 #[.slice A n c] w (Ret (fun v w' => PartsP (New K w) (d + 1) xs.length (things xs) v w') w) := by
  obtain rfl : n = xs.length := by have := h.len; simpa using this
  have hcap : xs.length ≤ c := by obtain ⟨_, _, e, h3, _⟩ := h; injection e with _ _ e3; subst e3; simpa using h3
  by_cases h16 : xs.length ≤ 16
  · have h16I : (xs.length : Int) ≤ 16 := by omega
    have H := Lib.hid h; clear h
    have HKD := Lib.hid hk; clear hk
    go_enter Try.func48, Try.ntmps48
    go_wp2_with (go_at_call 36; ((with_reducible refine (inner_many K d _ _ _ xs _ H.out HKD.out h1 (by omega) hd ht).mono ?_); rintro e w1 ⟨v, rfl, ⟨p, rfl, hr⟩, hb1⟩; have HR := Lib.hid hr; clear hr))
    go_returns
    have hb2 : Below w1.heap.size w1 (w1.alloc (.cells #[.pointer p] 23)) := (Below.refl _ _).alloc (Nat.le_refl _) _
    exact ⟨_, rfl, parts_one (blk_new w1 _) (New.fresh hb1.size) (HR.out.below hb2) (Nat.min_le_right _ _) h16, hb1.alloc hb1.size _⟩
  · obtain ⟨ad, rfl, -⟩ := h.addr (by simp; omega)
    obtain ⟨hf, hhf⟩ : ∃ hf : Nat, hf = xs.length / 2 := ⟨_, rfl⟩
    have hh1 : 8 ≤ hf := by omega
    have hh2 : hf ≤ 16 := by omega
    have hh3 : xs.length - hf ≤ 16 := by omega
    have hh4 : hf + 8 ≤ xs.length := by omega
    have hhI : (xs.length : Int) / 2 = (hf : Int) := by omega
    have h16I : ¬ (xs.length : Int) ≤ 16 := by omega
    have hst := h.take hf (by simp; omega)
    have hsd := h.drop hf (by simp; omega)
    rw [← List.map_take] at hst
    rw [← List.map_drop] at hsd
    have HA := Lib.hid (fun W (hw : Below w.heap.size w W) => both_ptr' (some ad) hf c (ptrs (xs.take hf)) none 0 0 [] W K (fun _ => False) (hst.below hw) (SlV.nil _ W) (by simp; omega) (by simp))
    have HB := Lib.hid (fun W (hw : Below w.heap.size w W) => both_ptr' (some (ad.add hf)) (xs.length - hf) (c - hf) (ptrs (xs.drop hf)) none 0 0 [] W K (fun _ => False) (hsd.below hw) (SlV.nil _ W) (by simp; omega) (by simp))
    have htd : things (xs.take hf) ++ things (xs.drop hf) = things xs := by show List.flatMap _ _ ++ List.flatMap _ _ = List.flatMap _ _; rw [← List.flatMap_append, List.take_append_drop]
    have htl : (things (xs.take hf)).length ≤ 1000000 ∧ (things (xs.drop hf)).length ≤ 1000000 := by have := congrArg List.length htd; rw [List.length_append] at this; omega
    have HTD := Lib.hid htd; clear htd
    have HTL := Lib.hid htl; clear htl
    have HKD := Lib.hid (fun W (hw : Below w.heap.size w W) k (hkk : k ∈ xs) => (show RRep (New K w) W d k.1 k.2.1 k.2.2 ∧ 8 ≤ k.2.1 ∧ k.2.1 ≤ 16 from ⟨((hk k hkk).1.below hw).mono fun b h => New.old h, (hk k hkk).2⟩))
    have HHD := Lib.hid hd; clear hd
    have HL1 := Lib.hid (show 2 ≤ (xs.take hf).length ∧ (xs.take hf).length ≤ 1000 by rw [List.length_take]; omega)
    have HL2 := Lib.hid (show 2 ≤ (xs.drop hf).length ∧ (xs.drop hf).length ≤ 1000 by rw [List.length_drop]; omega)
    clear hst hsd h hhf hk ht
    have hc0 : (0 : Int) ≤ (hf : Int) := by omega
    have hc1 : (hf : Int) ≤ (xs.length : Int) := by omega
    have hc2 : (hf : Int) ≤ (c : Int) := by omega
    have hc3 : (xs.length : Int) ≤ (c : Int) := by omega
    have hc4 : ¬ c = hf := by omega
    go_enter Try.func48, Try.ntmps48
    go_wp2_with fail
    have HW := Lib.hid (Below.drew (Below.refl w.heap.size w))
    go_region_with (first
      | (go_at_call 47; (with_reducible refine (HA.out _ HW.out).mono ?_); rintro e wx ⟨v, rfl, hO, hbx⟩; obtain ⟨Aa, na, ca, rfl⟩ := hO.slv.form; have HSa := Lib.hid (hO.slv.mono (K' := Fresh w) fun b h => Nat.le_trans HW.out.size h); clear hO HA; (try replace HSa := Lib.hid (HSa.out.below hbx)); (try replace HSb := Lib.hid (HSb.out.below hbx)); (try replace HRa := Lib.hid (HRa.out.below hbx)); (try replace HRb := Lib.hid (HRb.out.below hbx)); have HW := Lib.hid (below_trans HW.out hbx); clear hbx)
      | (go_at_call 47; (with_reducible refine (HB.out _ HW.out).mono ?_); rintro e wx ⟨v, rfl, hO, hbx⟩; obtain ⟨Ab, nb, cb, rfl⟩ := hO.slv.form; have HSb := Lib.hid (hO.slv.mono (K' := Fresh w) fun b h => Nat.le_trans HW.out.size h); clear hO HB; (try replace HSa := Lib.hid (HSa.out.below hbx)); (try replace HSb := Lib.hid (HSb.out.below hbx)); (try replace HRa := Lib.hid (HRa.out.below hbx)); (try replace HRb := Lib.hid (HRb.out.below hbx)); have HW := Lib.hid (below_trans HW.out hbx); clear hbx)
      | (go_at_call 36; (with_reducible refine (inner_many (New K w) d _ _ _ (xs.take hf) _ (by have := HSa.out.mono (K' := New K w) (fun b h => New.fresh h); simpa [List.map_take] using this) (fun k hk => HKD.out _ HW.out k (List.mem_of_mem_take hk)) HL1.out.1 HL1.out.2 HHD.out HTL.out.1).mono ?_); rintro e wx ⟨v, rfl, ⟨pa, rfl, hr⟩, hbx⟩; clear HSa; have HRa := Lib.hid (hr.mono (K' := New K w) fun b h => h.elim id fun h => Or.inr (Nat.le_trans HW.out.size h)); clear hr; (try replace HSa := Lib.hid (HSa.out.below hbx)); (try replace HSb := Lib.hid (HSb.out.below hbx)); (try replace HRa := Lib.hid (HRa.out.below hbx)); (try replace HRb := Lib.hid (HRb.out.below hbx)); have HW := Lib.hid (below_trans HW.out hbx); clear hbx)
      | (go_at_call 36; (with_reducible refine (inner_many (New K w) d _ _ _ (xs.drop hf) _ (by have := HSb.out.mono (K' := New K w) (fun b h => New.fresh h); simpa [List.map_drop] using this) (fun k hk => HKD.out _ HW.out k (List.mem_of_mem_drop hk)) HL2.out.1 HL2.out.2 HHD.out HTL.out.2).mono ?_); rintro e wx ⟨v, rfl, ⟨pb, rfl, hr⟩, hbx⟩; clear HSb; have HRb := Lib.hid (hr.mono (K' := New K w) fun b h => h.elim id fun h => Or.inr (Nat.le_trans HW.out.size h)); clear hr; (try replace HSa := Lib.hid (HSa.out.below hbx)); (try replace HSb := Lib.hid (HSb.out.below hbx)); (try replace HRa := Lib.hid (HRa.out.below hbx)); (try replace HRb := Lib.hid (HRb.out.below hbx)); have HW := Lib.hid (below_trans HW.out hbx); clear hbx)
      | fail)
    all_goals
      go_wp2_with fail
      go_returns
      have hb2 : Below wx.heap.size wx (wx.alloc (.cells #[.pointer pa, .pointer pb] 23)) := (Below.refl _ _).alloc (Nat.le_refl _) _
      have hp := parts_two (K := New K w) (m := xs.length) (blk_new wx (.cells #[.pointer pa, .pointer pb] 23)) (New.fresh HW.out.size) (HRa.out.below hb2) (by rw [List.length_take]; omega) (by rw [List.length_take]; omega) (HRb.out.below hb2) (by rw [List.length_drop]; omega) (by rw [List.length_drop]; omega)
      rw [HTD.out] at hp
      exact ⟨_, rfl, hp, HW.out.alloc HW.out.size _⟩

end Go.Proofs.Ytcjpdjecgeenfaa.Ro
