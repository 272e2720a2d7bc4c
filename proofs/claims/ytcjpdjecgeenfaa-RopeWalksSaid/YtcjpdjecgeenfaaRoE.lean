/- One or two nodes for two of one depth. -/
import Derived.Test.YtcjpdjecgeenfaaRoD
set_option linter.unusedVariables false
set_option linter.unusedSimpArgs false
namespace Go.Proofs.Ytcjpdjecgeenfaa.Ro
open Go Go.RowKit Go.Proofs.Ytcjpdjecgeenfaa.Mem Go.Proofs.YtcjpdjecgeenfaaW.PrintWords

theorem ptrs_append (a b : List Kid) : ptrs (a ++ b) = ptrs a ++ ptrs b := List.map_append
theorem things_append (a b : List Kid) : things (a ++ b) = things a ++ things b := List.flatMap_append

theorem parts_ab {K : Nat → Prop} {d m : Nat} {xs ys : List Int} {w : World} {p q : Option Addr} {c c' : Nat} (h : RRep K w d p c xs) (h8 : 8 ≤ c) (h16 : c ≤ 16) (h' : RRep K w d q c' ys) (h8' : 8 ≤ c') (h16' : c' ≤ 16) :
    PartsP (New K w) d m (xs ++ ys) (.slice (some ⟨w.heap.size, 0, none⟩) 2 2) (w.alloc (.cells #[.pointer p, .pointer q] 23)) := by
  have hb : Below w.heap.size w (w.alloc (.cells #[.pointer p, .pointer q] 23)) := (Below.refl _ _).alloc (Nat.le_refl _) _
  exact parts_two (blk_new w _) (New.fresh (Nat.le_refl _)) ((h.below hb).mono fun b h => New.old h) (by omega) h16 ((h'.below hb).mono fun b h => New.old h) (by omega) h16'

theorem PartsP.mono {K K' : Nat → Prop} {d m : Nat} {xs : List Int} {v : Value} {w : World} (h : PartsP K d m xs v w) (hK : ∀ b, K b → K' b) : PartsP K' d m xs v w := by
  obtain ⟨ps, h1, h2, h3⟩ := h
  exact ⟨ps, h1.mono hK, fun k hk => ⟨(h2 k hk).1.mono hK, (h2 k hk).2⟩, h3⟩
theorem PartsP.below {K : Nat → Prop} {d m : Nat} {xs : List Int} {v : Value} {w w' : World} (h : PartsP K d m xs v w) (hb : Below w.heap.size w w') : PartsP K d m xs v w' := by
  obtain ⟨ps, h1, h2, h3⟩ := h
  exact ⟨ps, h1.below hb, fun k hk => ⟨(h2 k hk).1.below hb, (h2 k hk).2⟩, h3⟩

/-- inners of two lists' kids -/
theorem inners_ab (K : Nat → Prop) (d : Nat) (A : Option Addr) (n c : Nat) (ks ls : List Kid) (w W : World) (hw : Below w.heap.size w W) (hS : SlV (Fresh w) W (.slice A n c) (ptrs ks ++ ptrs ls)) (hk : ∀ k ∈ ks, RRep K w d k.1 k.2.1 k.2.2 ∧ 8 ≤ k.2.1 ∧ k.2.1 ≤ 16) (hl : ∀ k ∈ ls, RRep K w d k.1 k.2.1 k.2.2 ∧ 8 ≤ k.2.1 ∧ k.2.1 ≤ 16)
    (h1 : 2 ≤ ks.length + ls.length) (h2 : ks.length + ls.length ≤ 32) (hd : d ≤ 100) (ht : (things ks ++ things ls).length ≤ 1000000) :
    Calls Try.prog 48 #[.slice A n c] W (Ret (fun v w' => PartsP (New K w) (d + 1) (ks.length + ls.length) (things ks ++ things ls) v w') W) := by
  have hS' : SlV (New K w) W (.slice A n c) (ptrs (ks ++ ls)) := by rw [ptrs_append]; exact hS.mono fun b h => New.fresh h
  have hall : ∀ k ∈ ks ++ ls, RRep (New K w) W d k.1 k.2.1 k.2.2 ∧ 8 ≤ k.2.1 ∧ k.2.1 ≤ 16 := fun k hkk => (List.mem_append.1 hkk).elim (fun h => ⟨((hk k h).1.below hw).mono fun b h => New.old h, (hk k h).2⟩) fun h => ⟨((hl k h).1.below hw).mono fun b h => New.old h, (hl k h).2⟩
  refine (inners_c (New K w) d A n c (ks ++ ls) W hS' hall (by rw [List.length_append]; exact h1) (by rw [List.length_append]; exact h2) hd (by rw [things_append]; exact ht)).mono ?_
  rintro e w' ⟨v, rfl, hP, hb⟩
  rw [List.length_append, things_append] at hP
  exact ⟨v, rfl, hP.mono fun b h => h.elim id fun h => New.fresh (Nat.le_trans hw.size h), hb⟩

set_option maxHeartbeats 4000000 in
theorem glue_leaf (K : Nat → Prop) (p q : Option Addr) (c c' : Nat) (xs ys : List Int) (w : World) (h : RRep K w 0 p c xs) (h' : RRep K w 0 q c' ys) (h1 : 1 ≤ c) (h2 : c ≤ 16) (h1' : 1 ≤ c') (h2' : c' ≤ 16) :
    Calls Try.prog 39 #[.pointer p, .pointer q] w (Ret (fun v w' => PartsP (New K w) 0 (c + c') (xs ++ ys) v w') w) := by
  have hp := h
  have hq := h'
  obtain ⟨g, s, rfl, hK, hg, hs, rfl⟩ := h
  obtain ⟨g', s', rfl, hK', hg', hs', rfl⟩ := h'
  obtain ⟨A, n, c, rfl⟩ := hs.form
  obtain ⟨A', n', c', rfl⟩ := hs'.form
  obtain rfl : n = xs.length := by have := hs.len; simpa using this
  obtain rfl : n' = ys.length := by have := hs'.len; simpa using this
  obtain ⟨⟨k0, k1, k2, k3⟩, -, -, -, -⟩ := box4 hg
  obtain ⟨⟨q0, q1, q2, q3⟩, -, -, -, -⟩ := box4 hg'
  clear hg hg' hK hK'
  have HBO := Lib.hid (fun W (hw : Below w.heap.size w W) => both_int' A xs.length c (ints xs) A' ys.length c' (ints ys) W K K (hs.below hw) (hs'.below hw) (by simp; omega) (by simp; omega))
  clear hs hs'
  have HP := Lib.hid hp; clear hp
  have HQ := Lib.hid hq; clear hq
  by_cases h8 : 8 ≤ xs.length
  · have h8I : (8 : Int) ≤ (xs.length : Int) := by omega
    by_cases h8' : 8 ≤ ys.length
    · have h8I' : (8 : Int) ≤ (ys.length : Int) := by omega
      go_enter Try.func39, Try.ntmps39
      go_wp2_with fail
      go_returns
      exact ⟨_, rfl, parts_ab HP.out h8 h2 HQ.out h8' h2', by go_grown⟩
    · have h8I' : ¬ (8 : Int) ≤ (ys.length : Int) := by omega
      go_enter Try.func39, Try.ntmps39
      go_wp2_with fail
      go_region_held3 (fun w' => w'.cell? ⟨g, 3, none⟩ = some (.slice A xs.length c) ∧ w'.cell? ⟨g', 3, none⟩ = some (.slice A' ys.length c'))
        ((refine ⟨?_, ?_⟩ <;> first | (with_reducible exact cell_below k3 (by assumption)) | (with_reducible exact cell_below q3 (by assumption)) | (go_keep; done)))
        (first
          | (go_at_call 28; (with_reducible refine (HBO.out _ (Below.refl _ _).drew).mono ?_); rintro e wx ⟨v, rfl, hO, hbx⟩; have hw1 : Below w.heap.size w wx := below_trans (Below.refl _ _).drew hbx; obtain ⟨Aa, na, ca, rfl⟩ := hO.slv.form; have HSa := Lib.hid (hO.slv.mono (K' := Fresh w) fun b h => h); clear hO)
          | (go_at_call 49; (with_reducible refine (leaves_c _ _ _ _ (xs ++ ys) _ (by have := HSa.out; rwa [← List.map_append] at this) (by rw [List.length_append]; omega) (by rw [List.length_append]; omega)).mono ?_); rintro e wy ⟨v, rfl, hP, hby⟩; have hw2 : Below w.heap.size w wy := below_trans hw1 hby)
          | fail)
      go_wp2_with fail
      go_returns
      refine ⟨_, rfl, ?_, hw2⟩
      rw [List.length_append] at hP
      exact hP.mono fun b h => h.elim (fun h => New.fresh h) fun h => New.fresh (Nat.le_trans hw1.size h)
  · have h8I : ¬ (8 : Int) ≤ (xs.length : Int) := by omega
    go_enter Try.func39, Try.ntmps39
    go_wp2_with fail
    go_region_held3 (fun w' => w'.cell? ⟨g, 3, none⟩ = some (.slice A xs.length c) ∧ w'.cell? ⟨g', 3, none⟩ = some (.slice A' ys.length c'))
      ((refine ⟨?_, ?_⟩ <;> first | (with_reducible exact cell_below k3 (by assumption)) | (with_reducible exact cell_below q3 (by assumption)) | (go_keep; done)))
      (first
        | (go_at_call 28; (with_reducible refine (HBO.out _ (Below.refl _ _).drew).mono ?_); rintro e wx ⟨v, rfl, hO, hbx⟩; have hw1 : Below w.heap.size w wx := below_trans (Below.refl _ _).drew hbx; obtain ⟨Aa, na, ca, rfl⟩ := hO.slv.form; have HSa := Lib.hid (hO.slv.mono (K' := Fresh w) fun b h => h); clear hO)
        | (go_at_call 49; (with_reducible refine (leaves_c _ _ _ _ (xs ++ ys) _ (by have := HSa.out; rwa [← List.map_append] at this) (by rw [List.length_append]; omega) (by rw [List.length_append]; omega)).mono ?_); rintro e wy ⟨v, rfl, hP, hby⟩; have hw2 : Below w.heap.size w wy := below_trans hw1 hby)
        | fail)
    go_wp2_with fail
    go_returns
    refine ⟨_, rfl, ?_, hw2⟩
    rw [List.length_append] at hP
    exact hP.mono fun b h => h.elim (fun h => New.fresh h) fun h => New.fresh (Nat.le_trans hw1.size h)

set_option maxHeartbeats 4000000 in
theorem glue_inner (K : Nat → Prop) (d : Nat) (p q : Option Addr) (c c' : Nat) (xs ys : List Int) (w : World) (h : RRep K w (d + 1) p c xs) (h' : RRep K w (d + 1) q c' ys) (h1 : 2 ≤ c) (h2 : c ≤ 16) (h1' : 2 ≤ c') (h2' : c' ≤ 16) (hd : d ≤ 90) (ht : (xs ++ ys).length ≤ 1000000) :
    Calls Try.prog 39 #[.pointer p, .pointer q] w (Ret (fun v w' => PartsP (New K w) (d + 1) (c + c') (xs ++ ys) v w') w) := by
  have hp := h
  have hq := h'
  obtain ⟨g, s, ks, rfl, hK, hg, hs, hks, rfl, rfl⟩ := h
  obtain ⟨g', s', ls, rfl, hK', hg', hs', hls, rfl, rfl⟩ := h'
  have hdep : ((d : Int) + 2 == 1) = false := beq_false_of_ne (by omega)
  obtain ⟨A, n, c, rfl⟩ := hs.form
  obtain ⟨A', n', c', rfl⟩ := hs'.form
  obtain rfl : n = ks.length := by have := hs.len; simpa using this
  obtain rfl : n' = ls.length := by have := hs'.len; simpa using this
  obtain ⟨⟨k0, k1, k2, k3⟩, -, -, -, -⟩ := box4 hg
  obtain ⟨⟨q0, q1, q2, q3⟩, -, -, -, -⟩ := box4 hg'
  clear hg hg' hK hK'
  have HBO := Lib.hid (fun W (hw : Below w.heap.size w W) => both_ptr' A ks.length c (ptrs ks) A' ls.length c' (ptrs ls) W K K (hs.below hw) (hs'.below hw) (by simp; omega) (by simp; omega))
  clear hs hs'
  have HP := Lib.hid hp; clear hp
  have HQ := Lib.hid hq; clear hq
  have HIN := Lib.hid (fun A n c W (hw : Below w.heap.size w W) (hS : SlV (Fresh w) W (.slice A n c) (ptrs ks ++ ptrs ls)) => inners_ab K d A n c ks ls w W hw hS hks hls (by omega) (by omega) (by omega) ht)
  clear hks hls ht
  by_cases h8 : 8 ≤ ks.length
  · have h8I : (8 : Int) ≤ (ks.length : Int) := by omega
    by_cases h8' : 8 ≤ ls.length
    · have h8I' : (8 : Int) ≤ (ls.length : Int) := by omega
      go_enter Try.func39, Try.ntmps39
      go_wp2_with fail
      go_returns
      exact ⟨_, rfl, parts_ab HP.out h8 h2 HQ.out h8' h2', by go_grown⟩
    · have h8I' : ¬ (8 : Int) ≤ (ls.length : Int) := by omega
      go_enter Try.func39, Try.ntmps39
      go_wp2_with fail
      go_region_held3 (fun w' => w'.cell? ⟨g, 2, none⟩ = some (.slice A ks.length c) ∧ w'.cell? ⟨g', 2, none⟩ = some (.slice A' ls.length c'))
        ((refine ⟨?_, ?_⟩ <;> first | (with_reducible exact cell_below k2 (by assumption)) | (with_reducible exact cell_below q2 (by assumption)) | (go_keep; done)))
        (first
          | (go_at_call 47; (with_reducible refine (HBO.out _ (Below.refl _ _).drew).mono ?_); rintro e wx ⟨v, rfl, hO, hbx⟩; have hw1 : Below w.heap.size w wx := below_trans (Below.refl _ _).drew hbx; obtain ⟨Aa, na, ca, rfl⟩ := hO.slv.form; have HSa := Lib.hid (hO.slv.mono (K' := Fresh w) fun b h => h); clear hO)
          | (go_at_call 48; (with_reducible refine (HIN.out _ _ _ _ hw1 HSa.out).mono ?_); rintro e wy ⟨v, rfl, hP, hby⟩; have hw2 : Below w.heap.size w wy := below_trans hw1 hby)
          | fail)
      go_wp2_with fail
      go_returns
      refine ⟨_, rfl, ?_, hw2⟩
      exact hP
  · have h8I : ¬ (8 : Int) ≤ (ks.length : Int) := by omega
    go_enter Try.func39, Try.ntmps39
    go_wp2_with fail
    go_region_held3 (fun w' => w'.cell? ⟨g, 2, none⟩ = some (.slice A ks.length c) ∧ w'.cell? ⟨g', 2, none⟩ = some (.slice A' ls.length c'))
      ((refine ⟨?_, ?_⟩ <;> first | (with_reducible exact cell_below k2 (by assumption)) | (with_reducible exact cell_below q2 (by assumption)) | (go_keep; done)))
      (first
        | (go_at_call 47; (with_reducible refine (HBO.out _ (Below.refl _ _).drew).mono ?_); rintro e wx ⟨v, rfl, hO, hbx⟩; have hw1 : Below w.heap.size w wx := below_trans (Below.refl _ _).drew hbx; obtain ⟨Aa, na, ca, rfl⟩ := hO.slv.form; have HSa := Lib.hid (hO.slv.mono (K' := Fresh w) fun b h => h); clear hO)
        | (go_at_call 48; (with_reducible refine (HIN.out _ _ _ _ hw1 HSa.out).mono ?_); rintro e wy ⟨v, rfl, hP, hby⟩; have hw2 : Below w.heap.size w wy := below_trans hw1 hby)
        | fail)
    go_wp2_with fail
    go_returns
    refine ⟨_, rfl, ?_, hw2⟩
    exact hP

end Go.Proofs.Ytcjpdjecgeenfaa.Ro
