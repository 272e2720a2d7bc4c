/- A node behind a deeper one. -/
import Derived.Test.YtcjpdjecgeenfaaRoE
import Derived.Deep.QuietTactic
import Derived.BigQuiet
set_option linter.unusedVariables false
set_option linter.unusedSimpArgs false
namespace Go.Proofs.Ytcjpdjecgeenfaa.Ro
open Go Go.RowKit Go.Proofs.Ytcjpdjecgeenfaa.Mem Go.Proofs.YtcjpdjecgeenfaaW.PrintWords

/-- how many things or kids a tree's first node has -/
def Top (d c : Nat) : Prop := 1 ≤ c ∧ c ≤ 16 ∧ (d = 0 ∨ 2 ≤ c)

theorem glue_c (K : Nat → Prop) (d : Nat) (p q : Option Addr) (c c' : Nat) (xs ys : List Int) (w : World) (h : RRep K w d p c xs) (h' : RRep K w d q c' ys) (h1 : Top d c) (h2 : Top d c') (hd : d ≤ 90) (ht : (xs ++ ys).length ≤ 1000000) :
    Calls Try.prog 39 #[.pointer p, .pointer q] w (Ret (fun v w' => PartsP (New K w) d (c + c') (xs ++ ys) v w') w) := by
  cases d with
  | zero => exact glue_leaf K p q c c' xs ys w h h' h1.1 h1.2.1 h2.1 h2.2.1
  | succ d =>
    obtain ⟨_, a2, a3⟩ := h1
    obtain ⟨_, b2, b3⟩ := h2
    exact glue_inner K d p q c c' xs ys w h h' (by omega) a2 (by omega) b2 (by omega) ht

theorem PartsP.kids {K : Nat → Prop} {d m : Nat} {xs : List Int} {v : Value} {w : World} (h : PartsP K d m xs v w) (h8 : 8 ≤ m) : ∃ ps : List Kid, SlV K w v (ptrs ps) ∧ (∀ k ∈ ps, RRep K w d k.1 k.2.1 k.2.2 ∧ 8 ≤ k.2.1 ∧ k.2.1 ≤ 16) ∧ things ps = xs ∧ 1 ≤ ps.length ∧ ps.length ≤ 2 := by
  obtain ⟨ps, h1, h2, h3⟩ := h
  exact ⟨ps, h1, fun k hk => ⟨(h2 k hk).1, by have := (h2 k hk).2.1; omega, (h2 k hk).2.2⟩, h3.1, h3.2.1, h3.2.2.1⟩

theorem PartsP.less {K : Nat → Prop} {d m m' : Nat} {xs : List Int} {v : Value} {w : World} (h : PartsP K d m xs v w) (hm : m' ≤ m) : PartsP K d m' xs v w := by
  obtain ⟨ps, h1, h2, h3⟩ := h
  exact ⟨ps, h1, fun k hk => ⟨(h2 k hk).1, by have := (h2 k hk).2.1; omega, (h2 k hk).2.2⟩, h3⟩

set_option maxHeartbeats 4000000 in
theorem behind_step (K : Nat → Prop) (d e : Nat) (hd : d ≤ 80) (he : e ≤ d)
    (ih : e < d → ∀ (p q : Option Addr) (c c' : Nat) (xs ys : List Int) (w : World), RRep K w d p c xs → RRep K w e q c' ys → 2 ≤ c → c ≤ 16 → Top e c' → (xs ++ ys).length ≤ 1000000 →
      Calls Try.prog 37 #[.pointer p, .pointer q] w (Ret (fun v w' => PartsP (New K w) d c (xs ++ ys) v w') w))
    (p q : Option Addr) (c c' : Nat) (xs ys : List Int) (w : World) (h : RRep K w (d + 1) p c xs) (h' : RRep K w e q c' ys) (hc : 2 ≤ c) (hc16 : c ≤ 16) (ht : Top e c') (hl : (xs ++ ys).length ≤ 1000000) :
    Calls Try.prog 37 #[.pointer p, .pointer q] w (Ret (fun v w' => PartsP (New K w) (d + 1) c (xs ++ ys) v w') w) := by
  have hq := h'
  obtain ⟨g, s, ks, rfl, hK, hg, hs, hks, rfl, rfl⟩ := h
  obtain ⟨gq, a0, b0, rfl, hKq, hgq⟩ := h'.head
  obtain ⟨init, last, rfl⟩ : ∃ init last, ks = init ++ [last] := by
    rcases List.eq_nil_or_concat ks with rfl | ⟨ys, x, h⟩
    · simp at hc
    · exact ⟨ys, x, by rw [h, List.concat_eq_append]⟩
  rw [List.length_append, List.length_singleton] at hc hc16
  obtain ⟨A, n, cap, rfl⟩ := hs.form
  obtain rfl : n = init.length + 1 := by have := hs.len; simpa using this
  obtain ⟨ad, rfl, hcell⟩ := hs.addr (by simp)
  have hcap : init.length + 1 ≤ cap := by obtain ⟨_, _, e, h3, _⟩ := hs; injection e with _ _ e3; subst e3; simpa using h3
  obtain ⟨hlast, hl8, hl16⟩ := hks last (by simp)
  obtain ⟨gl, a1, b1, el, hKl, hgl⟩ := hlast.head
  have cl : w.cell? (ad.add init.length) = some (.pointer (some ⟨gl, 0, none⟩)) := by have := hcell init.length (.pointer last.1) (by simp); rw [el] at this; exact this
  have dl : w.cell? ⟨gl, 1, none⟩ = some (.int .i64 ((d : Int) + 1)) := blk_cell hgl 1
  have dq : w.cell? ⟨gq, 1, none⟩ = some (.int .i64 ((e : Int) + 1)) := blk_cell hgq 1
  have kk : w.cell? ⟨g, 2, none⟩ = some (.slice (some ad) (init.length + 1) cap) := blk_cell hg 2
  have hth : things (init ++ [last]) = things init ++ last.2.2 := by rw [things_append]; simp [things]
  have hlen2 : (last.2.2 ++ ys).length ≤ 1000000 := by rw [hth] at hl; simp at hl ⊢; omega
  have hst := hs.take init.length (by simp)
  have hst' : SlV K w (.slice (some ad) init.length cap) (ptrs init) := by rw [ptrs_append, List.take_left' (by simp)] at hst; exact hst
  have hlenI : (init.length : Int) ≤ 15 := by omega
  have hi1 : (1 : Int) ≤ (init.length : Int) := by omega
  have hi2 : (init.length : Int) < (init.length : Int) + 1 := by omega
  have hicap : (init.length : Int) ≤ (cap : Int) := by omega
  have HBO := Lib.hid (fun W (hw : Below w.heap.size w W) A' n' c' (ps : List Kid) (hp : SlV (New K w) W (.slice A' n' c') (ptrs ps)) (h2 : ps.length ≤ 2) => both_ptr' (some ad) init.length cap (ptrs init) A' n' c' (ptrs ps) W K (New K w) (hst'.below hw) hp (by simp; omega) (by simp; omega))
  have HIN := Lib.hid (fun W (hw : Below w.heap.size w W) A' n' c' (ps : List Kid) (hp : SlV (New K w) W (.slice A' n' c') (ptrs init ++ ptrs ps)) (hall : ∀ k ∈ ps, RRep (New K w) W d k.1 k.2.1 k.2.2 ∧ 8 ≤ k.2.1 ∧ k.2.1 ≤ 16) (h1 : 1 ≤ ps.length) (h2 : ps.length ≤ 2) (h3 : things ps = last.2.2 ++ ys) =>
    (show Calls Try.prog 48 #[.slice A' n' c'] W (Ret (fun v w' => PartsP (New K w) (d + 1) (init ++ [last]).length (things (init ++ [last]) ++ ys) v w') W) from by
      have hth2 : things (init ++ ps) = things (init ++ [last]) ++ ys := by rw [things_append, h3, hth, List.append_assoc]
      refine (inners_c (New K w) d A' n' c' (init ++ ps) W (by rw [ptrs_append]; exact hp) (fun k hk => (List.mem_append.1 hk).elim (fun h => ⟨((hks k (by simp [h])).1.below hw).mono fun b h => New.old h, (hks k (by simp [h])).2⟩) (hall k)) (by rw [List.length_append]; omega) (by rw [List.length_append]; omega) (by omega) (by rw [hth2]; exact hl)).mono ?_
      rintro e w' ⟨v, rfl, hP, hb⟩
      rw [hth2] at hP
      exact ⟨v, rfl, (hP.mono fun b h => h.elim id fun h => New.fresh (Nat.le_trans hw.size h)).less (by rw [List.length_append, List.length_append]; simp; omega), hb⟩))
  rw [el] at hlast
  have HLQ := Lib.hid (fun W (hw : Below w.heap.size w W) => And.intro (hlast.below hw) (hq.below hw))
  clear hs hks hst hst' hcell hg hgq hgl hK hKq hKl h' hl
  by_cases hed : e = d
  · have hde : ((d : Int) + 1 == (e : Int) + 1) = true := by rw [hed]; simp
    subst hed
    have HPC := Lib.hid (fun W (hw : Below w.heap.size w W) => (show Calls Try.prog 39 #[.pointer (some ⟨gl, 0, none⟩), .pointer (some ⟨gq, 0, none⟩)] W (Ret (fun v w' => PartsP (New K w) e (last.2.1 + c') (last.2.2 ++ ys) v w') W) from by
        refine (glue_c K e _ _ _ _ _ _ W (HLQ.out W hw).1 (HLQ.out W hw).2 ⟨by omega, hl16, by omega⟩ ht (by omega) hlen2).mono ?_
        rintro e' w' ⟨v, rfl, hP, hb⟩
        exact ⟨v, rfl, hP.mono fun b h => h.elim New.old fun h => New.fresh (Nat.le_trans hw.size h), hb⟩))
    clear hlast hq hlen2 ht
    go_enter Try.func37, Try.ntmps37
    go_wp2_with fail
    go_quiet (fail)
    go_wp2_with (first
      | (go_at_call 39; ((with_reducible refine (HPC.out _ (Drawn0.mk ⟨_, rfl⟩).below).mono ?_); rintro e w1 ⟨v, rfl, hP, hb1⟩; obtain ⟨ps, hps1, hps2, hps3, hps4, hps5⟩ := hP.kids (by omega); obtain ⟨Ap, np, cp, rfl⟩ := hps1.form; have hB1 : Below w.heap.size w w1 := below_trans (Drawn0.mk ⟨_, rfl⟩).below hb1; have k1 := cell_below kk hB1; have HP1 := Lib.hid hps1; have HP2 := Lib.hid hps2; have HP3 := Lib.hid hps3; clear hps1 hps2 hps3 hP HPC))
      | (go_at_call 47; ((with_reducible refine (HBO.out _ hB1 _ _ _ ps HP1.out hps5).mono ?_); rintro e w2 ⟨v, rfl, hO, hb2⟩; obtain ⟨Ao, no, co, rfl⟩ := hO.slv.form; have hB2 : Below w.heap.size w w2 := below_trans hB1 hb2; have HSO := Lib.hid (hO.slv.mono (K' := New K w) fun b h => New.fresh (Nat.le_trans hB1.size h)); clear hO))
      | (go_at_call 48; ((with_reducible refine (HIN.out _ hB2 _ _ _ ps HSO.out (fun k hk => ⟨(HP2.out k hk).1.below hb2, (HP2.out k hk).2⟩) hps4 hps5 HP3.out).mono ?_); rintro e w3 ⟨v, rfl, hR, hb3⟩)))
    go_returns
    exact ⟨_, rfl, hR, below_trans hB2 hb3⟩
  · have hde : ((d : Int) + 1 == (e : Int) + 1) = false := beq_false_of_ne (by omega)
    have HPC := Lib.hid (fun W (hw : Below w.heap.size w W) => (show Calls Try.prog 37 #[.pointer (some ⟨gl, 0, none⟩), .pointer (some ⟨gq, 0, none⟩)] W (Ret (fun v w' => PartsP (New K w) d (last.2.1) (last.2.2 ++ ys) v w') W) from by
        refine (ih (by omega) _ _ _ _ _ _ W (HLQ.out W hw).1 (HLQ.out W hw).2 (by omega) hl16 ht hlen2).mono ?_
        rintro e' w' ⟨v, rfl, hP, hb⟩
        exact ⟨v, rfl, hP.mono fun b h => h.elim New.old fun h => New.fresh (Nat.le_trans hw.size h), hb⟩))
    clear hlast hq hlen2 ht
    go_enter Try.func37, Try.ntmps37
    go_wp2_with fail
    go_quiet (fail)
    go_wp2_with (first
      | (go_at_call 37; ((with_reducible refine (HPC.out _ (Drawn0.mk ⟨_, rfl⟩).below).mono ?_); rintro e w1 ⟨v, rfl, hP, hb1⟩; obtain ⟨ps, hps1, hps2, hps3, hps4, hps5⟩ := hP.kids (by omega); obtain ⟨Ap, np, cp, rfl⟩ := hps1.form; have hB1 : Below w.heap.size w w1 := below_trans (Drawn0.mk ⟨_, rfl⟩).below hb1; have k1 := cell_below kk hB1; have HP1 := Lib.hid hps1; have HP2 := Lib.hid hps2; have HP3 := Lib.hid hps3; clear hps1 hps2 hps3 hP HPC))
      | (go_at_call 47; ((with_reducible refine (HBO.out _ hB1 _ _ _ ps HP1.out hps5).mono ?_); rintro e w2 ⟨v, rfl, hO, hb2⟩; obtain ⟨Ao, no, co, rfl⟩ := hO.slv.form; have hB2 : Below w.heap.size w w2 := below_trans hB1 hb2; have HSO := Lib.hid (hO.slv.mono (K' := New K w) fun b h => New.fresh (Nat.le_trans hB1.size h)); clear hO))
      | (go_at_call 48; ((with_reducible refine (HIN.out _ hB2 _ _ _ ps HSO.out (fun k hk => ⟨(HP2.out k hk).1.below hb2, (HP2.out k hk).2⟩) hps4 hps5 HP3.out).mono ?_); rintro e w3 ⟨v, rfl, hR, hb3⟩)))
    go_returns
    exact ⟨_, rfl, hR, below_trans hB2 hb3⟩

/-- A NODE BEHIND A DEEPER ONE. -/
theorem behind_c (K : Nat → Prop) : ∀ (d e : Nat), d ≤ 80 → e < d → ∀ (p q : Option Addr) (c c' : Nat) (xs ys : List Int) (w : World), RRep K w d p c xs → RRep K w e q c' ys → 2 ≤ c → c ≤ 16 → Top e c' → (xs ++ ys).length ≤ 1000000 →
      Calls Try.prog 37 #[.pointer p, .pointer q] w (Ret (fun v w' => PartsP (New K w) d c (xs ++ ys) v w') w)
  | 0, _, _, he => absurd he (by omega)
  | d + 1, e, hd, he => fun p q c c' xs ys w h h' hc hc16 ht hl => behind_step K d e (by omega) (by omega) (fun hed => behind_c K d e (by omega) hed) p q c c' xs ys w h h' hc hc16 ht hl
end Go.Proofs.Ytcjpdjecgeenfaa.Ro
