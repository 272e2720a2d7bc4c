/- A node ahead of a deeper one. -/
import Derived.Test.YtcjpdjecgeenfaaRoF
set_option linter.unusedVariables false
set_option linter.unusedSimpArgs false
namespace Go.Proofs.Ytcjpdjecgeenfaa.Ro
open Go Go.RowKit Go.Proofs.Ytcjpdjecgeenfaa.Mem Go.Proofs.YtcjpdjecgeenfaaW.PrintWords

set_option maxHeartbeats 4000000 in
theorem ahead_step (K : Nat → Prop) (d e : Nat) (hd : d ≤ 80) (he : e ≤ d)
    (ih : e < d → ∀ (q p : Option Addr) (c' c : Nat) (ys xs : List Int) (w : World), RRep K w e q c' ys → RRep K w d p c xs → 2 ≤ c → c ≤ 16 → Top e c' → (ys ++ xs).length ≤ 1000000 →
      Calls Try.prog 38 #[.pointer q, .pointer p] w (Ret (fun v w' => PartsP (New K w) d c (ys ++ xs) v w') w))
    (q p : Option Addr) (c' c : Nat) (ys xs : List Int) (w : World) (h' : RRep K w e q c' ys) (h : RRep K w (d + 1) p c xs) (hc : 2 ≤ c) (hc16 : c ≤ 16) (ht : Top e c') (hl : (ys ++ xs).length ≤ 1000000) :
    Calls Try.prog 38 #[.pointer q, .pointer p] w (Ret (fun v w' => PartsP (New K w) (d + 1) c (ys ++ xs) v w') w) := by
  have hq := h'
  obtain ⟨g, s, ks, rfl, hK, hg, hs, hks, rfl, rfl⟩ := h
  obtain ⟨gq, a0, b0, rfl, hKq, hgq⟩ := h'.head
  obtain ⟨last, init, rfl⟩ : ∃ last init, ks = last :: init := by
    cases ks with
    | nil => simp at hc
    | cons x ys => exact ⟨x, ys, rfl⟩
  rw [List.length_cons] at hc hc16
  obtain ⟨A, n, cap, rfl⟩ := hs.form
  obtain rfl : n = init.length + 1 := by have := hs.len; simpa using this
  obtain ⟨ad, rfl, hcell⟩ := hs.addr (by simp)
  have hcap : init.length + 1 ≤ cap := by obtain ⟨_, _, e, h3, _⟩ := hs; injection e with _ _ e3; subst e3; simpa using h3
  obtain ⟨hlast, hl8, hl16⟩ := hks last (by simp)
  obtain ⟨gl, a1, b1, el, hKl, hgl⟩ := hlast.head
  have cl : w.cell? ad = some (.pointer (some ⟨gl, 0, none⟩)) := by have := hcell 0 (.pointer last.1) (by simp); rw [el] at this; simpa [Addr.add] using this
  have dl : w.cell? ⟨gl, 1, none⟩ = some (.int .i64 ((d : Int) + 1)) := blk_cell hgl 1
  have dq : w.cell? ⟨gq, 1, none⟩ = some (.int .i64 ((e : Int) + 1)) := blk_cell hgq 1
  have kk : w.cell? ⟨g, 2, none⟩ = some (.slice (some ad) (init.length + 1) cap) := blk_cell hg 2
  have hth : things (last :: init) = last.2.2 ++ things init := rfl
  have hlen2 : (ys ++ last.2.2).length ≤ 1000000 := by rw [hth] at hl; simp at hl ⊢; omega
  have hst := hs.drop 1 (by simp)
  have hst' : SlV K w (.slice (some ⟨ad.block, ad.off + 1, none⟩) init.length (cap - 1)) (ptrs init) := by
    rw [show ad.add 1 = ⟨ad.block, ad.off + 1, none⟩ from rfl] at hst
    simpa using hst
  have hlenI : (init.length : Int) ≤ 15 := by omega
  have hi1 : (1 : Int) ≤ (init.length : Int) := by omega
  have hi2 : (init.length : Int) < (init.length : Int) + 1 := by omega
  have hicap : (init.length : Int) + 1 ≤ (cap : Int) := by omega
  have hcap1 : ¬ cap = 1 := by omega
  have HBO := Lib.hid (fun W (hw : Below w.heap.size w W) A' n' c' (ps : List Kid) (hp : SlV (New K w) W (.slice A' n' c') (ptrs ps)) (h2 : ps.length ≤ 2) => both_ptr' A' n' c' (ptrs ps) (some ⟨ad.block, ad.off + 1, none⟩) init.length (cap - 1) (ptrs init) W (New K w) K hp (hst'.below hw) (by simp; omega) (by simp; omega))
  have HIN := Lib.hid (fun W (hw : Below w.heap.size w W) A' n' c' (ps : List Kid) (hp : SlV (New K w) W (.slice A' n' c') (ptrs ps ++ ptrs init)) (hall : ∀ k ∈ ps, RRep (New K w) W d k.1 k.2.1 k.2.2 ∧ 8 ≤ k.2.1 ∧ k.2.1 ≤ 16) (h1 : 1 ≤ ps.length) (h2 : ps.length ≤ 2) (h3 : things ps = ys ++ last.2.2) =>
    (show Calls Try.prog 48 #[.slice A' n' c'] W (Ret (fun v w' => PartsP (New K w) (d + 1) (last :: init).length (ys ++ things (last :: init)) v w') W) from by
      have hth2 : things (ps ++ init) = ys ++ things (last :: init) := by rw [things_append, h3, hth, List.append_assoc]
      refine (inners_c (New K w) d A' n' c' (ps ++ init) W (by rw [ptrs_append]; exact hp) (fun k hk => (List.mem_append.1 hk).elim (hall k) fun h => ⟨((hks k (by simp [h])).1.below hw).mono fun b h => New.old h, (hks k (by simp [h])).2⟩) (by rw [List.length_append]; omega) (by rw [List.length_append]; omega) (by omega) (by rw [hth2]; exact hl)).mono ?_
      rintro e w' ⟨v, rfl, hP, hb⟩
      rw [hth2] at hP
      exact ⟨v, rfl, (hP.mono fun b h => h.elim id fun h => New.fresh (Nat.le_trans hw.size h)).less (by rw [List.length_append, List.length_cons]; omega), hb⟩))
  rw [el] at hlast
  have HLQ := Lib.hid (fun W (hw : Below w.heap.size w W) => And.intro (hq.below hw) (hlast.below hw))
  clear hs hks hst hst' hcell hg hgq hgl hK hKq hKl h' hl
  by_cases hed : e = d
  · have hde : ((d : Int) + 1 == (e : Int) + 1) = true := by rw [hed]; simp
    subst hed
    have HPC := Lib.hid (fun W (hw : Below w.heap.size w W) => (show Calls Try.prog 39 #[.pointer (some ⟨gq, 0, none⟩), .pointer (some ⟨gl, 0, none⟩)] W (Ret (fun v w' => PartsP (New K w) e (c' + last.2.1) (ys ++ last.2.2) v w') W) from by
        refine (glue_c K e _ _ _ _ _ _ W (HLQ.out W hw).1 (HLQ.out W hw).2 ht ⟨by omega, hl16, by omega⟩ (by omega) hlen2).mono ?_
        rintro e' w' ⟨v, rfl, hP, hb⟩
        exact ⟨v, rfl, hP.mono fun b h => h.elim New.old fun h => New.fresh (Nat.le_trans hw.size h), hb⟩))
    clear hlast hq hlen2 ht
    go_enter Try.func38, Try.ntmps38
    go_wp2_with fail
    go_quiet (fail)
    go_wp2_with (first
      | (go_at_call 39; ((with_reducible refine (HPC.out _ (Drawn0.mk ⟨_, rfl⟩).below).mono ?_); rintro e w1 ⟨v, rfl, hP, hb1⟩; obtain ⟨ps, hps1, hps2, hps3, hps4, hps5⟩ := hP.kids (by omega); obtain ⟨Ap, np, cp, rfl⟩ := hps1.form; have hB1 : Below w.heap.size w w1 := below_trans (Drawn0.mk ⟨_, rfl⟩).below hb1; have k1 := cell_below kk hB1; have HP1 := Lib.hid hps1; have HP2 := Lib.hid hps2; have HP3 := Lib.hid hps3; clear hps1 hps2 hps3 hP HPC))
      | (go_at_call 47; ((with_reducible refine (HBO.out _ hB1 _ _ _ ps HP1.out hps5).mono ?_); rintro e w2 ⟨v, rfl, hO, hb2⟩; obtain ⟨Ao, no, co, rfl⟩ := hO.slv.form; have hB2 : Below w.heap.size w w2 := below_trans hB1 hb2; have HSO := Lib.hid (hO.slv.mono (K' := New K w) fun b h => New.fresh (Nat.le_trans hB1.size h)); clear hO))
      | (go_at_call 48; ((with_reducible refine (HIN.out _ hB2 _ _ _ ps HSO.out (fun k hk => ⟨(HP2.out k hk).1.below hb2, (HP2.out k hk).2⟩) hps4 hps5 HP3.out).mono ?_); rintro e w3 ⟨v, rfl, hR, hb3⟩)))
    go_returns
    exact ⟨_, rfl, hR, below_trans hB2 hb3⟩
  · have hde : ((d : Int) + 1 == (e : Int) + 1) = false := beq_false_of_ne (by omega)
    have HPC := Lib.hid (fun W (hw : Below w.heap.size w W) => (show Calls Try.prog 38 #[.pointer (some ⟨gq, 0, none⟩), .pointer (some ⟨gl, 0, none⟩)] W (Ret (fun v w' => PartsP (New K w) d (last.2.1) (ys ++ last.2.2) v w') W) from by
        refine (ih (by omega) _ _ _ _ _ _ W (HLQ.out W hw).1 (HLQ.out W hw).2 (by omega) hl16 ht hlen2).mono ?_
        rintro e' w' ⟨v, rfl, hP, hb⟩
        exact ⟨v, rfl, hP.mono fun b h => h.elim New.old fun h => New.fresh (Nat.le_trans hw.size h), hb⟩))
    clear hlast hq hlen2 ht
    go_enter Try.func38, Try.ntmps38
    go_wp2_with fail
    go_quiet (fail)
    go_wp2_with (first
      | (go_at_call 38; ((with_reducible refine (HPC.out _ (Drawn0.mk ⟨_, rfl⟩).below).mono ?_); rintro e w1 ⟨v, rfl, hP, hb1⟩; obtain ⟨ps, hps1, hps2, hps3, hps4, hps5⟩ := hP.kids (by omega); obtain ⟨Ap, np, cp, rfl⟩ := hps1.form; have hB1 : Below w.heap.size w w1 := below_trans (Drawn0.mk ⟨_, rfl⟩).below hb1; have k1 := cell_below kk hB1; have HP1 := Lib.hid hps1; have HP2 := Lib.hid hps2; have HP3 := Lib.hid hps3; clear hps1 hps2 hps3 hP HPC))
      | (go_at_call 47; ((with_reducible refine (HBO.out _ hB1 _ _ _ ps HP1.out hps5).mono ?_); rintro e w2 ⟨v, rfl, hO, hb2⟩; obtain ⟨Ao, no, co, rfl⟩ := hO.slv.form; have hB2 : Below w.heap.size w w2 := below_trans hB1 hb2; have HSO := Lib.hid (hO.slv.mono (K' := New K w) fun b h => New.fresh (Nat.le_trans hB1.size h)); clear hO))
      | (go_at_call 48; ((with_reducible refine (HIN.out _ hB2 _ _ _ ps HSO.out (fun k hk => ⟨(HP2.out k hk).1.below hb2, (HP2.out k hk).2⟩) hps4 hps5 HP3.out).mono ?_); rintro e w3 ⟨v, rfl, hR, hb3⟩)))
    go_returns
    exact ⟨_, rfl, hR, below_trans hB2 hb3⟩

/-- A NODE AHEAD OF A DEEPER ONE. -/
theorem ahead_c (K : Nat → Prop) : ∀ (d e : Nat), d ≤ 80 → e < d → ∀ (q p : Option Addr) (c' c : Nat) (ys xs : List Int) (w : World), RRep K w e q c' ys → RRep K w d p c xs → 2 ≤ c → c ≤ 16 → Top e c' → (ys ++ xs).length ≤ 1000000 →
      Calls Try.prog 38 #[.pointer q, .pointer p] w (Ret (fun v w' => PartsP (New K w) d c (ys ++ xs) v w') w)
  | 0, _, _, he => absurd he (by omega)
  | d + 1, e, hd, he => fun q p c' c ys xs w h' h hc hc16 ht hl => ahead_step K d e (by omega) (by omega) (fun hed => ahead_c K d e (by omega) hed) q p c' c ys xs w h' h hc hc16 ht hl
end Go.Proofs.Ytcjpdjecgeenfaa.Ro
