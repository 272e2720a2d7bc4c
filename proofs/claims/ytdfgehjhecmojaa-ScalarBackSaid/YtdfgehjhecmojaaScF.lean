/- The law ScalarBack over the printed functions: true for every input. -/
import Derived.Test.YtdfgehjhecmojaaScE
import Derived.Test.YtdfgehjhecmojaaPSx9
set_option linter.unusedVariables false
set_option linter.unusedSimpArgs false
namespace Go.Proofs.Ytdfgehjhecmojaa.Sc
open Go Go.RowKit Go.Proofs.Ytdfgehjhecmojaa.PS Go.Proofs.YtdfgehjhecmojaaW.PrintWords Go.Proofs.YtdfgehjhecmojaaW.PrintLast Go.Proofs.Ytdfgehjhecmojaa.Bs

theorem keyL_length (a b : Int) (l : List UInt8) : (keyL a b l).length ≤ 2 * l.length + 20 := by
  have h8 := b8_length (b + 9223372036854775808)
  have hc := cov_length l
  unfold keyL
  repeat' split
  all_goals simp only [List.length_nil, List.length_cons, List.length_append, h8]
  all_goals omega

theorem back_j2 (c : Int) (a b : Int) (l : List UInt8) (hl : l.length ≤ 2000) (hc : chk a b l = 0) :
    Ev (fun k => placketlaw05_ScalarBack.j2 k c (bs (keyL a b l)) false) true := by
  have hk := keyL_length a b l
  refine Ev.shift 1 ?_
  simp only [placketlaw05_ScalarBack.j2, Bool.false_eq_true, if_false, bs_size]
  by_cases h0 : c < 0
  · simp only [h0, if_true]; exact Ev.now _
  · simp only [h0, if_false]
    by_cases h1 : c ≥ ((keyL a b l).length : Int)
    · simp only [h1, if_true]; exact Ev.now _
    · obtain ⟨t, rfl⟩ : ∃ t : Nat, c = t := ⟨c.toNat, by omega⟩
      have h2 : (0 : Int) ≤ (t : Int) := by omega
      have h3 : (t : Int) ≤ ((keyL a b l).length : Int) := by omega
      simp only [h1, if_false, h2, h3, if_true, bs_extract, Int.toNat_natCast, List.drop_zero]
      have hu := unk_cut a b l hc t (by omega)
      refine Ev.bind (unkey_ev _ (by rw [List.length_take]; omega)) ?_
      have e1 : (tellU (unkL ((keyL a b l).take t))).2.2.2.1 = (t : Int) := by show (((unkL ((keyL a b l).take t)).2.2.2.1 : Nat) : Int) = _; rw [hu]
      have e2 : (tellU (unkL ((keyL a b l).take t))).2.2.2.2 = 10 := by show (unkL ((keyL a b l).take t)).2.2.2.2 = _; rw [hu]
      simp only [e1, e2, if_true, beq_self_eq_true]
      exact Ev.now _

theorem back_j1 (a b : Int) (l y : List UInt8) (c : Int) (hl : l.length ≤ 2000) (hy : y.length ≤ 2000) (h0 : -9223372036854775808 ≤ b) (h1 : b ≤ 9223372036854775807) :
    Ev (fun k => placketlaw05_ScalarBack.j1 k (bs y) c false a b (bs l)) true := by
  have hk := keyL_length a b l
  refine Ev.shift 1 ?_
  simp only [placketlaw05_ScalarBack.j1, Bool.false_eq_true, if_false]
  refine Ev.bind (key_ev a b l (by omega) h0 h1) ?_
  refine Ev.bind (Ev.ge 2 fun k => check_at k a b l) ?_
  by_cases hc : chk a b l = 0
  · have hs : (keyL a b l).length + y.length ≤ 9223372036854775807 := by omega
    simp only [hc, if_true, bs_size, hs, bs_append]
    have hu := unk_key a b l y hc h0 h1
    refine Ev.bind (unkey_ev _ (by rw [List.length_append]; omega)) ?_
    rw [hu]
    show Ev (fun k => (scalar_Same.f a b (bs l) a b (bs l)).bind fun t254 => _) true
    rw [same_at]
    simp only [Option.bind_some, beq_self_eq_true, Bool.and_self, if_true, tellU, bne_self_eq_false]
    exact back_j2 c a b l hl hc
  · have hn : keyL a b l = [] := by unfold keyL; rw [if_pos hc]
    simp only [hc, if_false, hn, bs_toList, beq_self_eq_true]
    exact Ev.now _

theorem back_ev (a b : Int) (l y : List UInt8) (c : Int) (h0 : -9223372036854775808 ≤ b) (h1 : b ≤ 9223372036854775807) :
    Ev (fun k => placketlaw05_ScalarBack.f k a b (bs l) (bs y) c) true := by
  have hj : Ev (fun k => placketlaw05_ScalarBack.j0 k (bs y) c true a b (bs l)) true := by
    refine Ev.shift 1 ?_
    simp only [placketlaw05_ScalarBack.j0, if_true]
    exact Ev.bind live_ev (Ev.now _)
  unfold placketlaw05_ScalarBack.f
  refine Ev.bind live_ev ?_
  simp only [if_true, short_at, Option.bind_some, bs_size]
  by_cases hl : l.length ≤ 2000
  · simp only [hl, decide_true, if_true]
    by_cases hy : (y.length : Int) > 2000
    · simp only [hy, decide_true]; exact hj
    · simp only [hy, decide_false]
      refine Ev.shift 1 ?_
      simp only [placketlaw05_ScalarBack.j0, Bool.false_eq_true, if_false]
      have hgo := back_j1 a b l y c hl (by omega) h0 h1
      refine Ev.bind (unkey_ev y (by omega)) ?_
      by_cases he : (unkL y).2.2.2.2 = 0
      · obtain ⟨q1, q2, q3, q4, q5, q6, q7⟩ := unk_inv y he
        have e0 : (tellU (unkL y)).2.2.2.2 = 0 := he
        have e1 : ¬ (tellU (unkL y)).2.2.2.1 < 1 := by show ¬ (((unkL y).2.2.2.1 : Nat) : Int) < 1; omega
        have e2 : ¬ (tellU (unkL y)).2.2.2.1 > (y.length : Int) := by show ¬ (((unkL y).2.2.2.1 : Nat) : Int) > _; omega
        have e3 : (0 : Int) ≤ (tellU (unkL y)).2.2.2.1 := by omega
        have e4 : (tellU (unkL y)).2.2.2.1 ≤ (y.length : Int) := by omega
        simp only [e0, if_true, e1, if_false, bs_size, e2, e3, e4]
        refine Ev.bind (Ev.ge 2 fun k => check_at k (unkL y).1 (unkL y).2.1 (unkL y).2.2.1) ?_
        simp only [q3, if_true]
        refine Ev.bind (key_ev (unkL y).1 (unkL y).2.1 (unkL y).2.2.1 (by omega) q5 q6) ?_
        have e5 : ((bs (keyL (unkL y).1 (unkL y).2.1 (unkL y).2.2.1)).toList != ((bs y).extract 0 ((tellU (unkL y)).2.2.2.1).toNat).toList) = false := by
          show ((bs (keyL (unkL y).1 (unkL y).2.1 (unkL y).2.2.1)).toList != ((bs y).extract 0 ((((unkL y).2.2.2.1 : Nat) : Int)).toNat).toList) = false
          rw [Int.toNat_natCast, bs_extract, bs_toList, bs_toList, List.drop_zero, q4, bne_self_eq_false]
        rw [e5]
        exact hgo
      · have e0 : ¬ (tellU (unkL y)).2.2.2.2 = 0 := he
        simp only [e0, if_false]
        exact hgo
  · simp only [hl, decide_false, Bool.false_eq_true, if_false]; exact hj

theorem back_walk (a b : Int) (s : ByteArray) (y : ByteArray) (c : Int) (w : World) (_ : (Lit.int .i64 a).wf = true) (wb : (Lit.int .i64 b).wf = true) (_ : y.size ≤ 140737488351232) (_ : (Lit.int .i64 c).wf = true) :
    Calls Try.prog 7 #[.agg #[.int .i64 a, .int .i64 b, .string s], .string y, .int .i64 c] w fun e w' => e = .returned (.bool true) ∧ Below w.heap.size w w' := by
  obtain ⟨h0, h1⟩ := i64_range wb
  obtain ⟨k, h⟩ := (back_ev a b s.data.toList y.data.toList c h0 h1).rounds
  rw [← bs_of s, ← bs_of y] at h
  exact placketlaw05_ScalarBack.calls k a b s y c true w h

end Go.Proofs.Ytdfgehjhecmojaa.Sc
