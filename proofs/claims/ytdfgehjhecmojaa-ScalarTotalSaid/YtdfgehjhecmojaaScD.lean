/- The laws ScalarChecks, ScalarReads and ScalarOrders over the printed functions: true for every input. -/
import Derived.Test.YtdfgehjhecmojaaScC
import Derived.Test.YtdfgehjhecmojaaPSx4
set_option linter.unusedVariables false
set_option linter.unusedSimpArgs false
namespace Go.Proofs.Ytdfgehjhecmojaa.Sc
open Go Go.RowKit Go.Proofs.Ytdfgehjhecmojaa.PS Go.Proofs.YtdfgehjhecmojaaW.PrintWords Go.Proofs.YtdfgehjhecmojaaW.PrintLast Go.Proofs.Ytdfgehjhecmojaa.Bs

theorem live_ev : Ev (fun k => placketlaw05_live.f k) true := Ev.of placketlaw05_live.mono (k := 30) (by decide +kernel)

theorem i64_range {b : Int} (h : (Lit.int .i64 b).wf = true) : -9223372036854775808 ≤ b ∧ b ≤ 9223372036854775807 := by
  simpa [Lit.wf, IntKind.min, IntKind.max, IntKind.bits, IntKind.signed] using h

theorem short_at (a b : Int) (l : List UInt8) : placketlaw05_short.f a b (bs l) = some (decide (l.length ≤ 2000)) := by
  unfold placketlaw05_short.f
  rw [bs_size]
  congr 1
  exact decide_eq_decide.mpr (by omega)

theorem checks_ev (a b : Int) (l : List UInt8) (h0 : -9223372036854775808 ≤ b) (h1 : b ≤ 9223372036854775807) : Ev (fun k => placketlaw05_ScalarChecks.f k a b (bs l)) true := by
  unfold placketlaw05_ScalarChecks.f
  refine Ev.bind live_ev ?_
  simp only [if_true, short_at, Option.bind_some]
  refine Ev.shift 1 ?_
  simp only [placketlaw05_ScalarChecks.j0]
  by_cases hl : l.length ≤ 2000
  · simp only [hl, decide_true, Bool.not_true, Bool.false_eq_true, if_false]
    refine Ev.bind (Ev.ge 2 fun k => check_at k a b l) ?_
    refine Ev.bind (Ev.ge 3 fun k => rcheck_at k a b l) ?_
    simp only [if_true]
    refine Ev.bind (key_ev a b l (by omega) h0 h1) ?_
    refine Ev.bind (rkey_ev a b l (by omega) h0 h1) ?_
    simp only [beq_self_eq_true]
    exact Ev.now _
  · simp only [hl, decide_false, Bool.not_false, if_true]
    exact Ev.bind live_ev (Ev.now _)

theorem reads_ev (l : List UInt8) : Ev (fun k => placketlaw05_ScalarReads.f k (bs l)) true := by
  unfold placketlaw05_ScalarReads.f
  refine Ev.bind live_ev ?_
  simp only [if_true, bs_size]
  refine Ev.shift 1 ?_
  simp only [placketlaw05_ScalarReads.j0]
  by_cases hl : (l.length : Int) > 2000
  · simp only [hl, decide_true, if_true]
    exact Ev.bind live_ev (Ev.now _)
  · simp only [hl, decide_false, Bool.false_eq_true, if_false]
    refine Ev.bind (unkey_ev l (by omega)) ?_
    refine Ev.bind (runkey_ev l (by omega)) ?_
    simp only [beq_self_eq_true, Bool.and_self, if_true]
    exact Ev.now _

theorem orders_ev (a b : Int) (l : List UInt8) (a' b' : Int) (l' : List UInt8) : Ev (fun k => placketlaw05_ScalarOrders.f k a b (bs l) a' b' (bs l')) true := by
  unfold placketlaw05_ScalarOrders.f
  refine Ev.bind live_ev ?_
  simp only [if_true, short_at, Option.bind_some]
  by_cases hl : l.length ≤ 2000
  · simp only [hl, decide_true, if_true]
    refine Ev.shift 1 ?_
    simp only [placketlaw05_ScalarOrders.j0]
    by_cases hl' : l'.length ≤ 2000
    · simp only [hl', decide_true, Bool.not_true, Bool.false_eq_true, if_false, order_at, Option.bind_some]
      refine Ev.bind (rorderS_ev a b l a' b' l' (by omega)) ?_
      simp only [if_true, same_at, Option.bind_some, bs_toList, beq_self_eq_true]
      exact Ev.now _
    · simp only [hl', decide_false, Bool.not_false, if_true]
      exact Ev.bind live_ev (Ev.now _)
  · simp only [hl, decide_false, Bool.false_eq_true, if_false]
    refine Ev.shift 1 ?_
    simp only [placketlaw05_ScalarOrders.j0, if_true]
    exact Ev.bind live_ev (Ev.now _)

theorem checks_walk (a b : Int) (s : ByteArray) (w : World) (_ : (Lit.int .i64 a).wf = true) (wb : (Lit.int .i64 b).wf = true) :
    Calls Try.prog 3 #[.agg #[.int .i64 a, .int .i64 b, .string s]] w fun e w' => e = .returned (.bool true) ∧ Below w.heap.size w w' := by
  obtain ⟨h0, h1⟩ := i64_range wb
  obtain ⟨k, h⟩ := (checks_ev a b s.data.toList h0 h1).rounds
  rw [← bs_of s] at h
  exact placketlaw05_ScalarChecks.calls k a b s true w h

theorem reads_walk (s : ByteArray) (w : World) (_ : s.size ≤ 140737488351232) :
    Calls Try.prog 4 #[.string s] w fun e w' => e = .returned (.bool true) ∧ Below w.heap.size w w' := by
  obtain ⟨k, h⟩ := (reads_ev s.data.toList).rounds
  rw [← bs_of s] at h
  exact placketlaw05_ScalarReads.calls k s true w h

theorem orders_walk (a b : Int) (s : ByteArray) (a' b' : Int) (s' : ByteArray) (w : World) (_ : (Lit.int .i64 a).wf = true) (_ : (Lit.int .i64 b).wf = true) (_ : (Lit.int .i64 a').wf = true) (_ : (Lit.int .i64 b').wf = true) :
    Calls Try.prog 5 #[.agg #[.int .i64 a, .int .i64 b, .string s], .agg #[.int .i64 a', .int .i64 b', .string s']] w fun e w' => e = .returned (.bool true) ∧ Below w.heap.size w w' := by
  obtain ⟨k, h⟩ := (orders_ev a b s.data.toList a' b' s'.data.toList).rounds
  rw [← bs_of s, ← bs_of s'] at h
  exact placketlaw05_ScalarOrders.calls k a b s a' b' s' true w h
end Go.Proofs.Ytdfgehjhecmojaa.Sc
