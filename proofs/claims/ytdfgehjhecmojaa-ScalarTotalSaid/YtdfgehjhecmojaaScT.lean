/- The law ScalarTotal over the printed functions: true for every input. -/
import Derived.Test.YtdfgehjhecmojaaScE
import Derived.Test.YtdfgehjhecmojaaPSx8
set_option linter.unusedVariables false
set_option linter.unusedSimpArgs false
namespace Go.Proofs.Ytdfgehjhecmojaa.Sc
open Go Go.RowKit Go.Proofs.Ytdfgehjhecmojaa.PS Go.Proofs.YtdfgehjhecmojaaW.PrintWords Go.Proofs.YtdfgehjhecmojaaW.PrintLast Go.Proofs.Ytdfgehjhecmojaa.Bs

theorem total_ev (a b : Int) (l : List UInt8) (a' b' : Int) (l' : List UInt8) (a'' b'' : Int) (l'' : List UInt8) :
    Ev (fun k => placketlaw05_ScalarTotal.f k a b (bs l) a' b' (bs l') a'' b'' (bs l'')) true := by
  obtain ⟨x, y, z, ex, ey, ez, h1, h2, er, hs, ht⟩ := total_plain a b l a' b' l' a'' b'' l''
  have hj : Ev (fun k => placketlaw05_ScalarTotal.j0 k true a b (bs l) a' b' (bs l') a'' b'' (bs l'')) true := by
    refine Ev.shift 1 ?_
    simp only [placketlaw05_ScalarTotal.j0, if_true]
    exact Ev.bind live_ev (Ev.now _)
  unfold placketlaw05_ScalarTotal.f
  refine Ev.bind live_ev ?_
  simp only [if_true, short_at, Option.bind_some]
  by_cases hl : l.length ≤ 2000
  · simp only [hl, decide_true, if_true]
    by_cases hl' : l'.length ≤ 2000
    · simp only [hl', decide_true, if_true]
      by_cases hl'' : l''.length ≤ 2000
      · simp only [hl'', decide_true, Bool.not_true]
        refine Ev.ge 1 fun k => ?_
        simp only [placketlaw05_ScalarTotal.j0, Bool.false_eq_true, if_false, order_at, ex, ey, ez, er, same_at, Option.bind_some]
        rw [if_pos (by omega), if_pos h2, if_pos (by rw [w64_in (by omega) (by omega)]), if_pos (by rw [hs]; exact beq_self_eq_true _)]
        by_cases p1 : x > 0
        · rw [if_pos p1]
        · rw [if_neg p1]
          by_cases p2 : y > 0
          · rw [if_pos p2]
          · rw [if_neg p2, if_pos (by omega)]
            by_cases p3 : z < 0
            · rw [if_pos p3]
            · rw [if_neg p3, if_pos (by omega), show y = 0 by omega]; rfl
      · simp only [hl'', decide_false, Bool.not_false]; exact hj
    · simp only [hl', decide_false, Bool.false_eq_true, if_false]; exact hj
  · simp only [hl, decide_false, Bool.false_eq_true, if_false]; exact hj

theorem total_walk (a b : Int) (s : ByteArray) (a' b' : Int) (s' : ByteArray) (a'' b'' : Int) (s'' : ByteArray) (w : World) (_ : (Lit.int .i64 a).wf = true) (_ : (Lit.int .i64 b).wf = true) (_ : (Lit.int .i64 a').wf = true) (_ : (Lit.int .i64 b').wf = true) (_ : (Lit.int .i64 a'').wf = true) (_ : (Lit.int .i64 b'').wf = true) :
    Calls Try.prog 6 #[.agg #[.int .i64 a, .int .i64 b, .string s], .agg #[.int .i64 a', .int .i64 b', .string s'], .agg #[.int .i64 a'', .int .i64 b'', .string s'']] w fun e w' => e = .returned (.bool true) ∧ Below w.heap.size w w' := by
  obtain ⟨k, h⟩ := (total_ev a b s.data.toList a' b' s'.data.toList a'' b'' s''.data.toList).rounds
  rw [← bs_of s, ← bs_of s', ← bs_of s''] at h
  exact placketlaw05_ScalarTotal.calls k a b s a' b' s' a'' b'' s'' true w h

end Go.Proofs.Ytdfgehjhecmojaa.Sc
