/- The law ScalarSums over the printed functions: true for every input. -/
import Derived.Test.YtdfgehjhecmojaaScD
import Derived.Test.YtdfgehjhecmojaaScM
import Derived.Test.YtdfgehjhecmojaaPSx12
set_option linter.unusedVariables false
set_option linter.unusedSimpArgs false
namespace Go.Proofs.Ytdfgehjhecmojaa.Sc
open Go Go.RowKit Go.Proofs.Ytdfgehjhecmojaa.PS Go.Proofs.YtdfgehjhecmojaaW.PrintWords Go.Proofs.YtdfgehjhecmojaaW.PrintLast Go.Proofs.Ytdfgehjhecmojaa.Bs

theorem keyL_len (a b : Int) (l : List UInt8) : (keyL a b l).length ≤ 2 * l.length + 20 := by
  have h8 := b8_length (b + 9223372036854775808)
  have hc := cov_length l
  unfold keyL
  repeat' split
  all_goals simp only [List.length_nil, List.length_cons, List.length_append, h8]
  all_goals omega

theorem sums_ev (h : Int) (hh : (Lit.int .u64 h).wf = true) (a b : Int) (l : List UInt8) (a' b' : Int) (l' : List UInt8) (h0 : -9223372036854775808 ≤ b) (h1 : b ≤ 9223372036854775807) (h0' : -9223372036854775808 ≤ b') (h1' : b' ≤ 9223372036854775807) :
    Ev (fun k => placketlaw05_ScalarSums.f k h a b (bs l) a' b' (bs l')) true := by
  have hj : Ev (fun k => placketlaw05_ScalarSums.j0 k h true a b (bs l) a' b' (bs l')) true := by
    refine Ev.shift 1 ?_
    simp only [placketlaw05_ScalarSums.j0, if_true]
    exact Ev.bind live_ev (Ev.now _)
  unfold placketlaw05_ScalarSums.f
  refine Ev.bind live_ev ?_
  simp only [if_true, short_at, Option.bind_some]
  by_cases hl : l.length ≤ 2000
  · simp only [hl, decide_true, if_true]
    by_cases hl' : l'.length ≤ 2000
    · simp only [hl', decide_true, Bool.not_true]
      have k1 := keyL_len a b l
      have k2 := keyL_len a' b' l'
      obtain ⟨r, e1, e2⟩ := ScM.sums_ev h hh (bs (keyL a b l)) (by rw [bs_size]; omega)
      have hash : ∀ (a b : Int) (l : List UInt8), l.length ≤ 2000 → -9223372036854775808 ≤ b → b ≤ 9223372036854775807 → ∀ r, Ev (fun k => mix_Text.f k h (bs (keyL a b l))) r → Ev (fun k => scalar_Hash.f k h a b (bs l)) r := by
        intro a b l hl h0 h1 r e
        unfold scalar_Hash.f
        exact Ev.bind (key_ev a b l (by omega) h0 h1) (Ev.bind e (Ev.now _))
      have e3 := hash a b l hl h0 h1 r e1
      refine Ev.shift 1 ?_
      simp only [placketlaw05_ScalarSums.j0, Bool.false_eq_true, if_false]
      refine Ev.bind e3 ?_
      refine Ev.bind (a := r) ?_ ?_
      · unfold placketref05_Hash.f
        exact Ev.bind (rkey_ev a b l (by omega) h0 h1) (Ev.bind e2 (Ev.now _))
      · simp only [if_true, same_at, Option.bind_some]
        by_cases hs : (a == a' && (b == b' && (l == l'))) = true
        · simp only [hs, if_true]
          simp only [Bool.and_eq_true, beq_iff_eq] at hs
          obtain ⟨rfl, rfl, rfl⟩ := hs
          refine Ev.bind e3 ?_
          refine Ev.bind e3 ?_
          simp only [beq_self_eq_true]
          exact Ev.now _
        · simp only [hs, if_false]
          exact Ev.now _
    · simp only [hl', decide_false, Bool.not_false]; exact hj
  · simp only [hl, decide_false, Bool.false_eq_true, if_false]; exact hj

theorem sums_walk (h a b : Int) (s : ByteArray) (a' b' : Int) (s' : ByteArray) (w : World) (wh : (Lit.int .u64 h).wf = true) (_ : (Lit.int .i64 a).wf = true) (wb : (Lit.int .i64 b).wf = true) (_ : (Lit.int .i64 a').wf = true) (wb' : (Lit.int .i64 b').wf = true) :
    Calls Try.prog 9 #[.int .u64 h, .agg #[.int .i64 a, .int .i64 b, .string s], .agg #[.int .i64 a', .int .i64 b', .string s']] w fun e w' => e = .returned (.bool true) ∧ Below w.heap.size w w' := by
  obtain ⟨h0, h1⟩ := i64_range wb
  obtain ⟨h0', h1'⟩ := i64_range wb'
  obtain ⟨k, h⟩ := (sums_ev h wh a b s.data.toList a' b' s'.data.toList h0 h1 h0' h1').rounds
  rw [← bs_of s, ← bs_of s'] at h
  exact placketlaw05_ScalarSums.calls k _ a b s a' b' s' true w h
end Go.Proofs.Ytdfgehjhecmojaa.Sc
