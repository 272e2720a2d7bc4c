/- The contract of the reference's Check, over its printed plain function, and what that is. No condition. -/
import Derived.Test.YtdfgehjhecmojaaPSx4a
import Derived.Test.YtdfgehjhecmojaaBs
import Derived.WalkLawsBesides
import Derived.Outline
import Derived.Handy
set_option linter.unusedVariables false
set_option linter.unusedSimpArgs false
namespace Go.Proofs.Ytdfgehjhecmojaa.Sc
open Go Go.RowKit Go.Proofs.Ytdfgehjhecmojaa.PS Go.Proofs.YtdfgehjhecmojaaW.PrintWords Go.Proofs.YtdfgehjhecmojaaW.PrintLast Go.Proofs.Ytdfgehjhecmojaa.Bs

/-- what is wrong with a scalar -/
def chk (a b : Int) (l : List UInt8) : Int :=
  if a < 0 ∨ 3 < a then 3 else if (a = 0 ∨ a = 3) ∧ b ≠ 0 then 1 else if a ≠ 3 ∧ l ≠ [] then 1 else if a = 1 ∧ b ≠ 0 ∧ b ≠ 1 then 4 else 0

theorem rcheck_at (k : Nat) (a b : Int) (l : List UInt8) : placketref05_Check.f (k + 3) a b (bs l) = some (chk a b l) := by
  unfold placketref05_Check.f chk
  by_cases hlo : a < 0
  · rw [if_pos hlo, if_pos (Or.inl hlo)]
    simp only [placketref05_Check.j0, if_true]
  · rw [if_neg hlo]
    by_cases hhi : 3 < a
    · rw [if_pos (Or.inr hhi)]
      simp only [placketref05_Check.j0]
      rw [if_pos (by simpa using hhi)]
    · rw [if_neg (by omega)]
      have : decide (a > 3) = false := by simpa using hhi
      simp only [placketref05_Check.j0, this, Bool.false_eq_true, if_false]
      by_cases hb : b = 0
      · subst hb
        by_cases hl : l = []
        · subst hl
          obtain rfl | rfl | rfl | rfl : a = 0 ∨ a = 1 ∨ a = 2 ∨ a = 3 := by omega
          all_goals simp [placketref05_Check.j1, placketref05_Check.j2, bs_toList]
        · obtain rfl | rfl | rfl | rfl : a = 0 ∨ a = 1 ∨ a = 2 ∨ a = 3 := by omega
          all_goals simp [placketref05_Check.j1, placketref05_Check.j2, bs_toList, hl]
      · by_cases hl : l = []
        · subst hl
          obtain rfl | rfl | rfl | rfl : a = 0 ∨ a = 1 ∨ a = 2 ∨ a = 3 := by omega
          all_goals by_cases hb1 : b = 1
          all_goals simp [placketref05_Check.j1, placketref05_Check.j2, bs_toList, hb, hb1]
        · obtain rfl | rfl | rfl | rfl : a = 0 ∨ a = 1 ∨ a = 2 ∨ a = 3 := by omega
          all_goals by_cases hb1 : b = 1
          all_goals simp [placketref05_Check.j1, placketref05_Check.j2, bs_toList, hb, hb1, hl]

end Go.Proofs.Ytdfgehjhecmojaa.Sc
namespace Go.Proofs.Ytdfgehjhecmojaa.PS
open Go Go.RowKit Go.Proofs.YtdfgehjhecmojaaW.PrintWords Go.Proofs.YtdfgehjhecmojaaW.PrintLast Go.Proofs.YtdfgehjhecmojaaW.PrintMore Go.Proofs.Ytdfgehjhecmojaa.Bs Go.Proofs.Ytdfgehjhecmojaa.Sc

set_option maxHeartbeats 8000000 in
set_option maxRecDepth 100000 in
theorem rc_lo (a b : Int) (s : ByteArray) (w : World) (h : a < 0) :
    Calls Try.prog 13 #[.agg #[.int .i64 a, .int .i64 b, .string s]] w fun e w' => e = .returned (.int .i64 3) ∧ Below w.heap.size w w' := by
  go_enter Try.func13, Try.ntmps13
  go_wp2
  go_returns
  exact ⟨rfl, by go_grown⟩

set_option maxHeartbeats 8000000 in
set_option maxRecDepth 100000 in
theorem rc_hi (a b : Int) (s : ByteArray) (w : World) (h : 3 < a) :
    Calls Try.prog 13 #[.agg #[.int .i64 a, .int .i64 b, .string s]] w fun e w' => e = .returned (.int .i64 3) ∧ Below w.heap.size w w' := by
  have h' : ¬ a < 0 := by omega
  go_enter Try.func13, Try.ntmps13
  go_wp2
  go_returns
  exact ⟨rfl, by go_grown⟩

set_option maxHeartbeats 8000000 in
set_option maxRecDepth 100000 in
theorem rc_n_arg (a b : Int) (s : ByteArray) (w : World) (h : b ≠ 0) :
    Calls Try.prog 13 #[.agg #[.int .i64 0, .int .i64 b, .string s]] w fun e w' => e = .returned (.int .i64 1) ∧ Below w.heap.size w w' := by
  have h' : (b == 0) = false := beq_false_of_ne h
  have h2 : (b != 0) = true := bne_iff_ne.2 h
  clear h
  go_enter Try.func13, Try.ntmps13
  go_wp2
  go_returns
  exact ⟨rfl, by go_grown⟩

set_option maxHeartbeats 8000000 in
set_option maxRecDepth 100000 in
theorem rc_t_arg (a b : Int) (s : ByteArray) (w : World) (h : b ≠ 0) :
    Calls Try.prog 13 #[.agg #[.int .i64 3, .int .i64 b, .string s]] w fun e w' => e = .returned (.int .i64 1) ∧ Below w.heap.size w w' := by
  have h' : (b == 0) = false := beq_false_of_ne h
  have h2 : (b != 0) = true := bne_iff_ne.2 h
  clear h
  go_enter Try.func13, Try.ntmps13
  go_wp2
  go_returns
  exact ⟨rfl, by go_grown⟩

set_option maxHeartbeats 8000000 in
set_option maxRecDepth 100000 in
theorem rc_t_ok (a b : Int) (s : ByteArray) (w : World)  :
    Calls Try.prog 13 #[.agg #[.int .i64 3, .int .i64 0, .string s]] w fun e w' => e = .returned (.int .i64 0) ∧ Below w.heap.size w w' := by
  go_enter Try.func13, Try.ntmps13
  go_wp2
  go_returns
  exact ⟨rfl, by go_grown⟩

set_option maxHeartbeats 8000000 in
set_option maxRecDepth 100000 in
theorem rc_0_text (a b : Int) (s : ByteArray) (w : World) (hs : ¬ s.toList = []) (hb : b = 0) :
    Calls Try.prog 13 #[.agg #[.int .i64 0, .int .i64 b, .string s]] w fun e w' => e = .returned (.int .i64 1) ∧ Below w.heap.size w w' := by
  have e0 : s.toList.isEmpty = false := by cases h : s.toList with | nil => exact absurd h hs | cons c l => rfl
  subst hb
  go_enter Try.func13, Try.ntmps13
  go_wp2
  go_returns
  exact ⟨rfl, by go_grown⟩

set_option maxHeartbeats 8000000 in
set_option maxRecDepth 100000 in
theorem rc_1_text (a b : Int) (s : ByteArray) (w : World) (hs : ¬ s.toList = []) :
    Calls Try.prog 13 #[.agg #[.int .i64 1, .int .i64 b, .string s]] w fun e w' => e = .returned (.int .i64 1) ∧ Below w.heap.size w w' := by
  have e0 : s.toList.isEmpty = false := by cases h : s.toList with | nil => exact absurd h hs | cons c l => rfl
  go_enter Try.func13, Try.ntmps13
  go_wp2
  go_returns
  exact ⟨rfl, by go_grown⟩

set_option maxHeartbeats 8000000 in
set_option maxRecDepth 100000 in
theorem rc_2_text (a b : Int) (s : ByteArray) (w : World) (hs : ¬ s.toList = []) :
    Calls Try.prog 13 #[.agg #[.int .i64 2, .int .i64 b, .string s]] w fun e w' => e = .returned (.int .i64 1) ∧ Below w.heap.size w w' := by
  have e0 : s.toList.isEmpty = false := by cases h : s.toList with | nil => exact absurd h hs | cons c l => rfl
  go_enter Try.func13, Try.ntmps13
  go_wp2
  go_returns
  exact ⟨rfl, by go_grown⟩

set_option maxHeartbeats 8000000 in
set_option maxRecDepth 100000 in
theorem rc_0_ok (a b : Int) (s : ByteArray) (w : World) (hs : s.toList = []) :
    Calls Try.prog 13 #[.agg #[.int .i64 0, .int .i64 0, .string s]] w fun e w' => e = .returned (.int .i64 0) ∧ Below w.heap.size w w' := by
  have e0 : s.toList.isEmpty = true := by rw [hs]; rfl
  go_enter Try.func13, Try.ntmps13
  go_wp2
  go_returns
  exact ⟨rfl, by go_grown⟩

set_option maxHeartbeats 8000000 in
set_option maxRecDepth 100000 in
theorem rc_2_ok (a b : Int) (s : ByteArray) (w : World) (hs : s.toList = []) :
    Calls Try.prog 13 #[.agg #[.int .i64 2, .int .i64 b, .string s]] w fun e w' => e = .returned (.int .i64 0) ∧ Below w.heap.size w w' := by
  have e0 : s.toList.isEmpty = true := by rw [hs]; rfl
  go_enter Try.func13, Try.ntmps13
  go_wp2
  go_returns
  exact ⟨rfl, by go_grown⟩

set_option maxHeartbeats 8000000 in
set_option maxRecDepth 100000 in
theorem rc_1_0 (a b : Int) (s : ByteArray) (w : World) (hs : s.toList = []) :
    Calls Try.prog 13 #[.agg #[.int .i64 1, .int .i64 0, .string s]] w fun e w' => e = .returned (.int .i64 0) ∧ Below w.heap.size w w' := by
  have e0 : s.toList.isEmpty = true := by rw [hs]; rfl
  go_enter Try.func13, Try.ntmps13
  go_wp2
  go_returns
  exact ⟨rfl, by go_grown⟩

set_option maxHeartbeats 8000000 in
set_option maxRecDepth 100000 in
theorem rc_1_1 (a b : Int) (s : ByteArray) (w : World) (hs : s.toList = []) :
    Calls Try.prog 13 #[.agg #[.int .i64 1, .int .i64 1, .string s]] w fun e w' => e = .returned (.int .i64 0) ∧ Below w.heap.size w w' := by
  have e0 : s.toList.isEmpty = true := by rw [hs]; rfl
  go_enter Try.func13, Try.ntmps13
  go_wp2
  go_returns
  exact ⟨rfl, by go_grown⟩

set_option maxHeartbeats 8000000 in
set_option maxRecDepth 100000 in
theorem rc_1_no (a b : Int) (s : ByteArray) (w : World) (hs : s.toList = []) (h0 : b ≠ 0) (h1 : b ≠ 1) :
    Calls Try.prog 13 #[.agg #[.int .i64 1, .int .i64 b, .string s]] w fun e w' => e = .returned (.int .i64 4) ∧ Below w.heap.size w w' := by
  have e0 : s.toList.isEmpty = true := by rw [hs]; rfl
  have g0 : (b == 0) = false := beq_false_of_ne h0
  have g2 : (b != 0) = true := bne_iff_ne.2 h0
  have g1 : (b == 1) = false := beq_false_of_ne h1
  have g3 : (b != 1) = true := bne_iff_ne.2 h1
  clear h0 h1
  go_enter Try.func13, Try.ntmps13
  go_wp2
  go_returns
  exact ⟨rfl, by go_grown⟩

theorem rcheck_c (a b : Int) (s : ByteArray) (w : World) :
    Calls Try.prog 13 #[.agg #[.int .i64 a, .int .i64 b, .string s]] w fun e w' => e = .returned (.int .i64 (chk a b s.data.toList)) ∧ Below w.heap.size w w' := by
  have hl : s.data.toList = s.toList := (ByteArray.toList_eq s).symm
  rw [hl]
  unfold chk
  by_cases h0 : a < 0
  · rw [if_pos (Or.inl h0)]; exact rc_lo a b s w h0
  · by_cases h3 : 3 < a
    · rw [if_pos (Or.inr h3)]; exact rc_hi a b s w h3
    · rw [if_neg (by omega)]
      obtain rfl | rfl | rfl | rfl : a = 0 ∨ a = 1 ∨ a = 2 ∨ a = 3 := by omega
      · by_cases hb : b = 0
        · subst hb
          rw [if_neg (by omega)]
          by_cases hs : s.toList = []
          · rw [if_neg (fun h => h.2 hs), if_neg (by omega)]; exact rc_0_ok 0 0 s w hs
          · rw [if_pos ⟨by decide, hs⟩]; exact rc_0_text 0 0 s w hs rfl
        · rw [if_pos ⟨Or.inl rfl, hb⟩]; exact rc_n_arg 0 b s w hb
      · rw [if_neg (by omega)]
        by_cases hs : s.toList = []
        · rw [if_neg (fun h => h.2 hs)]
          by_cases hb0 : b = 0
          · subst hb0; rw [if_neg (by omega)]; exact rc_1_0 1 0 s w hs
          · by_cases hb1 : b = 1
            · subst hb1; rw [if_neg (by omega)]; exact rc_1_1 1 1 s w hs
            · rw [if_pos ⟨rfl, hb0, hb1⟩]; exact rc_1_no 1 b s w hs hb0 hb1
        · rw [if_pos ⟨by decide, hs⟩]; exact rc_1_text 1 b s w hs
      · rw [if_neg (by omega)]
        by_cases hs : s.toList = []
        · rw [if_neg (fun h => h.2 hs), if_neg (by omega)]; exact rc_2_ok 2 b s w hs
        · rw [if_pos ⟨by decide, hs⟩]; exact rc_2_text 2 b s w hs
      · by_cases hb : b = 0
        · subst hb
          rw [if_neg (by omega), if_neg (fun h => h.1 rfl), if_neg (by omega)]; exact rc_t_ok 3 0 s w
        · rw [if_pos ⟨Or.inr rfl, hb⟩]; exact rc_t_arg 3 b s w hb

theorem placketref05_Check.calls (k : Nat) (a0_0 : Int) (a0_1 : Int) (a0_2 : ByteArray) (r : Int) (w : World) (h : placketref05_Check.f k a0_0 a0_1 a0_2 = some r) :
    Calls Try.prog 13 #[.agg #[.int .i64 a0_0, .int .i64 a0_1, .string a0_2]] w fun e w' => e = .returned (.int .i64 r) ∧ Below w.heap.size w w' := by
  have e : placketref05_Check.f 3 a0_0 a0_1 a0_2 = some (chk a0_0 a0_1 a0_2.data.toList) := by
    conv => lhs; rw [bs_of a0_2]
    exact rcheck_at 0 a0_0 a0_1 a0_2.data.toList
  have h1 := at_rounds (placketref05_Check.mono a0_0 a0_1 a0_2) (Nat.le_max_left k 3) h
  have h2 := at_rounds (placketref05_Check.mono a0_0 a0_1 a0_2) (Nat.le_max_right k 3) e
  rw [h1] at h2
  rw [Option.some.inj h2]
  exact rcheck_c a0_0 a0_1 a0_2 w
end Go.Proofs.Ytdfgehjhecmojaa.PS
