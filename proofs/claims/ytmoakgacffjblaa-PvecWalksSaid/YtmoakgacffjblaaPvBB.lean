/- A script as an argument; whether it is few operations. -/
import Derived.Test.YtmoakgacffjblaaPvTwo
set_option linter.unusedVariables false
set_option linter.unusedSimpArgs false
namespace Go.Proofs.Ytmoakgacffjblaa.Pv
open Go Go.RowKit Go.Proofs.Ytmoakgacffjblaa.Mem Go.Proofs.YtmoakgacffjblaaW.PrintWords Go.Proofs.Ytmoakgacffjblaa.PPvecDoes

/-- a slice of operations -/
def OpsV (w : World) (v : Value) (os : List S43) : Prop := ∃ A c, v = .slice A os.length c ∧ os.length ≤ 9223372036854775807 ∧ os.length ≤ c ∧ k43.C w A os.length os

theorem OpsV.below {w w' : World} {v : Value} {os : List S43} (h : OpsV w v os) (hb : Below w.heap.size w w') : OpsV w' v os := by
  obtain ⟨A, c, h1, h2, h3, h4⟩ := h
  exact ⟨A, c, h1, h2, h3, Kd.C_below h4 hb⟩

theorem OpsV.at {w : World} {A : Option Addr} {n c : Nat} {os : List S43} (h : OpsV w (.slice A n c) os) (j : Nat) (hj : j < os.length) :
    ∃ (ad : Addr) (o : S43), A = some ad ∧ os[j]? = some o ∧ w.cell? (ad.add (j * 4)) = some (.int .i64 o.f0) ∧ w.cell? ⟨(ad.add (j * 4)).block, (ad.add (j * 4)).off + 1, none⟩ = some (.int .i64 o.f1) ∧ w.cell? ⟨(ad.add (j * 4)).block, (ad.add (j * 4)).off + 2, none⟩ = some (.int .i64 o.f2) ∧ w.cell? ⟨(ad.add (j * 4)).block, (ad.add (j * 4)).off + 3, none⟩ = some (.int .i64 o.f3) := by
  obtain ⟨A', c', he, h2, h3, h4⟩ := h
  injection he with e1 e2 e3
  subst e1
  obtain ⟨ad, hA, h0, h1, h2, h3⟩ := at_T43 h4 (j : Int) (by omega) (by omega)
  have hr : rd_T43 os (j : Int) = os[j] := by
    unfold rd_T43
    rw [Int.toNat_natCast, List.getD_eq_getElem?_getD, List.getElem?_eq_getElem hj]; rfl
  rw [Int.toNat_natCast, hr] at h0 h1 h2 h3
  exact ⟨ad, os[j], hA, List.getElem?_eq_getElem hj, h0, h1, h2, h3⟩

theorem few_l0 (os : List S43) (hl : os.length ≤ 9223372036854775807) : ∀ (i j : Nat), j + i = os.length → ∀ (x3 : Int) k, i + 1 ≤ k →
    ∃ r, placketlaw07_few.l0 k os x3 os (os.length : Int) (j : Int) = some r ∧ (r = true → os.length ≤ 40 ∧ ∀ (q : Nat) (o : S43), j ≤ q → os[q]? = some o → o.f3 ≤ 1500) := by
  intro i
  induction i with
  | zero =>
    intro j hj x3 k hk
    obtain ⟨k, rfl⟩ : ∃ k', k = k' + 1 := ⟨k - 1, by omega⟩
    rw [placketlaw07_few.l0, if_neg (by omega)]
    refine ⟨_, rfl, fun h => ⟨by have := of_decide_eq_true h; omega, fun q o hq ho => ?_⟩⟩
    have := (List.getElem?_eq_some_iff.1 ho).1
    omega
  | succ i ih =>
    intro j hj x3 k hk
    obtain ⟨k, rfl⟩ : ∃ k', k = k' + 1 := ⟨k - 1, by omega⟩
    have e1 : wrap64 ((j : Int) + 1) = ((j + 1 : Nat) : Int) := by unfold wrap64; omega
    have hjl : j < os.length := by omega
    have hr : rd_T43 os (j : Int) = os[j] := by
      unfold rd_T43
      rw [Int.toNat_natCast, List.getD_eq_getElem?_getD, List.getElem?_eq_getElem hjl]; rfl
    rw [placketlaw07_few.l0, if_pos (by omega), if_pos (by omega), if_pos (by omega), hr]
    by_cases c1 : os[j].f3 > 1500
    · rw [if_pos c1]; exact ⟨false, rfl, fun h => by cases h⟩
    rw [if_neg c1]
    split
    · exact ⟨false, rfl, fun h => by cases h⟩
    · rw [e1]
      obtain ⟨r, h1, h2⟩ := ih (j + 1) (by omega) _ k (by omega)
      refine ⟨r, h1, fun h => ⟨(h2 h).1, fun q o hq ho => ?_⟩⟩
      by_cases hqj : q = j
      · subst hqj
        rw [List.getElem?_eq_getElem hjl] at ho
        injection ho with ho
        subst ho; omega
      · exact (h2 h).2 q o (by omega) ho

/-- WHETHER THESE ARE FEW OPERATIONS. -/
theorem few_c (w : World) (v : Value) (os : List S43) (h : OpsV w v os) :
    ∃ r : Bool, (r = true → os.length ≤ 40 ∧ ∀ (q : Nat) (o : S43), os[q]? = some o → o.f3 ≤ 1500) ∧ ∀ W, Below w.heap.size w W → Calls Try.prog 18 #[v] W (Ret (fun u _ => u = .bool r) W) := by
  obtain ⟨r, h1, h2⟩ := few_l0 os (by obtain ⟨_, _, _, h, _⟩ := h; exact h) os.length 0 (by omega) 0 _ (Nat.le_refl _)
  refine ⟨r, fun hr => ⟨(h2 hr).1, fun q o ho => (h2 hr).2 q o (by omega) ho⟩, fun W hW => ?_⟩
  obtain ⟨A, c, rfl, _, h3, h4⟩ := h.below hW
  refine (placketlaw07_few.calls _ A c os r W h4 h3 h1).mono ?_
  rintro e w' ⟨rfl, hb⟩
  exact ⟨_, rfl, rfl, hb⟩

/-- what a script makes of a list -/
def runOps (l : List Int) (os : List S43) : List Int := os.foldl (fun l o => doesL l o.f0 o.f1 o.f2 o.f3) l

theorem doesL_len (l : List Int) (D I X N : Int) (hN : N ≤ 1500) : (doesL l D I X N).length ≤ l.length + 1500 := by
  unfold doesL
  split
  · rw [List.length_append, runL_length]; omega
  split
  · split
    · rw [List.length_set]; omega
    · omega
  split
  · rw [List.length_take]; omega
  split
  · rw [List.length_take]; omega
  · omega
end Go.Proofs.Ytmoakgacffjblaa.Pv
