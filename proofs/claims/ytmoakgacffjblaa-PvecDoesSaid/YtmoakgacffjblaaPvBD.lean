/- A script that comes in as an argument. -/
import Derived.Test.YtmoakgacffjblaaPvBB
import Derived.Test.YtmoakgacffjblaaRl
set_option linter.unusedVariables false
set_option linter.unusedSimpArgs false
namespace Go.Proofs.Ytmoakgacffjblaa.Pv
open Go Go.RowKit Go.Proofs.Ytmoakgacffjblaa.Mem Go.Proofs.YtmoakgacffjblaaW.PrintWords Go.Proofs.Ytmoakgacffjblaa.PPvecDoes

def opOf : List Int → S43
  | [a, b, c, d] => ⟨a, b, c, d⟩
  | _ => z43

theorem opsV_open {H : Type} {enc : TypeId × Value → H} {w : World} {base : Nat} {spare : Nat → Bool} {held : Bool} {v : Value} {d : DataW H} {p : List MemPlace} {r : Reach} {b0 : Nat}
    (hv : Value.okWide Try.prog w r b0 38 v) (h : DataW.Trod enc Try.prog w base spare held 38 v d p) : ∃ os, OpsV w v os := by
  obtain ⟨A, len, cap, g, rfl, hl, hm, hg⟩ := Rl.open_intstructs Try.underlying38 Try.underlying43 Try.underlying3 (by kernel_rfl) (by kernel_rfl) (by kernel_rfl) hv h
  have hlen : ((List.range len).map fun i => opOf (g i)).length = len := by simp
  refine ⟨(List.range len).map fun i => opOf (g i), A, cap, by rw [hlen], by rw [hlen]; unfold maxLen at hm; omega, by rw [hlen]; exact hl, ?_⟩
  rw [hlen]
  refine ⟨hlen, by unfold maxLen at hm; omega, fun hp => ?_⟩
  obtain ⟨a, rfl, ha⟩ := hg hp
  refine ⟨a, rfl, fun j x hj => ?_⟩
  have hjl : j < len := by have := (List.getElem?_eq_some_iff.1 hj).1; rwa [hlen] at this
  obtain ⟨h4, hc⟩ := ha j hjl
  have hx : x = opOf (g j) := by
    rw [List.getElem?_map, List.getElem?_range hjl] at hj
    simpa using hj.symm
  subst hx
  have h4' : (g j).length = 4 := h4
  match hgj : g j, h4' with
  | [z0, z1, z2, z3], _ =>
    refine ⟨_, rfl, k43_mk w _, fun i u hu => ?_⟩
    rw [hgj] at hc
    match i with
    | 0 => have := hc 0 z0 rfl; simp [opOf] at hu; rw [← hu]; exact this
    | 1 => have := hc 1 z1 rfl; simp [opOf] at hu; rw [← hu]; exact this
    | 2 => have := hc 2 z2 rfl; simp [opOf] at hu; rw [← hu]; exact this
    | 3 => have := hc 3 z3 rfl; simp [opOf] at hu; rw [← hu]; exact this
    | i + 4 => simp at hu
end Go.Proofs.Ytmoakgacffjblaa.Pv
