/- Slices of structs of whole numbers as arguments. -/
import Derived.Deep.Slices
import Derived.Deep.Fields
import Derived.ChangeSame
import Derived.OpenShut
namespace Go.Proofs.Ytmoakgacffjblaa.Rl
open Go Go.ChangeShapes Go.WideShapes Go.Deep
set_option linter.unusedVariables false

theorem all_ints : ∀ (cs : List Value), (∀ (j : Nat) u, cs[j]? = some u → ∃ z : Int, u = .int .i64 z) → ∃ zs : List Int, cs = zs.map (Value.int .i64)
  | [], _ => ⟨[], rfl⟩
  | c :: cs, h => by
    obtain ⟨z, rfl⟩ := h 0 c rfl
    obtain ⟨zs, rfl⟩ := all_ints cs fun j u hu => h (j + 1) u (by simpa using hu)
    exact ⟨z :: zs, rfl⟩

section
variable {H : Type} {enc : TypeId × Value → H} {P : Program} {w : World} {base : Nat} {spare : Nat → Bool} {held : Bool}
/-- an argument that is a slice of structs of whole numbers -/
theorem open_intstructs {t e ti : TypeId} {fs : Array Field} {v : Value} {d : DataW H} {p : List MemPlace} {r : Reach} {b0 : Nat} (ht : P.underlying t = some (.slice e)) (he : P.underlying e = some (.struct fs)) (hi : P.underlying ti = some (.int .i64))
    (hone : oneCellFields P fs = true) (hf : fs.all (fun f => f.type == ti) = true) (hC : P.cellsOf e = fs.size) (hv : Value.okWide P w r b0 t v) (h : DataW.Trod enc P w base spare held t v d p) :
    ∃ (A : Option Addr) (len cap : Nat) (g : Nat → List Int), v = .slice A len cap ∧ len ≤ cap ∧ cap ≤ maxLen ∧ (0 < len → ∃ a, A = some a ∧ ∀ i, i < len → (g i).length = fs.size ∧ ∀ (j : Nat) z, (g i)[j]? = some z → w.cell? (a.add (i * fs.size + j)) = some (.int .i64 z)) := by
  obtain ⟨A, len, cap, rfl⟩ := okWide_slice ht hv
  obtain ⟨fuel, hf'⟩ := h
  rcases open_slice ht hf' with ⟨hcs, _⟩ | ⟨a, l, c, m, n, D, Pl, hcs, _, hl, hm, hmm, _, hel⟩
  · simp [Value.cells] at hcs
    obtain ⟨rfl, rfl, rfl⟩ := hcs
    exact ⟨none, 0, 0, fun _ => [], rfl, Nat.le_refl _, by simp [maxLen], fun h => absurd h (by omega)⟩
  · simp [Value.cells] at hcs
    obtain ⟨rfl, rfl, rfl⟩ := hcs
    have hlm : len ≤ m := by rw [hmm]; split <;> omega
    have hel' : ∀ i, ∃ zs : List Int, i < len → zs.length = fs.size ∧ ∀ (j : Nat) z, zs[j]? = some z → w.cell? (a.add (i * fs.size + j)) = some (.int .i64 z) := by
      intro i
      by_cases hil : i < len
      · obtain ⟨cs', hc, ht'⟩ := hel i (by omega)
        rw [hC] at hc
        obtain ⟨ys, n', hn', hy, hlen, hyl, hg⟩ := DataW.trod_struct he ht'
        obtain ⟨_, hcl, hat⟩ := World.cells?_some hc
        obtain ⟨zs, rfl⟩ := all_ints cs' fun j u hu => by
          have hj : j < fs.size := by have := (List.getElem?_eq_some_iff.1 hu).1; omega
          have hjf : fs[j]? = some fs[j] := Array.getElem?_eq_getElem hj
          obtain ⟨ho, hk⟩ := hone_of hone j fs[j] hjf
          have h1 := hg j fs[j] hjf
          have htt : fs[j].type = ti := by
            have := Array.all_eq_true.1 hf j hj
            simpa using this
          rw [ho, hk, htt] at h1
          have hd : (cs'.drop j).take 1 = [u] := by
            obtain ⟨hlt, hu'⟩ := List.getElem?_eq_some_iff.1 hu
            rw [List.drop_eq_getElem_cons hlt, hu']; rfl
          rw [hd, List.getElem?_eq_getElem (by omega)] at h1
          obtain ⟨z, hz, _⟩ := DataW.trod_int hi h1
          simp at hz
          exact ⟨z, hz⟩
        refine ⟨zs, fun _ => ⟨by simpa using hcl, fun j z hz => ?_⟩⟩
        have hj : j < fs.size := by have := (List.getElem?_eq_some_iff.1 hz).1; simp at hcl; omega
        have := hat j hj
        rw [← Go.Deep.add_add, this]
        simp [hz]
      · exact ⟨[], fun h => absurd h hil⟩
    obtain ⟨g, hg⟩ := Classical.axiomOfChoice hel'
    exact ⟨some a, len, cap, g, rfl, hl, hm, fun _ => ⟨a, rfl, hg⟩⟩
end
end Go.Proofs.Ytmoakgacffjblaa.Rl
