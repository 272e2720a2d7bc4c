/- The opening of a list of pairs that comes in as an argument. -/
import Derived.Test.YtnegblckbomgdaaDoorDcC
import Derived.Deep.Slices
import Derived.Deep.Fields
import Derived.ChangeSame
import Derived.OpenShut
import Derived.MakeChecks
import Derived.FnData
import Derived.Lib.SmallJoins
set_option linter.unusedVariables false
set_option linter.unusedSimpArgs false
namespace Go.Proofs.YtnegblckbomgdaaDoor.Ht
set_option maxRecDepth 100000
open Go Go.RowKit Go.ChangeShapes Go.WideShapes Go.Deep Go.Joins Go.Proofs.YtnegblckbomgdaaDoor.Mem Go.Proofs.YtnegblckbomgdaaDoor.PA Go.Proofs.YtnegblckbomgdaaDoorW.PrintWords Go.Proofs.YtnegblckbomgdaaDoor.U64

theorem pair_mk (w : World) (x : S2) : k133.K w x [.string x.f0, .int .i64 x.f1] := ⟨[.string x.f0], [.int .i64 x.f1], rfl, rfl, rfl⟩
/-- A list of pairs that comes in. -/
theorem pairs_open {H : Type} {enc : TypeId × Value → H} {w : World} {base : Nat} {spare : Nat → Bool} {held : Bool} {v : Value} {d : DataW H} {p : List MemPlace} {r : Reach} {b0 : Nat}
    (hv : Value.okWide Tryd.prog w r b0 64 v) (h : DataW.Trod enc Tryd.prog w base spare held 64 v d p) : ∃ os, PairsV w v os := by
  have hC : Tryd.prog.cellsOf 133 = 2 := by kernel_rfl
  obtain ⟨A, len, cap, rfl⟩ := okWide_slice Tryd.underlying64 hv
  obtain ⟨fuel, hf'⟩ := h
  rcases open_slice Tryd.underlying64 hf' with ⟨hcs, _⟩ | ⟨a, l, c, m, n, D, Pl, hcs, _, hl, hm, hmm, _, hel⟩
  · simp [Value.cells] at hcs
    obtain ⟨rfl, rfl, rfl⟩ := hcs
    exact ⟨[], none, 0, rfl, by simp, rfl, by simp, fun h => absurd h (by simp)⟩
  · simp [Value.cells] at hcs
    obtain ⟨rfl, rfl, rfl⟩ := hcs
    have hlm : len ≤ m := by rw [hmm]; split <;> omega
    have hel' : ∀ i, ∃ o : S2, i < len → w.cell? (a.add (i * 2)) = some (.string o.f0) ∧ w.cell? (a.add (i * 2 + 1)) = some (.int .i64 o.f1) := by
      intro i
      by_cases hil : i < len
      · obtain ⟨cs', hc, ht'⟩ := hel i (by omega)
        rw [hC] at hc
        obtain ⟨ys, n', hn', hy, hlen, hyl, hg⟩ := DataW.trod_struct Tryd.underlying133 ht'
        obtain ⟨_, hcl, hat⟩ := World.cells?_some hc
        have hone : oneCellFields Tryd.prog _ = true := (by kernel_rfl : oneCellFields Tryd.prog (match Tryd.prog.underlying 133 with | some (.struct fs) => fs | _ => #[]) = true)
        have hl3 : cs'.length = 2 := by simpa using hcl
        match cs', hl3, hat, hg with
        | [u0, u1], _, hat, hg =>
          have g0 := hg 0 _ rfl
          have g1 := hg 1 _ rfl
          rw [List.getElem?_eq_getElem (by simp at hyl; omega)] at g0 g1
          obtain ⟨s, e0, _, _⟩ := DataW.trod_string (cs := [u0]) Tryd.underlying9 g0
          obtain ⟨z, e1, _, _⟩ := DataW.trod_int (cs := [u1]) Tryd.underlying3 g1
          simp only [List.cons.injEq, and_true] at e0 e1
          subst e0; subst e1
          refine ⟨⟨s, z⟩, fun _ => ⟨?_, ?_⟩⟩
          · have := hat 0 (by omega)
            rw [Go.Deep.add_add] at this
            simpa using this
          · have := hat 1 (by omega)
            rw [← Go.Deep.add_add, this]; simp
      · exact ⟨z133, fun h => absurd h hil⟩
    obtain ⟨g, hg⟩ := Classical.axiomOfChoice hel'
    have hlen : ((List.range len).map g).length = len := by simp
    refine ⟨(List.range len).map g, some a, cap, by rw [hlen], by rw [hlen]; exact hl, ?_⟩
    rw [hlen]
    refine ⟨hlen, by unfold maxLen at hm; omega, fun hp => ⟨a, rfl, fun j x hj => ?_⟩⟩
    have hjl : j < len := by have := (List.getElem?_eq_some_iff.1 hj).1; rwa [hlen] at this
    have hx : x = g j := by
      rw [List.getElem?_map, List.getElem?_range hjl] at hj
      simpa using hj.symm
    subst hx
    obtain ⟨h0, h1⟩ := hg j hjl
    refine ⟨_, rfl, pair_mk w _, fun i u hu => ?_⟩
    match i with
    | 0 => simp at hu; subst hu; exact h0
    | 1 => simp at hu; subst hu; exact h1
    | i + 2 => simp at hu
end Go.Proofs.YtnegblckbomgdaaDoor.Ht
