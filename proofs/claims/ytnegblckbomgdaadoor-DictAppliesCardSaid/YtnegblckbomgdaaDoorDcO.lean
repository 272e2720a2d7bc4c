/- The opening of a list of changes that comes in as an argument. -/
import Derived.Test.YtnegblckbomgdaaDoorDcM
import Derived.Deep.Slices
import Derived.Deep.Fields
import Derived.ChangeSame
import Derived.OpenShut
import Derived.MakeChecks
import Derived.FnData
import Derived.Lib.SmallJoins
set_option linter.unusedVariables false
set_option linter.unusedSimpArgs false
namespace Go.Proofs.YtnegblckbomgdaaDoor.Ht
set_option maxRecDepth 100000
open Go Go.RowKit Go.ChangeShapes Go.WideShapes Go.Deep Go.Joins Go.Proofs.YtnegblckbomgdaaDoor.Mem Go.Proofs.YtnegblckbomgdaaDoor.PA Go.Proofs.YtnegblckbomgdaaDoorW.PrintWords Go.Proofs.YtnegblckbomgdaaDoor.U64

/-- A list of changes that comes in. -/
theorem apps_open {H : Type} {enc : TypeId × Value → H} {w : World} {base : Nat} {spare : Nat → Bool} {held : Bool} {v : Value} {d : DataW H} {p : List MemPlace} {r : Reach} {b0 : Nat}
    (hv : Value.okWide Tryd.prog w r b0 89 v) (h : DataW.Trod enc Tryd.prog w base spare held 89 v d p) : ∃ D : List Ch, CellsV w v D := by
  have hC : Tryd.prog.cellsOf 91 = 5 := by kernel_rfl
  obtain ⟨A, len, cap, rfl⟩ := okWide_slice Tryd.underlying89 hv
  obtain ⟨fuel, hf'⟩ := h
  rcases open_slice Tryd.underlying89 hf' with ⟨hcs, _⟩ | ⟨a, l, c, m, n, D, Pl, hcs, _, hl, hm, hmm, _, hel⟩
  · simp [Value.cells] at hcs
    obtain ⟨rfl, rfl, rfl⟩ := hcs
    exact ⟨[], none, 0, rfl, fun h => absurd h (by simp)⟩
  · simp [Value.cells] at hcs
    obtain ⟨rfl, rfl, rfl⟩ := hcs
    have hlm : len ≤ m := by rw [hmm]; split <;> omega
    have hel' : ∀ i, ∃ o : Ch, i < len → w.cell? (a.add (i * 5)) = some (.string o.f0) ∧ w.cell? (a.add (i * 5 + 1)) = some (.bool o.f1) ∧ w.cell? (a.add (i * 5 + 2)) = some (.bool o.f2) ∧ w.cell? (a.add (i * 5 + 3)) = some (.int .i64 o.f3) ∧ w.cell? (a.add (i * 5 + 4)) = some (.int .i64 o.f4) := by
      intro i
      by_cases hil : i < len
      · obtain ⟨cs', hc, ht'⟩ := hel i (by omega)
        rw [hC] at hc
        obtain ⟨ys, n', hn', hy, hlen, hyl, hg⟩ := DataW.trod_struct Tryd.underlying91 ht'
        obtain ⟨_, hcl, hat⟩ := World.cells?_some hc
        have hone : oneCellFields Tryd.prog _ = true := (by kernel_rfl : oneCellFields Tryd.prog (match Tryd.prog.underlying 91 with | some (.struct fs) => fs | _ => #[]) = true)
        have hl3 : cs'.length = 5 := by simpa using hcl
        match cs', hl3, hat, hg with
        | [u0, u1, u2, u3, u4], _, hat, hg =>
          have g0 := hg 0 _ rfl
          have g1 := hg 1 _ rfl
          have g2 := hg 2 _ rfl
          have g3 := hg 3 _ rfl
          have g4 := hg 4 _ rfl
          rw [List.getElem?_eq_getElem (by simp at hyl; omega)] at g0 g1 g2 g3 g4
          obtain ⟨s, e0, _, _⟩ := DataW.trod_string (cs := [u0]) Tryd.underlying9 g0
          obtain ⟨b1, e1, _⟩ := DataW.trod_bool (cs := [u1]) Tryd.underlying4 g1
          obtain ⟨b2, e2, _⟩ := DataW.trod_bool (cs := [u2]) Tryd.underlying4 g2
          obtain ⟨z3, e3, _, _⟩ := DataW.trod_int (cs := [u3]) Tryd.underlying3 g3
          obtain ⟨z4, e4, _, _⟩ := DataW.trod_int (cs := [u4]) Tryd.underlying3 g4
          simp only [List.cons.injEq, and_true] at e0 e1 e2 e3 e4
          subst e0; subst e1; subst e2; subst e3; subst e4
          refine ⟨⟨s, b1, b2, z3, z4⟩, fun _ => ⟨?_, ?_, ?_, ?_, ?_⟩⟩
          · have := hat 0 (by omega)
            rw [Go.Deep.add_add] at this
            simpa using this
          · have := hat 1 (by omega)
            rw [← Go.Deep.add_add, this]; simp
          · have := hat 2 (by omega)
            rw [← Go.Deep.add_add, this]; simp
          · have := hat 3 (by omega)
            rw [← Go.Deep.add_add, this]; simp
          · have := hat 4 (by omega)
            rw [← Go.Deep.add_add, this]; simp
      · exact ⟨z92, fun h => absurd h hil⟩
    obtain ⟨g, hg⟩ := Classical.axiomOfChoice hel'
    have hlen : ((List.range len).map g).length = len := by simp
    refine ⟨(List.range len).map g, some a, cap, by rw [hlen], fun hp => ⟨a, rfl, fun j x hj => ?_⟩⟩
    have hjl : j < len := by have := (List.getElem?_eq_some_iff.1 hj).1; rwa [hlen] at this
    have hx : x = g j := by
      rw [List.getElem?_map, List.getElem?_range hjl] at hj
      simpa using hj.symm
    subst hx
    obtain ⟨h0, h1, h2, h3, h4⟩ := hg j hjl
    exact ⟨h0, by rw [← add_field _ _ 1 (by omega)]; exact h1, by rw [← add_field _ _ 2 (by omega)]; exact h2, by rw [← add_field _ _ 3 (by omega)]; exact h3, by rw [← add_field _ _ 4 (by omega)]; exact h4⟩
end Go.Proofs.YtnegblckbomgdaaDoor.Ht
