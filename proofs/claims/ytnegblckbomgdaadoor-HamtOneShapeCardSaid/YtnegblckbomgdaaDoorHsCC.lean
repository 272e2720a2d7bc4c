/- Maps of one hash with the same keys have one shape. -/
import Derived.Test.YtnegblckbomgdaaDoorHsCB
import Derived.Deep.Slices
import Derived.Deep.Fields
import Derived.ChangeSame
import Derived.OpenShut
import Derived.MakeChecks
import Derived.FnData
import Derived.Lib.SmallJoins
set_option linter.unusedVariables false
set_option linter.unusedSimpArgs false
namespace Go.Proofs.YtnegblckbomgdaaDoor.Ht
set_option maxRecDepth 100000
open Go Go.RowKit Go.ChangeShapes Go.WideShapes Go.Deep Go.Joins Go.Proofs.YtnegblckbomgdaaDoor.Mem Go.Proofs.YtnegblckbomgdaaDoor.PA Go.Proofs.YtnegblckbomgdaaDoorW.PrintWords Go.Proofs.YtnegblckbomgdaaDoor.U64


set_option maxHeartbeats 4000000 in
theorem one_out (c : Cf) (v vm : Value) (T M : Nat) (A E : Option Addr) (cs es : Nat) (bf : Bool) (W : World) (hv : v = .slice A T cs) (hvm : vm = .slice E M es) (hT : Tab W) (hn : bf = false ∨ (bf = true ∧ (M : Int) > 60))
    (hf : ∀ V, Below W.heap.size W V → Calls Tryd.prog 18 #[v] V (Ret (fun u _ => u = .bool bf) V)) :
    Calls Tryd.prog 5 #[confV c, v, vm] W (Tru W) := by
  subst hv; subst hvm
  have HT := Lib.hid hT; have HF := Lib.hid hf
  have HLV := Lib.hid (fun V hT => live_c V hT)
  show Calls Tryd.prog 5 #[.agg #[.int .u64 (U c.1), .int .i64 c.2], .slice A T cs, .slice E M es] W _
  generalize U c.1 = y
  generalize c.2 = b
  clear hT hf
  rcases hn with rfl | ⟨rfl, hn⟩
  · go_enter Tryd.func5, Tryd.ntmps5
    have hB0 := (Below.refl W.heap.size W).alloc (Nat.le_refl _) (.cells #[.int .u64 y, .int .i64 b] CT)
    go_wp2_with (first
      | (go_at_call 18; ((with_reducible refine (HF.out _ HB1.out).mono ?_); rintro e w2 ⟨v, rfl, rfl, hb2⟩; have HB2 := Lib.hid (below_trans HB1.out hb2); clear hb2))
      | (go_at_call 17; ((with_reducible refine (HLV.out _ (HT.out.below HB2.out)).mono ?_); rintro e w3 ⟨v, rfl, rfl, hb3⟩; have HB3 := Lib.hid (below_trans HB2.out hb3); clear hb3))
      | (go_at_call 17; ((with_reducible refine (HLV.out _ (HT.out.below hB0)).mono ?_); rintro e w1 ⟨v, rfl, rfl, hb1⟩; have HB1 := Lib.hid (below_trans hB0 hb1); clear hb1))
      | fail)
    go_returns
    exact ⟨rfl, HB3.out⟩
  · go_enter Tryd.func5, Tryd.ntmps5
    have hB0 := (Below.refl W.heap.size W).alloc (Nat.le_refl _) (.cells #[.int .u64 y, .int .i64 b] CT)
    go_wp2_with (first
      | (go_at_call 18; ((with_reducible refine (HF.out _ HB1.out).mono ?_); rintro e w2 ⟨v, rfl, rfl, hb2⟩; have HB2 := Lib.hid (below_trans HB1.out hb2); clear hb2))
      | (go_at_call 17; ((with_reducible refine (HLV.out _ (HT.out.below HB2.out)).mono ?_); rintro e w3 ⟨v, rfl, rfl, hb3⟩; have HB3 := Lib.hid (below_trans HB2.out hb3); clear hb3))
      | (go_at_call 17; ((with_reducible refine (HLV.out _ (HT.out.below hB0)).mono ?_); rintro e w1 ⟨v, rfl, rfl, hb1⟩; have HB1 := Lib.hid (below_trans hB0 hb1); clear hb1))
      | fail)
    go_returns
    exact ⟨rfl, HB3.out⟩

/-- MAPS OF ONE HASH WITH THE SAME KEYS HAVE ONE SHAPE. -/
theorem one_c (c : Cf) (v : Value) (os : List S3) (vm : Value) (more : List ByteArray) (W : World) (hT : Tab W) (hO : OpsV W v os) (hX : StrV W vm more) : Calls Tryd.prog 5 #[confV c, v, vm] W (Tru W) := by
  obtain ⟨b, hb, hf⟩ := few_c v os W hO
  obtain ⟨A, cs, hv, -⟩ := id hO
  obtain ⟨E, es, hvm⟩ := hX.form
  cases b with
  | false => exact one_out c v vm _ _ A E cs es false W hv hvm hT (Or.inl rfl) hf
  | true =>
    by_cases hm : more.length ≤ 60
    · exact one_in c v os vm more W hT hO hX hm (hb rfl).1 (hb rfl).2 hf
    · exact one_out c v vm _ _ A E cs es true W hv hvm hT (Or.inr ⟨rfl, by omega⟩) hf

/-- A list of texts that comes in. -/
theorem strs_open {H : Type} {enc : TypeId × Value → H} {w : World} {base : Nat} {spare : Nat → Bool} {held : Bool} {v : Value} {d : DataW H} {p : List MemPlace} {r : Reach} {b0 : Nat}
    (hv : Value.okWide Tryd.prog w r b0 32 v) (h : DataW.Trod enc Tryd.prog w base spare held 32 v d p) : ∃ l : List ByteArray, StrV w v l := by
  have hC : Tryd.prog.cellsOf 9 = 1 := by kernel_rfl
  obtain ⟨A, len, cap, rfl⟩ := okWide_slice Tryd.underlying32 hv
  obtain ⟨fuel, hf'⟩ := h
  rcases open_slice Tryd.underlying32 hf' with ⟨hcs, _⟩ | ⟨a, l, c, m, n, D, Pl, hcs, _, hl, hm, hmm, _, hel⟩
  · simp [Value.cells] at hcs
    obtain ⟨rfl, rfl, rfl⟩ := hcs
    exact ⟨[], none, 0, rfl, fun h => absurd h (by simp)⟩
  · simp [Value.cells] at hcs
    obtain ⟨rfl, rfl, rfl⟩ := hcs
    have hlm : len ≤ m := by rw [hmm]; split <;> omega
    have hel' : ∀ i, ∃ o : ByteArray, i < len → w.cell? (a.add i) = some (.string o) := by
      intro i
      by_cases hil : i < len
      · obtain ⟨cs', hc, ht'⟩ := hel i (by omega)
        rw [hC] at hc
        obtain ⟨_, hcl, hat⟩ := World.cells?_some hc
        obtain ⟨s, e0, _, _⟩ := DataW.trod_string (cs := cs') Tryd.underlying9 ht'
        subst e0
        refine ⟨s, fun _ => ?_⟩
        have := hat 0 (by omega)
        rw [Go.Deep.add_add] at this
        simpa using this
      · exact ⟨ByteArray.empty, fun h => absurd h hil⟩
    obtain ⟨g, hg⟩ := Classical.axiomOfChoice hel'
    have hlen : ((List.range len).map g).length = len := by simp
    refine ⟨(List.range len).map g, some a, cap, by rw [hlen], fun hp => ⟨a, rfl, fun j x hj => ?_⟩⟩
    have hjl : j < len := by have := (List.getElem?_eq_some_iff.1 hj).1; rwa [hlen] at this
    have hx : x = g j := by
      rw [List.getElem?_map, List.getElem?_range hjl] at hj
      simpa using hj.symm
    subst hx
    exact hg j hjl
end Go.Proofs.YtnegblckbomgdaaDoor.Ht
