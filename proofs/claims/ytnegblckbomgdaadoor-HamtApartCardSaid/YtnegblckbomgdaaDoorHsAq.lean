/- What is set for one key changes nothing of another one. -/
import Derived.Test.YtnegblckbomgdaaDoorHsAp
import Derived.Deep.Slices
import Derived.Deep.Fields
import Derived.ChangeSame
import Derived.OpenShut
import Derived.MakeChecks
import Derived.FnData
import Derived.Lib.SmallJoins
set_option linter.unusedVariables false
set_option linter.unusedSimpArgs false
namespace Go.Proofs.YtnegblckbomgdaaDoor.Ht
open Go Go.RowKit Go.Shelf Go.Proofs.YtnegblckbomgdaaDoor.Mem Go.Proofs.YtnegblckbomgdaaDoor.PA Go.Proofs.YtnegblckbomgdaaDoorW.PrintWords Go.Proofs.YtnegblckbomgdaaDoor.U64 Go.Proofs.YtnegblckbomgdaaDoor

set_option maxRecDepth 100000 in
set_option maxHeartbeats 4000000 in
theorem apart_out (c d : Cf) (v : Value) (T : Nat) (A : Option Addr) (cs : Nat) (o : S3) (oth : ByteArray) (b1 b2 : Bool) (W : World) (hv : v = .slice A T cs) (hT : Tab W)
    (hn : b1 = false ∨ (b1 = true ∧ b2 = false) ∨ (b1 = true ∧ b2 = true ∧ 200 < oth.size))
    (hf : ∀ V, Below W.heap.size W V → Calls Tryd.prog 18 #[v] V (Ret (fun u _ => u = .bool b1) V))
    (hfo : ∀ V v, OpsV V v [o] → Calls Tryd.prog 18 #[v] V (Ret (fun u _ => u = .bool b2) V)) :
    Calls Tryd.prog 6 #[confV c, confV d, v, .agg #[.string o.f0, .int .i64 o.f1, .bool o.f2], .string oth] W (Tru W) := by
  subst hv
  have HT := Lib.hid hT; have HF := Lib.hid hf; have HFO := Lib.hid hfo
  have HLV := Lib.hid (fun V hT => live_c V hT)
  show Calls Tryd.prog 6 #[.agg #[.int .u64 (U c.1), .int .i64 c.2], .agg #[.int .u64 (U d.1), .int .i64 d.2], .slice A T cs, .agg #[.string o.f0, .int .i64 o.f1, .bool o.f2], .string oth] W _
  generalize U c.1 = y
  generalize c.2 = b
  generalize U d.1 = y'
  generalize d.2 = b'
  clear hT hf hfo
  have hB0 := (((Below.refl W.heap.size W).alloc (Nat.le_refl _) (.cells #[.int .u64 y, .int .i64 b] CT)).alloc (by simp) (.cells #[.int .u64 y', .int .i64 b'] CT)).alloc (by simp; omega) (.cells #[.string o.f0, .int .i64 o.f1, .bool o.f2] OT)
  have BO := heap_k2 W (.cells #[.int .u64 y, .int .i64 b] CT) (.cells #[.int .u64 y', .int .i64 b'] CT) (.cells #[.string o.f0, .int .i64 o.f1, .bool o.f2] OT)
  have HB0 := Lib.hid hB0; have HBO := Lib.hid BO
  clear hB0 BO
  rcases hn with rfl | ⟨rfl, rfl⟩ | ⟨rfl, rfl, hoth⟩
  · go_enter Tryd.func6, Tryd.ntmps6
    go_wp2_with (first
      | (go_at_call 18; ((with_reducible refine (HF.out _ HB1.out).mono ?_); rintro e w2 ⟨v, rfl, rfl, hb2⟩; have HB2 := Lib.hid (below_trans HB1.out hb2); clear hb2))
      | (go_at_call 17; ((with_reducible refine (HLV.out _ (HT.out.below HB2.out)).mono ?_); rintro e w3 ⟨v, rfl, rfl, hb3⟩; have HB3 := Lib.hid (below_trans HB2.out hb3); clear hb3))
      | (go_at_call 17; ((with_reducible refine (HLV.out _ (HT.out.below HB0.out)).mono ?_); rintro e w1 ⟨v, rfl, rfl, hb1⟩; have HB1 := Lib.hid (below_trans HB0.out hb1); clear hb1))
      | fail)
    go_returns
    exact ⟨rfl, HB3.out⟩
  · go_enter Tryd.func6, Tryd.ntmps6
    go_wp2_with (first
      | (go_at_call 18; ((with_reducible refine (HFO.out _ _ (one_ops o w1a)).mono ?_); rintro e w2 ⟨v, rfl, rfl, hb2⟩; have HB2 := Lib.hid (below_trans HB1a.out (below_trans ((Below.refl w1a.heap.size w1a).alloc (Nat.le_refl _) _) hb2)); clear hb2))
      | (go_at_call 18; ((with_reducible refine (HF.out _ HB1.out).mono ?_); rintro e w1a ⟨v, rfl, rfl, hb2⟩; have HB1a := Lib.hid (below_trans HB1.out hb2); obtain ⟨⟨x0, x1, x2⟩, -⟩ := box3 (blk_below HBO.out (below_trans HE1.out hb2)); clear hb2))
      | (go_at_call 17; ((with_reducible refine (HLV.out _ (HT.out.below HB2.out)).mono ?_); rintro e w3 ⟨v, rfl, rfl, hb3⟩; have HB3 := Lib.hid (below_trans HB2.out hb3); clear hb3))
      | (go_at_call 17; ((with_reducible refine (HLV.out _ (HT.out.below HB0.out)).mono ?_); rintro e w1 ⟨v, rfl, rfl, hb1⟩; have HE1 := Lib.hid hb1; have HB1 := Lib.hid (below_trans HB0.out hb1); clear hb1))
      | fail)
    go_returns
    exact ⟨rfl, HB3.out⟩
  · have hothI : (oth.size : Int) > 200 := by omega
    go_enter Tryd.func6, Tryd.ntmps6
    go_wp2_with (first
      | (go_at_call 18; ((with_reducible refine (HFO.out _ _ (one_ops o w1a)).mono ?_); rintro e w2 ⟨v, rfl, rfl, hb2⟩; have HB2 := Lib.hid (below_trans HB1a.out (below_trans ((Below.refl w1a.heap.size w1a).alloc (Nat.le_refl _) _) hb2)); clear hb2))
      | (go_at_call 18; ((with_reducible refine (HF.out _ HB1.out).mono ?_); rintro e w1a ⟨v, rfl, rfl, hb2⟩; have HB1a := Lib.hid (below_trans HB1.out hb2); obtain ⟨⟨x0, x1, x2⟩, -⟩ := box3 (blk_below HBO.out (below_trans HE1.out hb2)); clear hb2))
      | (go_at_call 17; ((with_reducible refine (HLV.out _ (HT.out.below HB2.out)).mono ?_); rintro e w3 ⟨v, rfl, rfl, hb3⟩; have HB3 := Lib.hid (below_trans HB2.out hb3); clear hb3))
      | (go_at_call 17; ((with_reducible refine (HLV.out _ (HT.out.below HB0.out)).mono ?_); rintro e w1 ⟨v, rfl, rfl, hb1⟩; have HE1 := Lib.hid hb1; have HB1 := Lib.hid (below_trans HB0.out hb1); clear hb1))
      | fail)
    go_returns
    exact ⟨rfl, HB3.out⟩

/-- WHAT IS SET FOR ONE KEY CHANGES NOTHING OF ANOTHER ONE; WHAT A MAP HAS DOES NOT HANG ON ITS HASH. -/
theorem apart_c (c d : Cf) (v : Value) (os : List S3) (u : Value) (o : S3) (oth : ByteArray) (W : World) (hT : Tab W) (hO : OpsV W v os) (hu : u = .agg #[.string o.f0, .int .i64 o.f1, .bool o.f2]) (hz : oth.size ≤ 140737488351232) :
    Calls Tryd.prog 6 #[confV c, confV d, v, u, .string oth] W (Tru W) := by
  subst hu
  obtain ⟨b1, hb1, hf1⟩ := few_c v os W hO
  obtain ⟨b2, hb2, hf2⟩ := few_b [o] (by simp)
  obtain ⟨A, cs, hv, -⟩ := id hO
  cases b1 with
  | false => exact apart_out c d v _ A cs o oth false b2 W hv hT (Or.inl rfl) hf1 hf2
  | true =>
    cases b2 with
    | false => exact apart_out c d v _ A cs o oth true false W hv hT (Or.inr (Or.inl ⟨rfl, rfl⟩)) hf1 hf2
    | true =>
      by_cases hot : oth.size ≤ 200
      · exact apart_in c d v os o oth W hT hO (hb1 rfl).1 (hb1 rfl).2 ((hb2 rfl).2 o (List.mem_singleton.2 rfl)) hot hf1 hf2
      · exact apart_out c d v _ A cs o oth true true W hv hT (Or.inr (Or.inr ⟨rfl, rfl, by omega⟩)) hf1 hf2
end Go.Proofs.YtnegblckbomgdaaDoor.Ht

namespace Go.Proofs.YtnegblckbomgdaaDoor.Ht
set_option maxRecDepth 100000
open Go Go.RowKit Go.ChangeShapes Go.WideShapes Go.Deep Go.Joins Go.Proofs.YtnegblckbomgdaaDoor.Mem Go.Proofs.YtnegblckbomgdaaDoor.PA Go.Proofs.YtnegblckbomgdaaDoorW.PrintWords Go.Proofs.YtnegblckbomgdaaDoor.U64
theorem op_open {H : Type} {enc : TypeId × Value → H} {w : World} {base : Nat} {spare : Nat → Bool} {held : Bool} {v : Value} {d : DataW H} {p : List MemPlace} {r : Reach} {b0 : Nat}
    (hv : Value.okWide Tryd.prog w r b0 37 v) (h : DataW.Trod enc Tryd.prog w base spare held 37 v d p) : ∃ o : S3, v = .agg #[.string o.f0, .int .i64 o.f1, .bool o.f2] := by
  obtain ⟨c0, c1, c2, y0, y1, y2, m, rfl, hd, hp, g0, g1, g2⟩ := open_agg3 Tryd.underlying37 (by kernel_rfl) (by kernel_rfl) hv h
  obtain ⟨a0, e0, _, _⟩ := DataW.trod_string Tryd.underlying9 g0
  obtain ⟨a1, e1, _, _⟩ := DataW.trod_int Tryd.underlying3 g1
  obtain ⟨a2, e2, _⟩ := DataW.trod_bool Tryd.underlying4 g2
  simp only [List.cons.injEq, and_true] at e0 e1 e2
  subst e0; subst e1; subst e2
  exact ⟨⟨a0, a1, a2⟩, rfl⟩
end Go.Proofs.YtnegblckbomgdaaDoor.Ht
