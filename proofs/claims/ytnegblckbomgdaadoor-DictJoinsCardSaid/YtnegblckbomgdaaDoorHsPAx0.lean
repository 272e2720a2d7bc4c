/- Laws of the maps' code and of the words it uses, gathered out of the printed and own texts; no conditions. -/
import Derived.Test.YtnegblckbomgdaaDoorProg
import Derived.Below
import Derived.Deep.Draws
import Derived.Deep.AppendLies
import Derived.Maps.AppendAt
import Derived.OwnWalk
import Derived.Laws.BytesArg
import Derived.Laws.MakeOwn
import Derived.Laws.OwnMore
import Derived.Deep.OwnRows
import Derived.Tactics
import Derived.Lib.ConvBytes
import Derived.Laws.Slices
import Derived.WalkKit
import Derived.KernelRfl
import Derived.RowKit3
import Derived.Deep.LoopGhost
import Derived.Deep.QuietTactic
import Derived.BigQuiet
import Derived.WideLaws
import Derived.Deep.DeepCutAuto
import Derived.Deep.CutBlock
import Derived.Deep.RegionHeld3
import Derived.Laws.Rows
import Derived.Lib.AppendStr
import Derived.ArgAppend
import Derived.Laws.IdiomCopy
import Derived.OrdersHeld
import Derived.Laws.BitsLemmas
import Derived.RowKit
import Derived.Test.YtnegblckbomgdaaDoorHsWWords
import Derived.Test.YtnegblckbomgdaaDoorHsWLast
import Derived.Test.YtnegblckbomgdaaDoorHsWTab
import Derived.Test.YtnegblckbomgdaaDoorHsWFour
import Derived.Test.YtnegblckbomgdaaDoorHsWQPut
import Derived.Test.YtnegblckbomgdaaDoorHsWApart
import Derived.Test.YtnegblckbomgdaaDoorHsWArr
import Derived.Test.YtnegblckbomgdaaDoorHsWZeros
import Derived.Test.YtnegblckbomgdaaDoorHsWFoot
import Derived.Test.YtnegblckbomgdaaDoorHsWKept
import Derived.Test.YtnegblckbomgdaaDoorHsWShare
import Derived.Test.YtnegblckbomgdaaDoorHsWN
import Derived.Test.YtnegblckbomgdaaDoorHsWFootNe
import Derived.Test.YtnegblckbomgdaaDoorHsWAt
import Derived.Test.YtnegblckbomgdaaDoorHsWEqStruct
import Derived.Test.YtnegblckbomgdaaDoorHsWRepsOne
import Derived.Test.YtnegblckbomgdaaDoorHsWInv
import Derived.Test.YtnegblckbomgdaaDoorHsWInvWords
import Derived.Test.YtnegblckbomgdaaDoorHsWGuard
import Derived.Test.YtnegblckbomgdaaDoorHsWNEv
import Derived.Test.YtnegblckbomgdaaDoorHsWMore
set_option linter.unusedVariables false
set_option linter.unusedSimpArgs false
-- Written by a program (the kit's print.py, called over functions of which some are replaced), then cut: Lean checks it.
namespace Go.Proofs.YtnegblckbomgdaaDoor.PA
open Go.RowKit Go.Proofs.YtnegblckbomgdaaDoorW.PrintWords Go.Proofs.YtnegblckbomgdaaDoorW.PrintLast Go.Proofs.YtnegblckbomgdaaDoorW.PrintMore
attribute [local go_sem] max2_int min2_int max_two min_two max_three min_three max_four min_four   -- for this text's walks alone
def errW : Option Int → Value
  | none => .nilIface
  | some c => .iface 0 (.int .i64 c)
theorem errW_none : errW none = .nilIface := rfl
theorem errW_some (c : Int) : errW (some c) = .iface 0 (.int .i64 c) := rfl
structure S121 where
  f0 : ByteArray
  f1 : Int
structure S37 where
  f0 : ByteArray
  f1 : Int
  f2 : Bool
def z37 : S37 := ⟨(⟨#[]⟩ : ByteArray), (0 : Int), false⟩
def k37 : Kd S37 := Kd.iso (Kd.pair Kd.string (Kd.pair (Kd.int .i64) Kd.bool)) (fun x : S37 => (x.f0, x.f1, x.f2))
theorem k37_open {w : World} {x : S37} {cs : List Value} (h : k37.K w x cs) : cs = [.string x.f0, .int .i64 x.f1, .bool x.f2] := by
  obtain ⟨_, _, rfl, rfl, ⟨_, _, rfl, rfl, rfl⟩⟩ := h
  exact rfl
theorem k37_mk (w : World) (x : S37)  : k37.K w x [.string x.f0, .int .i64 x.f1, .bool x.f2] := ⟨[.string x.f0], [.int .i64 x.f1, .bool x.f2], rfl, rfl, ⟨[.int .i64 x.f1], [.bool x.f2], rfl, rfl, rfl⟩⟩
def rd_T37 (xs : List S37) (i : Int) : S37 := xs.getD i.toNat z37
theorem at_T37 {w : World} {A : Option Addr} {n : Nat} {xs : List S37} (h : Kd.C k37 w A n xs) (i : Int) (h0 : 0 ≤ i) (h1 : i < n) : ∃ ad , A = some ad ∧ w.cell? (ad.add (i.toNat * 3)) = some (.string (rd_T37 xs i).f0) ∧ w.cell? ⟨(ad.add (i.toNat * 3)).block, (ad.add (i.toNat * 3)).off + 1, none⟩ = some (.int .i64 (rd_T37 xs i).f1) ∧ w.cell? ⟨(ad.add (i.toNat * 3)).block, (ad.add (i.toNat * 3)).off + 2, none⟩ = some (.bool (rd_T37 xs i).f2) := by
  obtain ⟨ad, c, e, _, hK, hc0⟩ := Kd.C_get h z37 i h0 h1
  have hc : ∀ j u, c[j]? = some u → w.cell? (ad.add (i.toNat * 3 + j)) = some u := hc0
  obtain rfl := k37_open hK
  exact ⟨ad, e, hc 0 _ rfl, by rw [← add_field _ _ 1 (by omega)]; exact hc 1 _ rfl, by rw [← add_field _ _ 2 (by omega)]; exact hc 2 _ rfl⟩
structure S133 where
  f0 : ByteArray
  f1 : Int
def z133 : S133 := ⟨(⟨#[]⟩ : ByteArray), (0 : Int)⟩
def k133 : Kd S133 := Kd.iso (Kd.pair Kd.string (Kd.int .i64)) (fun x : S133 => (x.f0, x.f1))
theorem k133_open {w : World} {x : S133} {cs : List Value} (h : k133.K w x cs) : cs = [.string x.f0, .int .i64 x.f1] := by
  obtain ⟨_, _, rfl, rfl, rfl⟩ := h
  exact rfl
def rd_T133 (xs : List S133) (i : Int) : S133 := xs.getD i.toNat z133
theorem at_T133 {w : World} {A : Option Addr} {n : Nat} {xs : List S133} (h : Kd.C k133 w A n xs) (i : Int) (h0 : 0 ≤ i) (h1 : i < n) : ∃ ad , A = some ad ∧ w.cell? (ad.add (i.toNat * 2)) = some (.string (rd_T133 xs i).f0) ∧ w.cell? ⟨(ad.add (i.toNat * 2)).block, (ad.add (i.toNat * 2)).off + 1, none⟩ = some (.int .i64 (rd_T133 xs i).f1) := by
  obtain ⟨ad, c, e, _, hK, hc0⟩ := Kd.C_get h z133 i h0 h1
  have hc : ∀ j u, c[j]? = some u → w.cell? (ad.add (i.toNat * 2 + j)) = some u := hc0
  obtain rfl := k133_open hK
  exact ⟨ad, e, hc 0 _ rfl, by rw [← add_field _ _ 1 (by omega)]; exact hc 1 _ rfl⟩
structure S93 where
  f0 : ByteArray
  f1 : Bool
  f2 : Bool
  f3 : Int
  f4 : Int
structure S92 where
  f0 : ByteArray
  f1 : Bool
  f2 : Bool
  f3 : Int
  f4 : Int
end Go.Proofs.YtnegblckbomgdaaDoor.PA
