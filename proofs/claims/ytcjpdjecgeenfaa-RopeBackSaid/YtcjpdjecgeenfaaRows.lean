/-
  No cell of these rows narrows 'for every input' (looked for: loops, veiled, ifaces, maps, wideKeys, modest, calm, conditions, laid).
  DERIVED. THE GIVEN ROWS OF THIS SEAT. 5 by the template 'for every input the law returns true; each argument reads behind the call as it read before'; 0 by the template 'total and deterministic' (their statements: YtcjpdjecgeenfaaTotals.lean).
  GIVEN WITH THE SEED: the statements are not yours to turn. If you find one false, say at which input.
  Laid BY PROGRAM, IN A SANDBOX (cutbox-rows.mjs): the forced cells as the released guide's own fill.sh prints them over the translation f6658b12339cd30e… (all of the seat's roots in one cut). By AI agents, Wed Nov 11 2026. No macro, syntax, notation, axiom, sorry.
-/
import Derived.Test.YtcjpdjecgeenfaaChecked
import GoSem.Claim
import GoSem.ClaimJoined
import GoSem.ClaimMapViews
import Derived.JoinedTies
import Derived.KernelRfl
namespace Go.Proofs.Ytcjpdjecgeenfaa
/- THE CELL 'sum', in the pinned program and in every row, IS THE sha256 OF THE DUMP (.gsa) THAT YtcjpdjecgeenfaaProg.lean LOADS. Nothing in Lean hashes anything: it is a label: what it is worth is what the hold of that sum in a sandbox is worth. -/
noncomputable def Try.pinned : Pinned := { name := "ytcjpdjecgeenfaa", sum := "f6658b12339cd30e62af80e644a7bdb6c62a49c23638e0b16d7661227a746bb4", checked := Try.checked }
namespace Rows
def none {H : Type} : Left H := { results := [], args := [] }

/-- 'placketlaw08.RopeWalks': WHATEVER THE INPUT: true; the input reads as it did. -/
def ropeWalksSpec : ChangeSpec := { name := "ropeWalks", fn := fun _ => fun
  | [d1, d2] => { results := [.lit (.bool true)], args := [d1, d2] }
  | _ => none }
def ropeWalksRow : OpenClaim := { program := "ytcjpdjecgeenfaa", sum := "f6658b12339cd30e62af80e644a7bdb6c62a49c23638e0b16d7661227a746bb4", func := "placket/placketlaw08.RopeWalks", spec := "ropeWalks", unfollowed := true, recurses := true, apart := false }
def RopeWalksSaid : Prop := ropeWalksRow.holds Try.pinned (OpenSpec.ofChange ropeWalksSpec)

/-- ITS FALSE NEIGHBOUR: 'it returns false'. Refute it at one input. -/
def ropeWalksWrong : ChangeSpec := { name := "ropeWalks", fn := fun _ => fun
  | [d1, d2] => { results := [.lit (.bool false)], args := [d1, d2] }
  | _ => none }
def RopeWalksWrongFalsely : Prop := ropeWalksRow.holds Try.pinned (OpenSpec.ofChange ropeWalksWrong)

/-- 'placketlaw08.RopeFlat': WHATEVER THE INPUT: true; the input reads as it did. -/
def ropeFlatSpec : ChangeSpec := { name := "ropeFlat", fn := fun _ => fun
  | [d] => { results := [.lit (.bool true)], args := [d] }
  | _ => none }
def ropeFlatRow : OpenClaim := { program := "ytcjpdjecgeenfaa", sum := "f6658b12339cd30e62af80e644a7bdb6c62a49c23638e0b16d7661227a746bb4", func := "placket/placketlaw08.RopeFlat", spec := "ropeFlat", recurses := true, apart := false }
def RopeFlatSaid : Prop := ropeFlatRow.holds Try.pinned (OpenSpec.ofChange ropeFlatSpec)

/-- ITS FALSE NEIGHBOUR: 'it returns false'. Refute it at one input. -/
def ropeFlatWrong : ChangeSpec := { name := "ropeFlat", fn := fun _ => fun
  | [d] => { results := [.lit (.bool false)], args := [d] }
  | _ => none }
def RopeFlatWrongFalsely : Prop := ropeFlatRow.holds Try.pinned (OpenSpec.ofChange ropeFlatWrong)

/-- 'placketlaw08.RopeDoes': WHATEVER THE INPUT: true; the input reads as it did. -/
def ropeDoesSpec : ChangeSpec := { name := "ropeDoes", fn := fun _ => fun
  | [d1, d2] => { results := [.lit (.bool true)], args := [d1, d2] }
  | _ => none }
def ropeDoesRow : OpenClaim := { program := "ytcjpdjecgeenfaa", sum := "f6658b12339cd30e62af80e644a7bdb6c62a49c23638e0b16d7661227a746bb4", func := "placket/placketlaw08.RopeDoes", spec := "ropeDoes", unfollowed := true, recurses := true, apart := false }
def RopeDoesSaid : Prop := ropeDoesRow.holds Try.pinned (OpenSpec.ofChange ropeDoesSpec)

/-- ITS FALSE NEIGHBOUR: 'it returns false'. Refute it at one input. -/
def ropeDoesWrong : ChangeSpec := { name := "ropeDoes", fn := fun _ => fun
  | [d1, d2] => { results := [.lit (.bool false)], args := [d1, d2] }
  | _ => none }
def RopeDoesWrongFalsely : Prop := ropeDoesRow.holds Try.pinned (OpenSpec.ofChange ropeDoesWrong)

/-- 'placketlaw08.RopeParts': WHATEVER THE INPUT: true; the input reads as it did. -/
def ropePartsSpec : ChangeSpec := { name := "ropeParts", fn := fun _ => fun
  | [d1, d2, d3] => { results := [.lit (.bool true)], args := [d1, d2, d3] }
  | _ => none }
def ropePartsRow : OpenClaim := { program := "ytcjpdjecgeenfaa", sum := "f6658b12339cd30e62af80e644a7bdb6c62a49c23638e0b16d7661227a746bb4", func := "placket/placketlaw08.RopeParts", spec := "ropeParts", unfollowed := true, recurses := true, apart := false }
def RopePartsSaid : Prop := ropePartsRow.holds Try.pinned (OpenSpec.ofChange ropePartsSpec)

/-- ITS FALSE NEIGHBOUR: 'it returns false'. Refute it at one input. -/
def ropePartsWrong : ChangeSpec := { name := "ropeParts", fn := fun _ => fun
  | [d1, d2, d3] => { results := [.lit (.bool false)], args := [d1, d2, d3] }
  | _ => none }
def RopePartsWrongFalsely : Prop := ropePartsRow.holds Try.pinned (OpenSpec.ofChange ropePartsWrong)

/-- 'placketlaw08.RopeBack': WHATEVER THE INPUT: true; the input reads as it did. -/
def ropeBackSpec : ChangeSpec := { name := "ropeBack", fn := fun _ => fun
  | [d1, d2, d3] => { results := [.lit (.bool true)], args := [d1, d2, d3] }
  | _ => none }
def ropeBackRow : OpenClaim := { program := "ytcjpdjecgeenfaa", sum := "f6658b12339cd30e62af80e644a7bdb6c62a49c23638e0b16d7661227a746bb4", func := "placket/placketlaw08.RopeBack", spec := "ropeBack", unfollowed := true, recurses := true, apart := false }
def RopeBackSaid : Prop := ropeBackRow.holds Try.pinned (OpenSpec.ofChange ropeBackSpec)

/-- ITS FALSE NEIGHBOUR: 'it returns false'. Refute it at one input. -/
def ropeBackWrong : ChangeSpec := { name := "ropeBack", fn := fun _ => fun
  | [d1, d2, d3] => { results := [.lit (.bool false)], args := [d1, d2, d3] }
  | _ => none }
def RopeBackWrongFalsely : Prop := ropeBackRow.holds Try.pinned (OpenSpec.ofChange ropeBackWrong)

/- THE SECOND FORM. 'bulk': how many values and letters a reading holds, each counted each time it is reached (what is shared counts as often as it is met; a slice's spare places count too). A statement '..UptoSaid' is the law's where the arguments, and the package variables that the reading takes, are together of bulk at most 1048576: NARROWER than '..Said'. Prove '..Said' where nothing that the law and all that it calls make is longer than what came in: it says more and counts as full. Else prove '..UptoSaid'. A law counts once. -/
mutual
def uptoBulk {H : Type} : DataW H → Nat
  | .lit (.string bytes) => bytes.length + 1
  | .lit _ => 1
  | .nil => 1
  | .ptr d => uptoBulk d + 1
  | .slice elems spare => uptoBulkAll elems + uptoBulkAll spare + 1
  | .agg parts => uptoBulkAll parts + 1
  | .iface _ d => uptoBulk d + 1
  | .map entries => uptoBulkEntries entries + 1
  | .held _ => 1
def uptoBulkAll {H : Type} : List (DataW H) → Nat
  | [] => 0
  | d :: r => uptoBulk d + uptoBulkAll r
def uptoBulkEntries {H : Type} : List (Lit × DataW H) → Nat
  | [] => 0
  | x :: r => uptoBulkEntry x + uptoBulkEntries r
def uptoBulkEntry {H : Type} : Lit × DataW H → Nat
  | (.string bytes, d) => bytes.length + uptoBulk d + 1
  | (_, d) => uptoBulk d + 1
 end
def uptoSmall : (H : Type) → List (DataW H) → Bool := fun _ ds => decide (uptoBulkAll ds ≤ 1048576)
def OpenSpec.upto (s : _root_.Go.ChangeSpec) : _root_.Go.OpenSpec := { _root_.Go.OpenSpec.ofChange s with cond := some uptoSmall }

/-- 'placketlaw08.RopeWalks', WHERE WHAT IT READS IS OF BULK AT MOST 1048576: true; the input reads as it did. -/
def ropeWalksUptoRow : OpenClaim := { program := "ytcjpdjecgeenfaa", sum := "f6658b12339cd30e62af80e644a7bdb6c62a49c23638e0b16d7661227a746bb4", func := "placket/placketlaw08.RopeWalks", spec := "ropeWalks", unfollowed := true, recurses := true, apart := false, narrowed := true }
def RopeWalksUptoSaid : Prop := ropeWalksUptoRow.holds Try.pinned (OpenSpec.upto ropeWalksSpec)

/-- 'placketlaw08.RopeFlat', WHERE WHAT IT READS IS OF BULK AT MOST 1048576: true; the input reads as it did. -/
def ropeFlatUptoRow : OpenClaim := { program := "ytcjpdjecgeenfaa", sum := "f6658b12339cd30e62af80e644a7bdb6c62a49c23638e0b16d7661227a746bb4", func := "placket/placketlaw08.RopeFlat", spec := "ropeFlat", recurses := true, apart := false, narrowed := true }
def RopeFlatUptoSaid : Prop := ropeFlatUptoRow.holds Try.pinned (OpenSpec.upto ropeFlatSpec)

/-- 'placketlaw08.RopeDoes', WHERE WHAT IT READS IS OF BULK AT MOST 1048576: true; the input reads as it did. -/
def ropeDoesUptoRow : OpenClaim := { program := "ytcjpdjecgeenfaa", sum := "f6658b12339cd30e62af80e644a7bdb6c62a49c23638e0b16d7661227a746bb4", func := "placket/placketlaw08.RopeDoes", spec := "ropeDoes", unfollowed := true, recurses := true, apart := false, narrowed := true }
def RopeDoesUptoSaid : Prop := ropeDoesUptoRow.holds Try.pinned (OpenSpec.upto ropeDoesSpec)

/-- 'placketlaw08.RopeParts', WHERE WHAT IT READS IS OF BULK AT MOST 1048576: true; the input reads as it did. -/
def ropePartsUptoRow : OpenClaim := { program := "ytcjpdjecgeenfaa", sum := "f6658b12339cd30e62af80e644a7bdb6c62a49c23638e0b16d7661227a746bb4", func := "placket/placketlaw08.RopeParts", spec := "ropeParts", unfollowed := true, recurses := true, apart := false, narrowed := true }
def RopePartsUptoSaid : Prop := ropePartsUptoRow.holds Try.pinned (OpenSpec.upto ropePartsSpec)

/-- 'placketlaw08.RopeBack', WHERE WHAT IT READS IS OF BULK AT MOST 1048576: true; the input reads as it did. -/
def ropeBackUptoRow : OpenClaim := { program := "ytcjpdjecgeenfaa", sum := "f6658b12339cd30e62af80e644a7bdb6c62a49c23638e0b16d7661227a746bb4", func := "placket/placketlaw08.RopeBack", spec := "ropeBack", unfollowed := true, recurses := true, apart := false, narrowed := true }
def RopeBackUptoSaid : Prop := ropeBackUptoRow.holds Try.pinned (OpenSpec.upto ropeBackSpec)

end Rows
end Go.Proofs.Ytcjpdjecgeenfaa
