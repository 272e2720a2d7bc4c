/-
  No cell of these rows narrows 'for every input' (looked for: loops, veiled, ifaces, maps, wideKeys, modest, calm, conditions, laid).
  DERIVED. THE GIVEN ROWS OF THIS SEAT. 5 by the template 'for every input the law returns true; each argument reads behind the call as it read before'; 0 by the template 'total and deterministic' (their statements: YtmoakgacffjblaaTotals.lean).
  GIVEN WITH THE SEED: the statements are not yours to turn. If you find one false, say at which input.
  Laid BY PROGRAM, IN A SANDBOX (cutbox-rows.mjs): the forced cells as the released guide's own fill.sh prints them over the translation a5bbe3378c3a6e9c… (all of the seat's roots in one cut). By AI agents, Wed Nov 11 2026. No macro, syntax, notation, axiom, sorry.
-/
import Derived.Test.YtmoakgacffjblaaChecked
import GoSem.Claim
import GoSem.ClaimJoined
import GoSem.ClaimMapViews
import Derived.JoinedTies
import Derived.KernelRfl
namespace Go.Proofs.Ytmoakgacffjblaa
/- THE CELL 'sum', in the pinned program and in every row, IS THE sha256 OF THE DUMP (.gsa) THAT YtmoakgacffjblaaProg.lean LOADS. Nothing in Lean hashes anything: it is a label: what it is worth is what the hold of that sum in a sandbox is worth. -/
noncomputable def Try.pinned : Pinned := { name := "ytmoakgacffjblaa", sum := "a5bbe3378c3a6e9c092ba90e323fefe46a7193f704ea492d17e47ef124bcc555", checked := Try.checked }
namespace Rows
def none {H : Type} : Left H := { results := [], args := [] }

/-- 'placketlaw07.PvecWalks': WHATEVER THE INPUT: true; the input reads as it did. -/
def pvecWalksSpec : ChangeSpec := { name := "pvecWalks", fn := fun _ => fun
  | [d1, d2] => { results := [.lit (.bool true)], args := [d1, d2] }
  | _ => none }
def pvecWalksRow : OpenClaim := { program := "ytmoakgacffjblaa", sum := "a5bbe3378c3a6e9c092ba90e323fefe46a7193f704ea492d17e47ef124bcc555", func := "placket/placketlaw07.PvecWalks", spec := "pvecWalks", unfollowed := true, recurses := true, apart := false }
def PvecWalksSaid : Prop := pvecWalksRow.holds Try.pinned (OpenSpec.ofChange pvecWalksSpec)

/-- ITS FALSE NEIGHBOUR: 'it returns false'. Refute it at one input. -/
def pvecWalksWrong : ChangeSpec := { name := "pvecWalks", fn := fun _ => fun
  | [d1, d2] => { results := [.lit (.bool false)], args := [d1, d2] }
  | _ => none }
def PvecWalksWrongFalsely : Prop := pvecWalksRow.holds Try.pinned (OpenSpec.ofChange pvecWalksWrong)

/-- 'placketlaw07.PvecBack': WHATEVER THE INPUT: true; the input reads as it did. -/
def pvecBackSpec : ChangeSpec := { name := "pvecBack", fn := fun _ => fun
  | [d1, d2] => { results := [.lit (.bool true)], args := [d1, d2] }
  | _ => none }
def pvecBackRow : OpenClaim := { program := "ytmoakgacffjblaa", sum := "a5bbe3378c3a6e9c092ba90e323fefe46a7193f704ea492d17e47ef124bcc555", func := "placket/placketlaw07.PvecBack", spec := "pvecBack", unfollowed := true, recurses := true, apart := false }
def PvecBackSaid : Prop := pvecBackRow.holds Try.pinned (OpenSpec.ofChange pvecBackSpec)

/-- ITS FALSE NEIGHBOUR: 'it returns false'. Refute it at one input. -/
def pvecBackWrong : ChangeSpec := { name := "pvecBack", fn := fun _ => fun
  | [d1, d2] => { results := [.lit (.bool false)], args := [d1, d2] }
  | _ => none }
def PvecBackWrongFalsely : Prop := pvecBackRow.holds Try.pinned (OpenSpec.ofChange pvecBackWrong)

/-- 'placketlaw07.PvecDoes': WHATEVER THE INPUT: true; the input reads as it did. -/
def pvecDoesSpec : ChangeSpec := { name := "pvecDoes", fn := fun _ => fun
  | [d1, d2] => { results := [.lit (.bool true)], args := [d1, d2] }
  | _ => none }
def pvecDoesRow : OpenClaim := { program := "ytmoakgacffjblaa", sum := "a5bbe3378c3a6e9c092ba90e323fefe46a7193f704ea492d17e47ef124bcc555", func := "placket/placketlaw07.PvecDoes", spec := "pvecDoes", unfollowed := true, recurses := true, apart := false }
def PvecDoesSaid : Prop := pvecDoesRow.holds Try.pinned (OpenSpec.ofChange pvecDoesSpec)

/-- ITS FALSE NEIGHBOUR: 'it returns false'. Refute it at one input. -/
def pvecDoesWrong : ChangeSpec := { name := "pvecDoes", fn := fun _ => fun
  | [d1, d2] => { results := [.lit (.bool false)], args := [d1, d2] }
  | _ => none }
def PvecDoesWrongFalsely : Prop := pvecDoesRow.holds Try.pinned (OpenSpec.ofChange pvecDoesWrong)

/-- 'placketlaw07.PvecBranches': WHATEVER THE INPUT: true; the input reads as it did. -/
def pvecBranchesSpec : ChangeSpec := { name := "pvecBranches", fn := fun _ => fun
  | [d1, d2, d3] => { results := [.lit (.bool true)], args := [d1, d2, d3] }
  | _ => none }
def pvecBranchesRow : OpenClaim := { program := "ytmoakgacffjblaa", sum := "a5bbe3378c3a6e9c092ba90e323fefe46a7193f704ea492d17e47ef124bcc555", func := "placket/placketlaw07.PvecBranches", spec := "pvecBranches", unfollowed := true, recurses := true, apart := false }
def PvecBranchesSaid : Prop := pvecBranchesRow.holds Try.pinned (OpenSpec.ofChange pvecBranchesSpec)

/-- ITS FALSE NEIGHBOUR: 'it returns false'. Refute it at one input. -/
def pvecBranchesWrong : ChangeSpec := { name := "pvecBranches", fn := fun _ => fun
  | [d1, d2, d3] => { results := [.lit (.bool false)], args := [d1, d2, d3] }
  | _ => none }
def PvecBranchesWrongFalsely : Prop := pvecBranchesRow.holds Try.pinned (OpenSpec.ofChange pvecBranchesWrong)

/-- 'placketlaw07.PvecFlat': WHATEVER THE INPUT: true; the input reads as it did. -/
def pvecFlatSpec : ChangeSpec := { name := "pvecFlat", fn := fun _ => fun
  | [d] => { results := [.lit (.bool true)], args := [d] }
  | _ => none }
def pvecFlatRow : OpenClaim := { program := "ytmoakgacffjblaa", sum := "a5bbe3378c3a6e9c092ba90e323fefe46a7193f704ea492d17e47ef124bcc555", func := "placket/placketlaw07.PvecFlat", spec := "pvecFlat", unfollowed := true, recurses := true, apart := false }
def PvecFlatSaid : Prop := pvecFlatRow.holds Try.pinned (OpenSpec.ofChange pvecFlatSpec)

/-- ITS FALSE NEIGHBOUR: 'it returns false'. Refute it at one input. -/
def pvecFlatWrong : ChangeSpec := { name := "pvecFlat", fn := fun _ => fun
  | [d] => { results := [.lit (.bool false)], args := [d] }
  | _ => none }
def PvecFlatWrongFalsely : Prop := pvecFlatRow.holds Try.pinned (OpenSpec.ofChange pvecFlatWrong)

/- THE SECOND FORM. 'bulk': how many values and letters a reading holds, each counted each time it is reached (what is shared counts as often as it is met; a slice's spare places count too). A statement '..UptoSaid' is the law's where the arguments, and the package variables that the reading takes, are together of bulk at most 1048576: NARROWER than '..Said'. Prove '..Said' where nothing that the law and all that it calls make is longer than what came in: it says more and counts as full. Else prove '..UptoSaid'. A law counts once. -/
mutual
def uptoBulk {H : Type} : DataW H → Nat
  | .lit (.string bytes) => bytes.length + 1
  | .lit _ => 1
  | .nil => 1
  | .ptr d => uptoBulk d + 1
  | .slice elems spare => uptoBulkAll elems + uptoBulkAll spare + 1
  | .agg parts => uptoBulkAll parts + 1
  | .iface _ d => uptoBulk d + 1
  | .map entries => uptoBulkEntries entries + 1
  | .held _ => 1
def uptoBulkAll {H : Type} : List (DataW H) → Nat
  | [] => 0
  | d :: r => uptoBulk d + uptoBulkAll r
def uptoBulkEntries {H : Type} : List (Lit × DataW H) → Nat
  | [] => 0
  | x :: r => uptoBulkEntry x + uptoBulkEntries r
def uptoBulkEntry {H : Type} : Lit × DataW H → Nat
  | (.string bytes, d) => bytes.length + uptoBulk d + 1
  | (_, d) => uptoBulk d + 1
 end
def uptoSmall : (H : Type) → List (DataW H) → Bool := fun _ ds => decide (uptoBulkAll ds ≤ 1048576)
def OpenSpec.upto (s : _root_.Go.ChangeSpec) : _root_.Go.OpenSpec := { _root_.Go.OpenSpec.ofChange s with cond := some uptoSmall }

/-- 'placketlaw07.PvecWalks', WHERE WHAT IT READS IS OF BULK AT MOST 1048576: true; the input reads as it did. -/
def pvecWalksUptoRow : OpenClaim := { program := "ytmoakgacffjblaa", sum := "a5bbe3378c3a6e9c092ba90e323fefe46a7193f704ea492d17e47ef124bcc555", func := "placket/placketlaw07.PvecWalks", spec := "pvecWalks", unfollowed := true, recurses := true, apart := false, narrowed := true }
def PvecWalksUptoSaid : Prop := pvecWalksUptoRow.holds Try.pinned (OpenSpec.upto pvecWalksSpec)

/-- 'placketlaw07.PvecBack', WHERE WHAT IT READS IS OF BULK AT MOST 1048576: true; the input reads as it did. -/
def pvecBackUptoRow : OpenClaim := { program := "ytmoakgacffjblaa", sum := "a5bbe3378c3a6e9c092ba90e323fefe46a7193f704ea492d17e47ef124bcc555", func := "placket/placketlaw07.PvecBack", spec := "pvecBack", unfollowed := true, recurses := true, apart := false, narrowed := true }
def PvecBackUptoSaid : Prop := pvecBackUptoRow.holds Try.pinned (OpenSpec.upto pvecBackSpec)

/-- 'placketlaw07.PvecDoes', WHERE WHAT IT READS IS OF BULK AT MOST 1048576: true; the input reads as it did. -/
def pvecDoesUptoRow : OpenClaim := { program := "ytmoakgacffjblaa", sum := "a5bbe3378c3a6e9c092ba90e323fefe46a7193f704ea492d17e47ef124bcc555", func := "placket/placketlaw07.PvecDoes", spec := "pvecDoes", unfollowed := true, recurses := true, apart := false, narrowed := true }
def PvecDoesUptoSaid : Prop := pvecDoesUptoRow.holds Try.pinned (OpenSpec.upto pvecDoesSpec)

/-- 'placketlaw07.PvecBranches', WHERE WHAT IT READS IS OF BULK AT MOST 1048576: true; the input reads as it did. -/
def pvecBranchesUptoRow : OpenClaim := { program := "ytmoakgacffjblaa", sum := "a5bbe3378c3a6e9c092ba90e323fefe46a7193f704ea492d17e47ef124bcc555", func := "placket/placketlaw07.PvecBranches", spec := "pvecBranches", unfollowed := true, recurses := true, apart := false, narrowed := true }
def PvecBranchesUptoSaid : Prop := pvecBranchesUptoRow.holds Try.pinned (OpenSpec.upto pvecBranchesSpec)

/-- 'placketlaw07.PvecFlat', WHERE WHAT IT READS IS OF BULK AT MOST 1048576: true; the input reads as it did. -/
def pvecFlatUptoRow : OpenClaim := { program := "ytmoakgacffjblaa", sum := "a5bbe3378c3a6e9c092ba90e323fefe46a7193f704ea492d17e47ef124bcc555", func := "placket/placketlaw07.PvecFlat", spec := "pvecFlat", unfollowed := true, recurses := true, apart := false, narrowed := true }
def PvecFlatUptoSaid : Prop := pvecFlatUptoRow.holds Try.pinned (OpenSpec.upto pvecFlatSpec)

end Rows
end Go.Proofs.Ytmoakgacffjblaa
