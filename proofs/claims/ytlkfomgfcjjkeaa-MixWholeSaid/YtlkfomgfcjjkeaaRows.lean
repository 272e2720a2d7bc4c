/-
  No cell of these rows narrows 'for every input' (looked for: loops, veiled, ifaces, maps, wideKeys, modest, calm, conditions, laid).
  DERIVED. THE GIVEN ROWS OF THIS SEAT. 6 by the template 'for every input the law returns true; each argument reads behind the call as it read before'; 0 by the template 'total and deterministic' (their statements: YtlkfomgfcjjkeaaTotals.lean).
  GIVEN WITH THE SEED: the statements are not yours to turn. If you find one false, say at which input.
  Laid BY PROGRAM, IN A SANDBOX (cutbox-rows.mjs): the forced cells as the released guide's own fill.sh prints them over the translation 0f34f4bf43f30d01… (all of the seat's roots in one cut). By AI agents, Wed Nov 11 2026. No macro, syntax, notation, axiom, sorry.
-/
import Derived.Test.YtlkfomgfcjjkeaaChecked
import GoSem.Claim
import GoSem.ClaimJoined
import GoSem.ClaimMapViews
import Derived.JoinedTies
import Derived.KernelRfl
namespace Go.Proofs.Ytlkfomgfcjjkeaa
/- THE CELL 'sum', in the pinned program and in every row, IS THE sha256 OF THE DUMP (.gsa) THAT YtlkfomgfcjjkeaaProg.lean LOADS. Nothing in Lean hashes anything: it is a label: what it is worth is what the hold of that sum in a sandbox is worth. -/
noncomputable def Try.pinned : Pinned := { name := "ytlkfomgfcjjkeaa", sum := "0f34f4bf43f30d0114581a2f57d149688abc6db4a0d5b563593d30a310f5d2ac", checked := Try.checked }
namespace Rows
def none {H : Type} : Left H := { results := [], args := [] }

/-- 'placketlaw03.MixSteps': WHATEVER THE INPUT: true; the input reads as it did. -/
def mixStepsSpec : ChangeSpec := { name := "mixSteps", fn := fun _ => fun
  | [d1, d2] => { results := [.lit (.bool true)], args := [d1, d2] }
  | _ => none }
def mixStepsRow : OpenClaim := { program := "ytlkfomgfcjjkeaa", sum := "0f34f4bf43f30d0114581a2f57d149688abc6db4a0d5b563593d30a310f5d2ac", func := "placket/placketlaw03.MixSteps", spec := "mixSteps", apart := false }
def MixStepsSaid : Prop := mixStepsRow.holds Try.pinned (OpenSpec.ofChange mixStepsSpec)

/-- ITS FALSE NEIGHBOUR: 'it returns false'. Refute it at one input. -/
def mixStepsWrong : ChangeSpec := { name := "mixSteps", fn := fun _ => fun
  | [d1, d2] => { results := [.lit (.bool false)], args := [d1, d2] }
  | _ => none }
def MixStepsWrongFalsely : Prop := mixStepsRow.holds Try.pinned (OpenSpec.ofChange mixStepsWrong)

/-- 'placketlaw03.MixPieces': WHATEVER THE INPUT: true; the input reads as it did. -/
def mixPiecesSpec : ChangeSpec := { name := "mixPieces", fn := fun _ => fun
  | [d1, d2, d3] => { results := [.lit (.bool true)], args := [d1, d2, d3] }
  | _ => none }
def mixPiecesRow : OpenClaim := { program := "ytlkfomgfcjjkeaa", sum := "0f34f4bf43f30d0114581a2f57d149688abc6db4a0d5b563593d30a310f5d2ac", func := "placket/placketlaw03.MixPieces", spec := "mixPieces", apart := false }
def MixPiecesSaid : Prop := mixPiecesRow.holds Try.pinned (OpenSpec.ofChange mixPiecesSpec)

/-- ITS FALSE NEIGHBOUR: 'it returns false'. Refute it at one input. -/
def mixPiecesWrong : ChangeSpec := { name := "mixPieces", fn := fun _ => fun
  | [d1, d2, d3] => { results := [.lit (.bool false)], args := [d1, d2, d3] }
  | _ => none }
def MixPiecesWrongFalsely : Prop := mixPiecesRow.holds Try.pinned (OpenSpec.ofChange mixPiecesWrong)

/-- 'placketlaw03.MixApart': WHATEVER THE INPUT: true; the input reads as it did. -/
def mixApartSpec : ChangeSpec := { name := "mixApart", fn := fun _ => fun
  | [d1, d2, d3, d4] => { results := [.lit (.bool true)], args := [d1, d2, d3, d4] }
  | _ => none }
def mixApartRow : OpenClaim := { program := "ytlkfomgfcjjkeaa", sum := "0f34f4bf43f30d0114581a2f57d149688abc6db4a0d5b563593d30a310f5d2ac", func := "placket/placketlaw03.MixApart", spec := "mixApart", apart := false }
def MixApartSaid : Prop := mixApartRow.holds Try.pinned (OpenSpec.ofChange mixApartSpec)

/-- ITS FALSE NEIGHBOUR: 'it returns false'. Refute it at one input. -/
def mixApartWrong : ChangeSpec := { name := "mixApart", fn := fun _ => fun
  | [d1, d2, d3, d4] => { results := [.lit (.bool false)], args := [d1, d2, d3, d4] }
  | _ => none }
def MixApartWrongFalsely : Prop := mixApartRow.holds Try.pinned (OpenSpec.ofChange mixApartWrong)

/-- 'placketlaw03.MixWhole': WHATEVER THE INPUT: true; the input reads as it did. -/
def mixWholeSpec : ChangeSpec := { name := "mixWhole", fn := fun _ => fun
  | [d1, d2] => { results := [.lit (.bool true)], args := [d1, d2] }
  | _ => none }
def mixWholeRow : OpenClaim := { program := "ytlkfomgfcjjkeaa", sum := "0f34f4bf43f30d0114581a2f57d149688abc6db4a0d5b563593d30a310f5d2ac", func := "placket/placketlaw03.MixWhole", spec := "mixWhole", apart := false }
def MixWholeSaid : Prop := mixWholeRow.holds Try.pinned (OpenSpec.ofChange mixWholeSpec)

/-- ITS FALSE NEIGHBOUR: 'it returns false'. Refute it at one input. -/
def mixWholeWrong : ChangeSpec := { name := "mixWhole", fn := fun _ => fun
  | [d1, d2] => { results := [.lit (.bool false)], args := [d1, d2] }
  | _ => none }
def MixWholeWrongFalsely : Prop := mixWholeRow.holds Try.pinned (OpenSpec.ofChange mixWholeWrong)

/-- 'placketlaw03.MixWords': WHATEVER THE INPUT: true; the input reads as it did. -/
def mixWordsSpec : ChangeSpec := { name := "mixWords", fn := fun _ => fun
  | [d1, d2] => { results := [.lit (.bool true)], args := [d1, d2] }
  | _ => none }
def mixWordsRow : OpenClaim := { program := "ytlkfomgfcjjkeaa", sum := "0f34f4bf43f30d0114581a2f57d149688abc6db4a0d5b563593d30a310f5d2ac", func := "placket/placketlaw03.MixWords", spec := "mixWords", apart := false }
def MixWordsSaid : Prop := mixWordsRow.holds Try.pinned (OpenSpec.ofChange mixWordsSpec)

/-- ITS FALSE NEIGHBOUR: 'it returns false'. Refute it at one input. -/
def mixWordsWrong : ChangeSpec := { name := "mixWords", fn := fun _ => fun
  | [d1, d2] => { results := [.lit (.bool false)], args := [d1, d2] }
  | _ => none }
def MixWordsWrongFalsely : Prop := mixWordsRow.holds Try.pinned (OpenSpec.ofChange mixWordsWrong)

/-- 'placketlaw03.MixTexts': WHATEVER THE INPUT: true; the input reads as it did. -/
def mixTextsSpec : ChangeSpec := { name := "mixTexts", fn := fun _ => fun
  | [d1, d2] => { results := [.lit (.bool true)], args := [d1, d2] }
  | _ => none }
def mixTextsRow : OpenClaim := { program := "ytlkfomgfcjjkeaa", sum := "0f34f4bf43f30d0114581a2f57d149688abc6db4a0d5b563593d30a310f5d2ac", func := "placket/placketlaw03.MixTexts", spec := "mixTexts", apart := false }
def MixTextsSaid : Prop := mixTextsRow.holds Try.pinned (OpenSpec.ofChange mixTextsSpec)

/-- ITS FALSE NEIGHBOUR: 'it returns false'. Refute it at one input. -/
def mixTextsWrong : ChangeSpec := { name := "mixTexts", fn := fun _ => fun
  | [d1, d2] => { results := [.lit (.bool false)], args := [d1, d2] }
  | _ => none }
def MixTextsWrongFalsely : Prop := mixTextsRow.holds Try.pinned (OpenSpec.ofChange mixTextsWrong)

/- THE SECOND FORM. 'bulk': how many values and letters a reading holds, each counted each time it is reached (what is shared counts as often as it is met; a slice's spare places count too). A statement '..UptoSaid' is the law's where the arguments, and the package variables that the reading takes, are together of bulk at most 1048576: NARROWER than '..Said'. Prove '..Said' where nothing that the law and all that it calls make is longer than what came in: it says more and counts as full. Else prove '..UptoSaid'. A law counts once. -/
mutual
def uptoBulk {H : Type} : DataW H → Nat
  | .lit (.string bytes) => bytes.length + 1
  | .lit _ => 1
  | .nil => 1
  | .ptr d => uptoBulk d + 1
  | .slice elems spare => uptoBulkAll elems + uptoBulkAll spare + 1
  | .agg parts => uptoBulkAll parts + 1
  | .iface _ d => uptoBulk d + 1
  | .map entries => uptoBulkEntries entries + 1
  | .held _ => 1
def uptoBulkAll {H : Type} : List (DataW H) → Nat
  | [] => 0
  | d :: r => uptoBulk d + uptoBulkAll r
def uptoBulkEntries {H : Type} : List (Lit × DataW H) → Nat
  | [] => 0
  | x :: r => uptoBulkEntry x + uptoBulkEntries r
def uptoBulkEntry {H : Type} : Lit × DataW H → Nat
  | (.string bytes, d) => bytes.length + uptoBulk d + 1
  | (_, d) => uptoBulk d + 1
 end
def uptoSmall : (H : Type) → List (DataW H) → Bool := fun _ ds => decide (uptoBulkAll ds ≤ 1048576)
def OpenSpec.upto (s : _root_.Go.ChangeSpec) : _root_.Go.OpenSpec := { _root_.Go.OpenSpec.ofChange s with cond := some uptoSmall }

/-- 'placketlaw03.MixSteps', WHERE WHAT IT READS IS OF BULK AT MOST 1048576: true; the input reads as it did. -/
def mixStepsUptoRow : OpenClaim := { program := "ytlkfomgfcjjkeaa", sum := "0f34f4bf43f30d0114581a2f57d149688abc6db4a0d5b563593d30a310f5d2ac", func := "placket/placketlaw03.MixSteps", spec := "mixSteps", apart := false, narrowed := true }
def MixStepsUptoSaid : Prop := mixStepsUptoRow.holds Try.pinned (OpenSpec.upto mixStepsSpec)

/-- 'placketlaw03.MixPieces', WHERE WHAT IT READS IS OF BULK AT MOST 1048576: true; the input reads as it did. -/
def mixPiecesUptoRow : OpenClaim := { program := "ytlkfomgfcjjkeaa", sum := "0f34f4bf43f30d0114581a2f57d149688abc6db4a0d5b563593d30a310f5d2ac", func := "placket/placketlaw03.MixPieces", spec := "mixPieces", apart := false, narrowed := true }
def MixPiecesUptoSaid : Prop := mixPiecesUptoRow.holds Try.pinned (OpenSpec.upto mixPiecesSpec)

/-- 'placketlaw03.MixApart', WHERE WHAT IT READS IS OF BULK AT MOST 1048576: true; the input reads as it did. -/
def mixApartUptoRow : OpenClaim := { program := "ytlkfomgfcjjkeaa", sum := "0f34f4bf43f30d0114581a2f57d149688abc6db4a0d5b563593d30a310f5d2ac", func := "placket/placketlaw03.MixApart", spec := "mixApart", apart := false, narrowed := true }
def MixApartUptoSaid : Prop := mixApartUptoRow.holds Try.pinned (OpenSpec.upto mixApartSpec)

/-- 'placketlaw03.MixWhole', WHERE WHAT IT READS IS OF BULK AT MOST 1048576: true; the input reads as it did. -/
def mixWholeUptoRow : OpenClaim := { program := "ytlkfomgfcjjkeaa", sum := "0f34f4bf43f30d0114581a2f57d149688abc6db4a0d5b563593d30a310f5d2ac", func := "placket/placketlaw03.MixWhole", spec := "mixWhole", apart := false, narrowed := true }
def MixWholeUptoSaid : Prop := mixWholeUptoRow.holds Try.pinned (OpenSpec.upto mixWholeSpec)

/-- 'placketlaw03.MixWords', WHERE WHAT IT READS IS OF BULK AT MOST 1048576: true; the input reads as it did. -/
def mixWordsUptoRow : OpenClaim := { program := "ytlkfomgfcjjkeaa", sum := "0f34f4bf43f30d0114581a2f57d149688abc6db4a0d5b563593d30a310f5d2ac", func := "placket/placketlaw03.MixWords", spec := "mixWords", apart := false, narrowed := true }
def MixWordsUptoSaid : Prop := mixWordsUptoRow.holds Try.pinned (OpenSpec.upto mixWordsSpec)

/-- 'placketlaw03.MixTexts', WHERE WHAT IT READS IS OF BULK AT MOST 1048576: true; the input reads as it did. -/
def mixTextsUptoRow : OpenClaim := { program := "ytlkfomgfcjjkeaa", sum := "0f34f4bf43f30d0114581a2f57d149688abc6db4a0d5b563593d30a310f5d2ac", func := "placket/placketlaw03.MixTexts", spec := "mixTexts", apart := false, narrowed := true }
def MixTextsUptoSaid : Prop := mixTextsUptoRow.holds Try.pinned (OpenSpec.upto mixTextsSpec)

end Rows
end Go.Proofs.Ytlkfomgfcjjkeaa
