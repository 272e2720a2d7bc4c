/-
  No cell of these rows narrows 'for every input' (looked for: loops, veiled, ifaces, maps, wideKeys, modest, calm, conditions, laid).
  DERIVED. THE GIVEN ROWS OF THIS SEAT. 7 by the template 'for every input the law returns true; each argument reads behind the call as it read before'; 0 by the template 'total and deterministic' (their statements: YtdfgehjhecmojaaTotals.lean).
  GIVEN WITH THE SEED: the statements are not yours to turn. If you find one false, say at which input.
  Laid BY PROGRAM, IN A SANDBOX (cutbox-rows.mjs): the forced cells as the released guide's own fill.sh prints them over the translation 4fa73773cf5ca690… (all of the seat's roots in one cut). By AI agents, Wed Nov 11 2026. No macro, syntax, notation, axiom, sorry.
-/
import Derived.Test.YtdfgehjhecmojaaChecked
import GoSem.Claim
import GoSem.ClaimJoined
import GoSem.ClaimMapViews
import Derived.JoinedTies
import Derived.KernelRfl
namespace Go.Proofs.Ytdfgehjhecmojaa
/- THE CELL 'sum', in the pinned program and in every row, IS THE sha256 OF THE DUMP (.gsa) THAT YtdfgehjhecmojaaProg.lean LOADS. Nothing in Lean hashes anything: it is a label: what it is worth is what the hold of that sum in a sandbox is worth. -/
noncomputable def Try.pinned : Pinned := { name := "ytdfgehjhecmojaa", sum := "4fa73773cf5ca6900508d450bcb04e039799d99cb468a6a6bcc6cf0dd2d08fef", checked := Try.checked }
namespace Rows
def none {H : Type} : Left H := { results := [], args := [] }

/-- 'placketlaw05.ScalarChecks': WHATEVER THE INPUT: true; the input reads as it did. -/
def scalarChecksSpec : ChangeSpec := { name := "scalarChecks", fn := fun _ => fun
  | [d] => { results := [.lit (.bool true)], args := [d] }
  | _ => none }
def scalarChecksRow : OpenClaim := { program := "ytdfgehjhecmojaa", sum := "4fa73773cf5ca6900508d450bcb04e039799d99cb468a6a6bcc6cf0dd2d08fef", func := "placket/placketlaw05.ScalarChecks", spec := "scalarChecks", apart := false }
def ScalarChecksSaid : Prop := scalarChecksRow.holds Try.pinned (OpenSpec.ofChange scalarChecksSpec)

/-- ITS FALSE NEIGHBOUR: 'it returns false'. Refute it at one input. -/
def scalarChecksWrong : ChangeSpec := { name := "scalarChecks", fn := fun _ => fun
  | [d] => { results := [.lit (.bool false)], args := [d] }
  | _ => none }
def ScalarChecksWrongFalsely : Prop := scalarChecksRow.holds Try.pinned (OpenSpec.ofChange scalarChecksWrong)

/-- 'placketlaw05.ScalarReads': WHATEVER THE INPUT: true; the input reads as it did. -/
def scalarReadsSpec : ChangeSpec := { name := "scalarReads", fn := fun _ => fun
  | [d] => { results := [.lit (.bool true)], args := [d] }
  | _ => none }
def scalarReadsRow : OpenClaim := { program := "ytdfgehjhecmojaa", sum := "4fa73773cf5ca6900508d450bcb04e039799d99cb468a6a6bcc6cf0dd2d08fef", func := "placket/placketlaw05.ScalarReads", spec := "scalarReads", apart := false }
def ScalarReadsSaid : Prop := scalarReadsRow.holds Try.pinned (OpenSpec.ofChange scalarReadsSpec)

/-- ITS FALSE NEIGHBOUR: 'it returns false'. Refute it at one input. -/
def scalarReadsWrong : ChangeSpec := { name := "scalarReads", fn := fun _ => fun
  | [d] => { results := [.lit (.bool false)], args := [d] }
  | _ => none }
def ScalarReadsWrongFalsely : Prop := scalarReadsRow.holds Try.pinned (OpenSpec.ofChange scalarReadsWrong)

/-- 'placketlaw05.ScalarOrders': WHATEVER THE INPUT: true; the input reads as it did. -/
def scalarOrdersSpec : ChangeSpec := { name := "scalarOrders", fn := fun _ => fun
  | [d1, d2] => { results := [.lit (.bool true)], args := [d1, d2] }
  | _ => none }
def scalarOrdersRow : OpenClaim := { program := "ytdfgehjhecmojaa", sum := "4fa73773cf5ca6900508d450bcb04e039799d99cb468a6a6bcc6cf0dd2d08fef", func := "placket/placketlaw05.ScalarOrders", spec := "scalarOrders", apart := false }
def ScalarOrdersSaid : Prop := scalarOrdersRow.holds Try.pinned (OpenSpec.ofChange scalarOrdersSpec)

/-- ITS FALSE NEIGHBOUR: 'it returns false'. Refute it at one input. -/
def scalarOrdersWrong : ChangeSpec := { name := "scalarOrders", fn := fun _ => fun
  | [d1, d2] => { results := [.lit (.bool false)], args := [d1, d2] }
  | _ => none }
def ScalarOrdersWrongFalsely : Prop := scalarOrdersRow.holds Try.pinned (OpenSpec.ofChange scalarOrdersWrong)

/-- 'placketlaw05.ScalarTotal': WHATEVER THE INPUT: true; the input reads as it did. -/
def scalarTotalSpec : ChangeSpec := { name := "scalarTotal", fn := fun _ => fun
  | [d1, d2, d3] => { results := [.lit (.bool true)], args := [d1, d2, d3] }
  | _ => none }
def scalarTotalRow : OpenClaim := { program := "ytdfgehjhecmojaa", sum := "4fa73773cf5ca6900508d450bcb04e039799d99cb468a6a6bcc6cf0dd2d08fef", func := "placket/placketlaw05.ScalarTotal", spec := "scalarTotal", apart := false }
def ScalarTotalSaid : Prop := scalarTotalRow.holds Try.pinned (OpenSpec.ofChange scalarTotalSpec)

/-- ITS FALSE NEIGHBOUR: 'it returns false'. Refute it at one input. -/
def scalarTotalWrong : ChangeSpec := { name := "scalarTotal", fn := fun _ => fun
  | [d1, d2, d3] => { results := [.lit (.bool false)], args := [d1, d2, d3] }
  | _ => none }
def ScalarTotalWrongFalsely : Prop := scalarTotalRow.holds Try.pinned (OpenSpec.ofChange scalarTotalWrong)

/-- 'placketlaw05.ScalarBack': WHATEVER THE INPUT: true; the input reads as it did. -/
def scalarBackSpec : ChangeSpec := { name := "scalarBack", fn := fun _ => fun
  | [d1, d2, d3] => { results := [.lit (.bool true)], args := [d1, d2, d3] }
  | _ => none }
def scalarBackRow : OpenClaim := { program := "ytdfgehjhecmojaa", sum := "4fa73773cf5ca6900508d450bcb04e039799d99cb468a6a6bcc6cf0dd2d08fef", func := "placket/placketlaw05.ScalarBack", spec := "scalarBack", apart := false }
def ScalarBackSaid : Prop := scalarBackRow.holds Try.pinned (OpenSpec.ofChange scalarBackSpec)

/-- ITS FALSE NEIGHBOUR: 'it returns false'. Refute it at one input. -/
def scalarBackWrong : ChangeSpec := { name := "scalarBack", fn := fun _ => fun
  | [d1, d2, d3] => { results := [.lit (.bool false)], args := [d1, d2, d3] }
  | _ => none }
def ScalarBackWrongFalsely : Prop := scalarBackRow.holds Try.pinned (OpenSpec.ofChange scalarBackWrong)

/-- 'placketlaw05.ScalarKeys': WHATEVER THE INPUT: true; the input reads as it did. -/
def scalarKeysSpec : ChangeSpec := { name := "scalarKeys", fn := fun _ => fun
  | [d1, d2, d3, d4] => { results := [.lit (.bool true)], args := [d1, d2, d3, d4] }
  | _ => none }
def scalarKeysRow : OpenClaim := { program := "ytdfgehjhecmojaa", sum := "4fa73773cf5ca6900508d450bcb04e039799d99cb468a6a6bcc6cf0dd2d08fef", func := "placket/placketlaw05.ScalarKeys", spec := "scalarKeys", apart := false }
def ScalarKeysSaid : Prop := scalarKeysRow.holds Try.pinned (OpenSpec.ofChange scalarKeysSpec)

/-- ITS FALSE NEIGHBOUR: 'it returns false'. Refute it at one input. -/
def scalarKeysWrong : ChangeSpec := { name := "scalarKeys", fn := fun _ => fun
  | [d1, d2, d3, d4] => { results := [.lit (.bool false)], args := [d1, d2, d3, d4] }
  | _ => none }
def ScalarKeysWrongFalsely : Prop := scalarKeysRow.holds Try.pinned (OpenSpec.ofChange scalarKeysWrong)

/-- 'placketlaw05.ScalarSums': WHATEVER THE INPUT: true; the input reads as it did. -/
def scalarSumsSpec : ChangeSpec := { name := "scalarSums", fn := fun _ => fun
  | [d1, d2, d3] => { results := [.lit (.bool true)], args := [d1, d2, d3] }
  | _ => none }
def scalarSumsRow : OpenClaim := { program := "ytdfgehjhecmojaa", sum := "4fa73773cf5ca6900508d450bcb04e039799d99cb468a6a6bcc6cf0dd2d08fef", func := "placket/placketlaw05.ScalarSums", spec := "scalarSums", apart := false }
def ScalarSumsSaid : Prop := scalarSumsRow.holds Try.pinned (OpenSpec.ofChange scalarSumsSpec)

/-- ITS FALSE NEIGHBOUR: 'it returns false'. Refute it at one input. -/
def scalarSumsWrong : ChangeSpec := { name := "scalarSums", fn := fun _ => fun
  | [d1, d2, d3] => { results := [.lit (.bool false)], args := [d1, d2, d3] }
  | _ => none }
def ScalarSumsWrongFalsely : Prop := scalarSumsRow.holds Try.pinned (OpenSpec.ofChange scalarSumsWrong)

/- THE SECOND FORM. 'bulk': how many values and letters a reading holds, each counted each time it is reached (what is shared counts as often as it is met; a slice's spare places count too). A statement '..UptoSaid' is the law's where the arguments, and the package variables that the reading takes, are together of bulk at most 1048576: NARROWER than '..Said'. Prove '..Said' where nothing that the law and all that it calls make is longer than what came in: it says more and counts as full. Else prove '..UptoSaid'. A law counts once. -/
mutual
def uptoBulk {H : Type} : DataW H → Nat
  | .lit (.string bytes) => bytes.length + 1
  | .lit _ => 1
  | .nil => 1
  | .ptr d => uptoBulk d + 1
  | .slice elems spare => uptoBulkAll elems + uptoBulkAll spare + 1
  | .agg parts => uptoBulkAll parts + 1
  | .iface _ d => uptoBulk d + 1
  | .map entries => uptoBulkEntries entries + 1
  | .held _ => 1
def uptoBulkAll {H : Type} : List (DataW H) → Nat
  | [] => 0
  | d :: r => uptoBulk d + uptoBulkAll r
def uptoBulkEntries {H : Type} : List (Lit × DataW H) → Nat
  | [] => 0
  | x :: r => uptoBulkEntry x + uptoBulkEntries r
def uptoBulkEntry {H : Type} : Lit × DataW H → Nat
  | (.string bytes, d) => bytes.length + uptoBulk d + 1
  | (_, d) => uptoBulk d + 1
 end
def uptoSmall : (H : Type) → List (DataW H) → Bool := fun _ ds => decide (uptoBulkAll ds ≤ 1048576)
def OpenSpec.upto (s : _root_.Go.ChangeSpec) : _root_.Go.OpenSpec := { _root_.Go.OpenSpec.ofChange s with cond := some uptoSmall }

/-- 'placketlaw05.ScalarChecks', WHERE WHAT IT READS IS OF BULK AT MOST 1048576: true; the input reads as it did. -/
def scalarChecksUptoRow : OpenClaim := { program := "ytdfgehjhecmojaa", sum := "4fa73773cf5ca6900508d450bcb04e039799d99cb468a6a6bcc6cf0dd2d08fef", func := "placket/placketlaw05.ScalarChecks", spec := "scalarChecks", apart := false, narrowed := true }
def ScalarChecksUptoSaid : Prop := scalarChecksUptoRow.holds Try.pinned (OpenSpec.upto scalarChecksSpec)

/-- 'placketlaw05.ScalarReads', WHERE WHAT IT READS IS OF BULK AT MOST 1048576: true; the input reads as it did. -/
def scalarReadsUptoRow : OpenClaim := { program := "ytdfgehjhecmojaa", sum := "4fa73773cf5ca6900508d450bcb04e039799d99cb468a6a6bcc6cf0dd2d08fef", func := "placket/placketlaw05.ScalarReads", spec := "scalarReads", apart := false, narrowed := true }
def ScalarReadsUptoSaid : Prop := scalarReadsUptoRow.holds Try.pinned (OpenSpec.upto scalarReadsSpec)

/-- 'placketlaw05.ScalarOrders', WHERE WHAT IT READS IS OF BULK AT MOST 1048576: true; the input reads as it did. -/
def scalarOrdersUptoRow : OpenClaim := { program := "ytdfgehjhecmojaa", sum := "4fa73773cf5ca6900508d450bcb04e039799d99cb468a6a6bcc6cf0dd2d08fef", func := "placket/placketlaw05.ScalarOrders", spec := "scalarOrders", apart := false, narrowed := true }
def ScalarOrdersUptoSaid : Prop := scalarOrdersUptoRow.holds Try.pinned (OpenSpec.upto scalarOrdersSpec)

/-- 'placketlaw05.ScalarTotal', WHERE WHAT IT READS IS OF BULK AT MOST 1048576: true; the input reads as it did. -/
def scalarTotalUptoRow : OpenClaim := { program := "ytdfgehjhecmojaa", sum := "4fa73773cf5ca6900508d450bcb04e039799d99cb468a6a6bcc6cf0dd2d08fef", func := "placket/placketlaw05.ScalarTotal", spec := "scalarTotal", apart := false, narrowed := true }
def ScalarTotalUptoSaid : Prop := scalarTotalUptoRow.holds Try.pinned (OpenSpec.upto scalarTotalSpec)

/-- 'placketlaw05.ScalarBack', WHERE WHAT IT READS IS OF BULK AT MOST 1048576: true; the input reads as it did. -/
def scalarBackUptoRow : OpenClaim := { program := "ytdfgehjhecmojaa", sum := "4fa73773cf5ca6900508d450bcb04e039799d99cb468a6a6bcc6cf0dd2d08fef", func := "placket/placketlaw05.ScalarBack", spec := "scalarBack", apart := false, narrowed := true }
def ScalarBackUptoSaid : Prop := scalarBackUptoRow.holds Try.pinned (OpenSpec.upto scalarBackSpec)

/-- 'placketlaw05.ScalarKeys', WHERE WHAT IT READS IS OF BULK AT MOST 1048576: true; the input reads as it did. -/
def scalarKeysUptoRow : OpenClaim := { program := "ytdfgehjhecmojaa", sum := "4fa73773cf5ca6900508d450bcb04e039799d99cb468a6a6bcc6cf0dd2d08fef", func := "placket/placketlaw05.ScalarKeys", spec := "scalarKeys", apart := false, narrowed := true }
def ScalarKeysUptoSaid : Prop := scalarKeysUptoRow.holds Try.pinned (OpenSpec.upto scalarKeysSpec)

/-- 'placketlaw05.ScalarSums', WHERE WHAT IT READS IS OF BULK AT MOST 1048576: true; the input reads as it did. -/
def scalarSumsUptoRow : OpenClaim := { program := "ytdfgehjhecmojaa", sum := "4fa73773cf5ca6900508d450bcb04e039799d99cb468a6a6bcc6cf0dd2d08fef", func := "placket/placketlaw05.ScalarSums", spec := "scalarSums", apart := false, narrowed := true }
def ScalarSumsUptoSaid : Prop := scalarSumsUptoRow.holds Try.pinned (OpenSpec.upto scalarSumsSpec)

end Rows
end Go.Proofs.Ytdfgehjhecmojaa
