/-
  NARROWER THAN 'FOR EVERY INPUT', by the rows' own cells (each row's printed sentence says how): HamtShapes: laid · HamtBranches: laid · HamtOneShape: laid · HamtApart: laid · HamtDoes: laid · HamtWalks: laid · DictEnds: laid · DictAsks: laid · DictSteps: laid · DictChanges: laid · DictApplies: laid · DictParts: laid · DictJoins: laid · DictBack: laid.
  DERIVED. THE GIVEN ROWS OF THIS SEAT. 14 by the template 'for every input the law returns true; each argument reads behind the call as it read before'; 0 by the template 'total and deterministic' (their statements: YtnegblckbomgdaaDoorTotals.lean).
  GIVEN WITH THE SEED: the statements are not yours to turn. If you find one false, say at which input.
  Laid BY PROGRAM, IN A SANDBOX (cutbox-rows.mjs): the forced cells as the released guide's own fill.sh prints them over the translation 618d09a150611827… (all of the seat's roots in one cut). By AI agents, Wed Nov 11 2026. No macro, syntax, notation, axiom, sorry.
-/
import Derived.Test.YtnegblckbomgdaaDoorChecked
import GoSem.Claim
import GoSem.ClaimJoined
import GoSem.ClaimMapViews
import Derived.JoinedTies
import Derived.KernelRfl
namespace Go.Proofs.YtnegblckbomgdaaDoor
/- THE CELL 'sum', in the pinned program and in every row, IS THE sha256 OF THE DUMP (.gsa) THAT YtnegblckbomgdaaDoorProg.lean LOADS. Nothing in Lean hashes anything: it is a label: what it is worth is what the hold of that sum in a sandbox is worth. -/
noncomputable def Tryd.pinned : Pinned := { name := "ytnegblckbomgdaadoor", sum := "618d09a150611827435191aa672ebc205e7e0696e53712bc48817bbb44eb3e18", checked := Tryd.checked }
namespace Rows
def none {H : Type} : Left H := { results := [], args := [] }

/- WHAT THE LISTED PACKAGE-LEVEL VARIABLES READ AS WHEN THE CALL BEGINS. Each datum BY PROGRAM (the guide's laid-datum.mjs) off the statement by which the dump's own 'gosem.cut.vars' lays the variable. In a bare row this is a premise. The card (YtnegblckbomgdaaDoorCards.lean) ties it to the program's text. -/
def laid_math_bits_deBruijn32tab {H : Type} : DataW H := .agg [.lit (.int .u8 0), .lit (.int .u8 1), .lit (.int .u8 28), .lit (.int .u8 2), .lit (.int .u8 29), .lit (.int .u8 14), .lit (.int .u8 24), .lit (.int .u8 3), .lit (.int .u8 30), .lit (.int .u8 22), .lit (.int .u8 20), .lit (.int .u8 15), .lit (.int .u8 25), .lit (.int .u8 17), .lit (.int .u8 4), .lit (.int .u8 8), .lit (.int .u8 31), .lit (.int .u8 27), .lit (.int .u8 13), .lit (.int .u8 23), .lit (.int .u8 21), .lit (.int .u8 19), .lit (.int .u8 16), .lit (.int .u8 7), .lit (.int .u8 26), .lit (.int .u8 12), .lit (.int .u8 18), .lit (.int .u8 6), .lit (.int .u8 11), .lit (.int .u8 5), .lit (.int .u8 10), .lit (.int .u8 9)]

/-- 'placketlaw09.HamtShapes': WHATEVER THE INPUT: true; the input reads as it did. -/
def hamtShapesSpec : ChangeSpec := { name := "hamtShapes", fn := fun _ => fun
  | [d1, d2] => { results := [.lit (.bool true)], args := [d1, d2] }
  | _ => none }
def hamtShapesRow : OpenClaim := { program := "ytnegblckbomgdaadoor", sum := "618d09a150611827435191aa672ebc205e7e0696e53712bc48817bbb44eb3e18", func := "placket/placketlaw09.HamtShapes", spec := "hamtShapes", inPlace := ["slices.overlaps[placket/hamt.pair[int]]"], unfollowed := true, recurses := true, named := ["math/bits.deBruijn32tab"], apart := false, laid := [("math/bits.deBruijn32tab", laid_math_bits_deBruijn32tab)] }
def HamtShapesSaid : Prop := hamtShapesRow.holds Tryd.pinned (OpenSpec.ofChange hamtShapesSpec)

/-- ITS FALSE NEIGHBOUR: 'it returns false'. Refute it at one input. -/
def hamtShapesWrong : ChangeSpec := { name := "hamtShapes", fn := fun _ => fun
  | [d1, d2] => { results := [.lit (.bool false)], args := [d1, d2] }
  | _ => none }
def HamtShapesWrongFalsely : Prop := hamtShapesRow.holds Tryd.pinned (OpenSpec.ofChange hamtShapesWrong)

/-- 'placketlaw09.HamtBranches': WHATEVER THE INPUT: true; the input reads as it did. -/
def hamtBranchesSpec : ChangeSpec := { name := "hamtBranches", fn := fun _ => fun
  | [d1, d2, d3, d4] => { results := [.lit (.bool true)], args := [d1, d2, d3, d4] }
  | _ => none }
def hamtBranchesRow : OpenClaim := { program := "ytnegblckbomgdaadoor", sum := "618d09a150611827435191aa672ebc205e7e0696e53712bc48817bbb44eb3e18", func := "placket/placketlaw09.HamtBranches", spec := "hamtBranches", inPlace := ["slices.overlaps[placket/hamt.pair[int]]"], unfollowed := true, recurses := true, named := ["math/bits.deBruijn32tab"], apart := false, laid := [("math/bits.deBruijn32tab", laid_math_bits_deBruijn32tab)] }
def HamtBranchesSaid : Prop := hamtBranchesRow.holds Tryd.pinned (OpenSpec.ofChange hamtBranchesSpec)

/-- ITS FALSE NEIGHBOUR: 'it returns false'. Refute it at one input. -/
def hamtBranchesWrong : ChangeSpec := { name := "hamtBranches", fn := fun _ => fun
  | [d1, d2, d3, d4] => { results := [.lit (.bool false)], args := [d1, d2, d3, d4] }
  | _ => none }
def HamtBranchesWrongFalsely : Prop := hamtBranchesRow.holds Tryd.pinned (OpenSpec.ofChange hamtBranchesWrong)

/-- 'placketlaw09.HamtOneShape': WHATEVER THE INPUT: true; the input reads as it did. -/
def hamtOneShapeSpec : ChangeSpec := { name := "hamtOneShape", fn := fun _ => fun
  | [d1, d2, d3] => { results := [.lit (.bool true)], args := [d1, d2, d3] }
  | _ => none }
def hamtOneShapeRow : OpenClaim := { program := "ytnegblckbomgdaadoor", sum := "618d09a150611827435191aa672ebc205e7e0696e53712bc48817bbb44eb3e18", func := "placket/placketlaw09.HamtOneShape", spec := "hamtOneShape", inPlace := ["slices.overlaps[placket/hamt.pair[int]]"], unfollowed := true, recurses := true, named := ["math/bits.deBruijn32tab"], apart := false, laid := [("math/bits.deBruijn32tab", laid_math_bits_deBruijn32tab)] }
def HamtOneShapeSaid : Prop := hamtOneShapeRow.holds Tryd.pinned (OpenSpec.ofChange hamtOneShapeSpec)

/-- ITS FALSE NEIGHBOUR: 'it returns false'. Refute it at one input. -/
def hamtOneShapeWrong : ChangeSpec := { name := "hamtOneShape", fn := fun _ => fun
  | [d1, d2, d3] => { results := [.lit (.bool false)], args := [d1, d2, d3] }
  | _ => none }
def HamtOneShapeWrongFalsely : Prop := hamtOneShapeRow.holds Tryd.pinned (OpenSpec.ofChange hamtOneShapeWrong)

/-- 'placketlaw09.HamtApart': WHATEVER THE INPUT: true; the input reads as it did. -/
def hamtApartSpec : ChangeSpec := { name := "hamtApart", fn := fun _ => fun
  | [d1, d2, d3, d4, d5] => { results := [.lit (.bool true)], args := [d1, d2, d3, d4, d5] }
  | _ => none }
def hamtApartRow : OpenClaim := { program := "ytnegblckbomgdaadoor", sum := "618d09a150611827435191aa672ebc205e7e0696e53712bc48817bbb44eb3e18", func := "placket/placketlaw09.HamtApart", spec := "hamtApart", inPlace := ["slices.overlaps[placket/hamt.pair[int]]"], unfollowed := true, recurses := true, named := ["math/bits.deBruijn32tab"], apart := false, laid := [("math/bits.deBruijn32tab", laid_math_bits_deBruijn32tab)] }
def HamtApartSaid : Prop := hamtApartRow.holds Tryd.pinned (OpenSpec.ofChange hamtApartSpec)

/-- ITS FALSE NEIGHBOUR: 'it returns false'. Refute it at one input. -/
def hamtApartWrong : ChangeSpec := { name := "hamtApart", fn := fun _ => fun
  | [d1, d2, d3, d4, d5] => { results := [.lit (.bool false)], args := [d1, d2, d3, d4, d5] }
  | _ => none }
def HamtApartWrongFalsely : Prop := hamtApartRow.holds Tryd.pinned (OpenSpec.ofChange hamtApartWrong)

/-- 'placketlaw09.HamtDoes': WHATEVER THE INPUT: true; the input reads as it did. -/
def hamtDoesSpec : ChangeSpec := { name := "hamtDoes", fn := fun _ => fun
  | [d1, d2, d3] => { results := [.lit (.bool true)], args := [d1, d2, d3] }
  | _ => none }
def hamtDoesRow : OpenClaim := { program := "ytnegblckbomgdaadoor", sum := "618d09a150611827435191aa672ebc205e7e0696e53712bc48817bbb44eb3e18", func := "placket/placketlaw09.HamtDoes", spec := "hamtDoes", inPlace := ["slices.overlaps[placket/hamt.pair[int]]"], unfollowed := true, recurses := true, named := ["math/bits.deBruijn32tab"], apart := false, laid := [("math/bits.deBruijn32tab", laid_math_bits_deBruijn32tab)] }
def HamtDoesSaid : Prop := hamtDoesRow.holds Tryd.pinned (OpenSpec.ofChange hamtDoesSpec)

/-- ITS FALSE NEIGHBOUR: 'it returns false'. Refute it at one input. -/
def hamtDoesWrong : ChangeSpec := { name := "hamtDoes", fn := fun _ => fun
  | [d1, d2, d3] => { results := [.lit (.bool false)], args := [d1, d2, d3] }
  | _ => none }
def HamtDoesWrongFalsely : Prop := hamtDoesRow.holds Tryd.pinned (OpenSpec.ofChange hamtDoesWrong)

/-- 'placketlaw09.HamtWalks': WHATEVER THE INPUT: true; the input reads as it did. -/
def hamtWalksSpec : ChangeSpec := { name := "hamtWalks", fn := fun _ => fun
  | [d1, d2, d3] => { results := [.lit (.bool true)], args := [d1, d2, d3] }
  | _ => none }
def hamtWalksRow : OpenClaim := { program := "ytnegblckbomgdaadoor", sum := "618d09a150611827435191aa672ebc205e7e0696e53712bc48817bbb44eb3e18", func := "placket/placketlaw09.HamtWalks", spec := "hamtWalks", inPlace := ["slices.overlaps[placket/hamt.pair[int]]"], unfollowed := true, recurses := true, named := ["math/bits.deBruijn32tab"], apart := false, laid := [("math/bits.deBruijn32tab", laid_math_bits_deBruijn32tab)] }
def HamtWalksSaid : Prop := hamtWalksRow.holds Tryd.pinned (OpenSpec.ofChange hamtWalksSpec)

/-- ITS FALSE NEIGHBOUR: 'it returns false'. Refute it at one input. -/
def hamtWalksWrong : ChangeSpec := { name := "hamtWalks", fn := fun _ => fun
  | [d1, d2, d3] => { results := [.lit (.bool false)], args := [d1, d2, d3] }
  | _ => none }
def HamtWalksWrongFalsely : Prop := hamtWalksRow.holds Tryd.pinned (OpenSpec.ofChange hamtWalksWrong)

/-- 'placketlaw10.DictEnds': WHATEVER THE INPUT: true; the input reads as it did. -/
def dictEndsSpec : ChangeSpec := { name := "dictEnds", fn := fun _ => fun
  | [d1, d2] => { results := [.lit (.bool true)], args := [d1, d2] }
  | _ => none }
def dictEndsRow : OpenClaim := { program := "ytnegblckbomgdaadoor", sum := "618d09a150611827435191aa672ebc205e7e0696e53712bc48817bbb44eb3e18", func := "placket/placketlaw10.DictEnds", spec := "dictEnds", inPlace := ["slices.overlaps[placket/hamt.pair[int]]"], unfollowed := true, recurses := true, named := ["math/bits.deBruijn32tab"], apart := false, laid := [("math/bits.deBruijn32tab", laid_math_bits_deBruijn32tab)] }
def DictEndsSaid : Prop := dictEndsRow.holds Tryd.pinned (OpenSpec.ofChange dictEndsSpec)

/-- ITS FALSE NEIGHBOUR: 'it returns false'. Refute it at one input. -/
def dictEndsWrong : ChangeSpec := { name := "dictEnds", fn := fun _ => fun
  | [d1, d2] => { results := [.lit (.bool false)], args := [d1, d2] }
  | _ => none }
def DictEndsWrongFalsely : Prop := dictEndsRow.holds Tryd.pinned (OpenSpec.ofChange dictEndsWrong)

/-- 'placketlaw10.DictAsks': WHATEVER THE INPUT: true; the input reads as it did. -/
def dictAsksSpec : ChangeSpec := { name := "dictAsks", fn := fun _ => fun
  | [d1, d2, d3, d4] => { results := [.lit (.bool true)], args := [d1, d2, d3, d4] }
  | _ => none }
def dictAsksRow : OpenClaim := { program := "ytnegblckbomgdaadoor", sum := "618d09a150611827435191aa672ebc205e7e0696e53712bc48817bbb44eb3e18", func := "placket/placketlaw10.DictAsks", spec := "dictAsks", inPlace := ["slices.overlaps[placket/hamt.pair[int]]"], unfollowed := true, recurses := true, named := ["math/bits.deBruijn32tab"], apart := false, laid := [("math/bits.deBruijn32tab", laid_math_bits_deBruijn32tab)] }
def DictAsksSaid : Prop := dictAsksRow.holds Tryd.pinned (OpenSpec.ofChange dictAsksSpec)

/-- ITS FALSE NEIGHBOUR: 'it returns false'. Refute it at one input. -/
def dictAsksWrong : ChangeSpec := { name := "dictAsks", fn := fun _ => fun
  | [d1, d2, d3, d4] => { results := [.lit (.bool false)], args := [d1, d2, d3, d4] }
  | _ => none }
def DictAsksWrongFalsely : Prop := dictAsksRow.holds Tryd.pinned (OpenSpec.ofChange dictAsksWrong)

/-- 'placketlaw10.DictSteps': WHATEVER THE INPUT: true; the input reads as it did. -/
def dictStepsSpec : ChangeSpec := { name := "dictSteps", fn := fun _ => fun
  | [d1, d2] => { results := [.lit (.bool true)], args := [d1, d2] }
  | _ => none }
def dictStepsRow : OpenClaim := { program := "ytnegblckbomgdaadoor", sum := "618d09a150611827435191aa672ebc205e7e0696e53712bc48817bbb44eb3e18", func := "placket/placketlaw10.DictSteps", spec := "dictSteps", inPlace := ["slices.overlaps[placket/hamt.pair[int]]"], unfollowed := true, recurses := true, named := ["math/bits.deBruijn32tab"], apart := false, laid := [("math/bits.deBruijn32tab", laid_math_bits_deBruijn32tab)] }
def DictStepsSaid : Prop := dictStepsRow.holds Tryd.pinned (OpenSpec.ofChange dictStepsSpec)

/-- ITS FALSE NEIGHBOUR: 'it returns false'. Refute it at one input. -/
def dictStepsWrong : ChangeSpec := { name := "dictSteps", fn := fun _ => fun
  | [d1, d2] => { results := [.lit (.bool false)], args := [d1, d2] }
  | _ => none }
def DictStepsWrongFalsely : Prop := dictStepsRow.holds Tryd.pinned (OpenSpec.ofChange dictStepsWrong)

/-- 'placketlaw10.DictChanges': WHATEVER THE INPUT: true; the input reads as it did. -/
def dictChangesSpec : ChangeSpec := { name := "dictChanges", fn := fun _ => fun
  | [d1, d2, d3, d4, d5] => { results := [.lit (.bool true)], args := [d1, d2, d3, d4, d5] }
  | _ => none }
def dictChangesRow : OpenClaim := { program := "ytnegblckbomgdaadoor", sum := "618d09a150611827435191aa672ebc205e7e0696e53712bc48817bbb44eb3e18", func := "placket/placketlaw10.DictChanges", spec := "dictChanges", inPlace := ["slices.overlaps[placket/hamt.pair[int]]"], unfollowed := true, recurses := true, named := ["math/bits.deBruijn32tab"], apart := false, laid := [("math/bits.deBruijn32tab", laid_math_bits_deBruijn32tab)] }
def DictChangesSaid : Prop := dictChangesRow.holds Tryd.pinned (OpenSpec.ofChange dictChangesSpec)

/-- ITS FALSE NEIGHBOUR: 'it returns false'. Refute it at one input. -/
def dictChangesWrong : ChangeSpec := { name := "dictChanges", fn := fun _ => fun
  | [d1, d2, d3, d4, d5] => { results := [.lit (.bool false)], args := [d1, d2, d3, d4, d5] }
  | _ => none }
def DictChangesWrongFalsely : Prop := dictChangesRow.holds Tryd.pinned (OpenSpec.ofChange dictChangesWrong)

/-- 'placketlaw10.DictApplies': WHATEVER THE INPUT: true; the input reads as it did. -/
def dictAppliesSpec : ChangeSpec := { name := "dictApplies", fn := fun _ => fun
  | [d1, d2, d3] => { results := [.lit (.bool true)], args := [d1, d2, d3] }
  | _ => none }
def dictAppliesRow : OpenClaim := { program := "ytnegblckbomgdaadoor", sum := "618d09a150611827435191aa672ebc205e7e0696e53712bc48817bbb44eb3e18", func := "placket/placketlaw10.DictApplies", spec := "dictApplies", inPlace := ["slices.overlaps[placket/hamt.pair[int]]"], unfollowed := true, recurses := true, named := ["math/bits.deBruijn32tab"], apart := false, laid := [("math/bits.deBruijn32tab", laid_math_bits_deBruijn32tab)] }
def DictAppliesSaid : Prop := dictAppliesRow.holds Tryd.pinned (OpenSpec.ofChange dictAppliesSpec)

/-- ITS FALSE NEIGHBOUR: 'it returns false'. Refute it at one input. -/
def dictAppliesWrong : ChangeSpec := { name := "dictApplies", fn := fun _ => fun
  | [d1, d2, d3] => { results := [.lit (.bool false)], args := [d1, d2, d3] }
  | _ => none }
def DictAppliesWrongFalsely : Prop := dictAppliesRow.holds Tryd.pinned (OpenSpec.ofChange dictAppliesWrong)

/-- 'placketlaw10.DictParts': WHATEVER THE INPUT: true; the input reads as it did. -/
def dictPartsSpec : ChangeSpec := { name := "dictParts", fn := fun _ => fun
  | [d1, d2, d3, d4] => { results := [.lit (.bool true)], args := [d1, d2, d3, d4] }
  | _ => none }
def dictPartsRow : OpenClaim := { program := "ytnegblckbomgdaadoor", sum := "618d09a150611827435191aa672ebc205e7e0696e53712bc48817bbb44eb3e18", func := "placket/placketlaw10.DictParts", spec := "dictParts", inPlace := ["slices.overlaps[placket/hamt.pair[int]]"], unfollowed := true, recurses := true, named := ["math/bits.deBruijn32tab"], apart := false, laid := [("math/bits.deBruijn32tab", laid_math_bits_deBruijn32tab)] }
def DictPartsSaid : Prop := dictPartsRow.holds Tryd.pinned (OpenSpec.ofChange dictPartsSpec)

/-- ITS FALSE NEIGHBOUR: 'it returns false'. Refute it at one input. -/
def dictPartsWrong : ChangeSpec := { name := "dictParts", fn := fun _ => fun
  | [d1, d2, d3, d4] => { results := [.lit (.bool false)], args := [d1, d2, d3, d4] }
  | _ => none }
def DictPartsWrongFalsely : Prop := dictPartsRow.holds Tryd.pinned (OpenSpec.ofChange dictPartsWrong)

/-- 'placketlaw10.DictJoins': WHATEVER THE INPUT: true; the input reads as it did. -/
def dictJoinsSpec : ChangeSpec := { name := "dictJoins", fn := fun _ => fun
  | [d1, d2, d3, d4, d5, d6] => { results := [.lit (.bool true)], args := [d1, d2, d3, d4, d5, d6] }
  | _ => none }
def dictJoinsRow : OpenClaim := { program := "ytnegblckbomgdaadoor", sum := "618d09a150611827435191aa672ebc205e7e0696e53712bc48817bbb44eb3e18", func := "placket/placketlaw10.DictJoins", spec := "dictJoins", inPlace := ["slices.overlaps[placket/hamt.pair[int]]"], unfollowed := true, recurses := true, named := ["math/bits.deBruijn32tab"], apart := false, laid := [("math/bits.deBruijn32tab", laid_math_bits_deBruijn32tab)] }
def DictJoinsSaid : Prop := dictJoinsRow.holds Tryd.pinned (OpenSpec.ofChange dictJoinsSpec)

/-- ITS FALSE NEIGHBOUR: 'it returns false'. Refute it at one input. -/
def dictJoinsWrong : ChangeSpec := { name := "dictJoins", fn := fun _ => fun
  | [d1, d2, d3, d4, d5, d6] => { results := [.lit (.bool false)], args := [d1, d2, d3, d4, d5, d6] }
  | _ => none }
def DictJoinsWrongFalsely : Prop := dictJoinsRow.holds Tryd.pinned (OpenSpec.ofChange dictJoinsWrong)

/-- 'placketlaw10.DictBack': WHATEVER THE INPUT: true; the input reads as it did. -/
def dictBackSpec : ChangeSpec := { name := "dictBack", fn := fun _ => fun
  | [d1, d2, d3, d4, d5] => { results := [.lit (.bool true)], args := [d1, d2, d3, d4, d5] }
  | _ => none }
def dictBackRow : OpenClaim := { program := "ytnegblckbomgdaadoor", sum := "618d09a150611827435191aa672ebc205e7e0696e53712bc48817bbb44eb3e18", func := "placket/placketlaw10.DictBack", spec := "dictBack", inPlace := ["slices.overlaps[placket/hamt.pair[int]]"], unfollowed := true, recurses := true, named := ["math/bits.deBruijn32tab"], apart := false, laid := [("math/bits.deBruijn32tab", laid_math_bits_deBruijn32tab)] }
def DictBackSaid : Prop := dictBackRow.holds Tryd.pinned (OpenSpec.ofChange dictBackSpec)

/-- ITS FALSE NEIGHBOUR: 'it returns false'. Refute it at one input. -/
def dictBackWrong : ChangeSpec := { name := "dictBack", fn := fun _ => fun
  | [d1, d2, d3, d4, d5] => { results := [.lit (.bool false)], args := [d1, d2, d3, d4, d5] }
  | _ => none }
def DictBackWrongFalsely : Prop := dictBackRow.holds Tryd.pinned (OpenSpec.ofChange dictBackWrong)

/- THE SECOND FORM. 'bulk': how many values and letters a reading holds, each counted each time it is reached (what is shared counts as often as it is met; a slice's spare places count too). A statement '..UptoSaid' is the law's where the arguments, and the package variables that the reading takes, are together of bulk at most 1048576: NARROWER than '..Said'. Prove '..Said' where nothing that the law and all that it calls make is longer than what came in: it says more and counts as full. Else prove '..UptoSaid'. A law counts once. -/
mutual
def uptoBulk {H : Type} : DataW H → Nat
  | .lit (.string bytes) => bytes.length + 1
  | .lit _ => 1
  | .nil => 1
  | .ptr d => uptoBulk d + 1
  | .slice elems spare => uptoBulkAll elems + uptoBulkAll spare + 1
  | .agg parts => uptoBulkAll parts + 1
  | .iface _ d => uptoBulk d + 1
  | .map entries => uptoBulkEntries entries + 1
  | .held _ => 1
def uptoBulkAll {H : Type} : List (DataW H) → Nat
  | [] => 0
  | d :: r => uptoBulk d + uptoBulkAll r
def uptoBulkEntries {H : Type} : List (Lit × DataW H) → Nat
  | [] => 0
  | x :: r => uptoBulkEntry x + uptoBulkEntries r
def uptoBulkEntry {H : Type} : Lit × DataW H → Nat
  | (.string bytes, d) => bytes.length + uptoBulk d + 1
  | (_, d) => uptoBulk d + 1
 end
def uptoSmall : (H : Type) → List (DataW H) → Bool := fun _ ds => decide (uptoBulkAll ds ≤ 1048576)
def OpenSpec.upto (s : _root_.Go.ChangeSpec) : _root_.Go.OpenSpec := { _root_.Go.OpenSpec.ofChange s with cond := some uptoSmall }

/-- 'placketlaw09.HamtShapes', WHERE WHAT IT READS IS OF BULK AT MOST 1048576: true; the input reads as it did. -/
def hamtShapesUptoRow : OpenClaim := { program := "ytnegblckbomgdaadoor", sum := "618d09a150611827435191aa672ebc205e7e0696e53712bc48817bbb44eb3e18", func := "placket/placketlaw09.HamtShapes", spec := "hamtShapes", inPlace := ["slices.overlaps[placket/hamt.pair[int]]"], unfollowed := true, recurses := true, named := ["math/bits.deBruijn32tab"], apart := false, laid := [("math/bits.deBruijn32tab", laid_math_bits_deBruijn32tab)], narrowed := true }
def HamtShapesUptoSaid : Prop := hamtShapesUptoRow.holds Tryd.pinned (OpenSpec.upto hamtShapesSpec)

/-- 'placketlaw09.HamtBranches', WHERE WHAT IT READS IS OF BULK AT MOST 1048576: true; the input reads as it did. -/
def hamtBranchesUptoRow : OpenClaim := { program := "ytnegblckbomgdaadoor", sum := "618d09a150611827435191aa672ebc205e7e0696e53712bc48817bbb44eb3e18", func := "placket/placketlaw09.HamtBranches", spec := "hamtBranches", inPlace := ["slices.overlaps[placket/hamt.pair[int]]"], unfollowed := true, recurses := true, named := ["math/bits.deBruijn32tab"], apart := false, laid := [("math/bits.deBruijn32tab", laid_math_bits_deBruijn32tab)], narrowed := true }
def HamtBranchesUptoSaid : Prop := hamtBranchesUptoRow.holds Tryd.pinned (OpenSpec.upto hamtBranchesSpec)

/-- 'placketlaw09.HamtOneShape', WHERE WHAT IT READS IS OF BULK AT MOST 1048576: true; the input reads as it did. -/
def hamtOneShapeUptoRow : OpenClaim := { program := "ytnegblckbomgdaadoor", sum := "618d09a150611827435191aa672ebc205e7e0696e53712bc48817bbb44eb3e18", func := "placket/placketlaw09.HamtOneShape", spec := "hamtOneShape", inPlace := ["slices.overlaps[placket/hamt.pair[int]]"], unfollowed := true, recurses := true, named := ["math/bits.deBruijn32tab"], apart := false, laid := [("math/bits.deBruijn32tab", laid_math_bits_deBruijn32tab)], narrowed := true }
def HamtOneShapeUptoSaid : Prop := hamtOneShapeUptoRow.holds Tryd.pinned (OpenSpec.upto hamtOneShapeSpec)

/-- 'placketlaw09.HamtApart', WHERE WHAT IT READS IS OF BULK AT MOST 1048576: true; the input reads as it did. -/
def hamtApartUptoRow : OpenClaim := { program := "ytnegblckbomgdaadoor", sum := "618d09a150611827435191aa672ebc205e7e0696e53712bc48817bbb44eb3e18", func := "placket/placketlaw09.HamtApart", spec := "hamtApart", inPlace := ["slices.overlaps[placket/hamt.pair[int]]"], unfollowed := true, recurses := true, named := ["math/bits.deBruijn32tab"], apart := false, laid := [("math/bits.deBruijn32tab", laid_math_bits_deBruijn32tab)], narrowed := true }
def HamtApartUptoSaid : Prop := hamtApartUptoRow.holds Tryd.pinned (OpenSpec.upto hamtApartSpec)

/-- 'placketlaw09.HamtDoes', WHERE WHAT IT READS IS OF BULK AT MOST 1048576: true; the input reads as it did. -/
def hamtDoesUptoRow : OpenClaim := { program := "ytnegblckbomgdaadoor", sum := "618d09a150611827435191aa672ebc205e7e0696e53712bc48817bbb44eb3e18", func := "placket/placketlaw09.HamtDoes", spec := "hamtDoes", inPlace := ["slices.overlaps[placket/hamt.pair[int]]"], unfollowed := true, recurses := true, named := ["math/bits.deBruijn32tab"], apart := false, laid := [("math/bits.deBruijn32tab", laid_math_bits_deBruijn32tab)], narrowed := true }
def HamtDoesUptoSaid : Prop := hamtDoesUptoRow.holds Tryd.pinned (OpenSpec.upto hamtDoesSpec)

/-- 'placketlaw09.HamtWalks', WHERE WHAT IT READS IS OF BULK AT MOST 1048576: true; the input reads as it did. -/
def hamtWalksUptoRow : OpenClaim := { program := "ytnegblckbomgdaadoor", sum := "618d09a150611827435191aa672ebc205e7e0696e53712bc48817bbb44eb3e18", func := "placket/placketlaw09.HamtWalks", spec := "hamtWalks", inPlace := ["slices.overlaps[placket/hamt.pair[int]]"], unfollowed := true, recurses := true, named := ["math/bits.deBruijn32tab"], apart := false, laid := [("math/bits.deBruijn32tab", laid_math_bits_deBruijn32tab)], narrowed := true }
def HamtWalksUptoSaid : Prop := hamtWalksUptoRow.holds Tryd.pinned (OpenSpec.upto hamtWalksSpec)

/-- 'placketlaw10.DictEnds', WHERE WHAT IT READS IS OF BULK AT MOST 1048576: true; the input reads as it did. -/
def dictEndsUptoRow : OpenClaim := { program := "ytnegblckbomgdaadoor", sum := "618d09a150611827435191aa672ebc205e7e0696e53712bc48817bbb44eb3e18", func := "placket/placketlaw10.DictEnds", spec := "dictEnds", inPlace := ["slices.overlaps[placket/hamt.pair[int]]"], unfollowed := true, recurses := true, named := ["math/bits.deBruijn32tab"], apart := false, laid := [("math/bits.deBruijn32tab", laid_math_bits_deBruijn32tab)], narrowed := true }
def DictEndsUptoSaid : Prop := dictEndsUptoRow.holds Tryd.pinned (OpenSpec.upto dictEndsSpec)

/-- 'placketlaw10.DictAsks', WHERE WHAT IT READS IS OF BULK AT MOST 1048576: true; the input reads as it did. -/
def dictAsksUptoRow : OpenClaim := { program := "ytnegblckbomgdaadoor", sum := "618d09a150611827435191aa672ebc205e7e0696e53712bc48817bbb44eb3e18", func := "placket/placketlaw10.DictAsks", spec := "dictAsks", inPlace := ["slices.overlaps[placket/hamt.pair[int]]"], unfollowed := true, recurses := true, named := ["math/bits.deBruijn32tab"], apart := false, laid := [("math/bits.deBruijn32tab", laid_math_bits_deBruijn32tab)], narrowed := true }
def DictAsksUptoSaid : Prop := dictAsksUptoRow.holds Tryd.pinned (OpenSpec.upto dictAsksSpec)

/-- 'placketlaw10.DictSteps', WHERE WHAT IT READS IS OF BULK AT MOST 1048576: true; the input reads as it did. -/
def dictStepsUptoRow : OpenClaim := { program := "ytnegblckbomgdaadoor", sum := "618d09a150611827435191aa672ebc205e7e0696e53712bc48817bbb44eb3e18", func := "placket/placketlaw10.DictSteps", spec := "dictSteps", inPlace := ["slices.overlaps[placket/hamt.pair[int]]"], unfollowed := true, recurses := true, named := ["math/bits.deBruijn32tab"], apart := false, laid := [("math/bits.deBruijn32tab", laid_math_bits_deBruijn32tab)], narrowed := true }
def DictStepsUptoSaid : Prop := dictStepsUptoRow.holds Tryd.pinned (OpenSpec.upto dictStepsSpec)

/-- 'placketlaw10.DictChanges', WHERE WHAT IT READS IS OF BULK AT MOST 1048576: true; the input reads as it did. -/
def dictChangesUptoRow : OpenClaim := { program := "ytnegblckbomgdaadoor", sum := "618d09a150611827435191aa672ebc205e7e0696e53712bc48817bbb44eb3e18", func := "placket/placketlaw10.DictChanges", spec := "dictChanges", inPlace := ["slices.overlaps[placket/hamt.pair[int]]"], unfollowed := true, recurses := true, named := ["math/bits.deBruijn32tab"], apart := false, laid := [("math/bits.deBruijn32tab", laid_math_bits_deBruijn32tab)], narrowed := true }
def DictChangesUptoSaid : Prop := dictChangesUptoRow.holds Tryd.pinned (OpenSpec.upto dictChangesSpec)

/-- 'placketlaw10.DictApplies', WHERE WHAT IT READS IS OF BULK AT MOST 1048576: true; the input reads as it did. -/
def dictAppliesUptoRow : OpenClaim := { program := "ytnegblckbomgdaadoor", sum := "618d09a150611827435191aa672ebc205e7e0696e53712bc48817bbb44eb3e18", func := "placket/placketlaw10.DictApplies", spec := "dictApplies", inPlace := ["slices.overlaps[placket/hamt.pair[int]]"], unfollowed := true, recurses := true, named := ["math/bits.deBruijn32tab"], apart := false, laid := [("math/bits.deBruijn32tab", laid_math_bits_deBruijn32tab)], narrowed := true }
def DictAppliesUptoSaid : Prop := dictAppliesUptoRow.holds Tryd.pinned (OpenSpec.upto dictAppliesSpec)

/-- 'placketlaw10.DictParts', WHERE WHAT IT READS IS OF BULK AT MOST 1048576: true; the input reads as it did. -/
def dictPartsUptoRow : OpenClaim := { program := "ytnegblckbomgdaadoor", sum := "618d09a150611827435191aa672ebc205e7e0696e53712bc48817bbb44eb3e18", func := "placket/placketlaw10.DictParts", spec := "dictParts", inPlace := ["slices.overlaps[placket/hamt.pair[int]]"], unfollowed := true, recurses := true, named := ["math/bits.deBruijn32tab"], apart := false, laid := [("math/bits.deBruijn32tab", laid_math_bits_deBruijn32tab)], narrowed := true }
def DictPartsUptoSaid : Prop := dictPartsUptoRow.holds Tryd.pinned (OpenSpec.upto dictPartsSpec)

/-- 'placketlaw10.DictJoins', WHERE WHAT IT READS IS OF BULK AT MOST 1048576: true; the input reads as it did. -/
def dictJoinsUptoRow : OpenClaim := { program := "ytnegblckbomgdaadoor", sum := "618d09a150611827435191aa672ebc205e7e0696e53712bc48817bbb44eb3e18", func := "placket/placketlaw10.DictJoins", spec := "dictJoins", inPlace := ["slices.overlaps[placket/hamt.pair[int]]"], unfollowed := true, recurses := true, named := ["math/bits.deBruijn32tab"], apart := false, laid := [("math/bits.deBruijn32tab", laid_math_bits_deBruijn32tab)], narrowed := true }
def DictJoinsUptoSaid : Prop := dictJoinsUptoRow.holds Tryd.pinned (OpenSpec.upto dictJoinsSpec)

/-- 'placketlaw10.DictBack', WHERE WHAT IT READS IS OF BULK AT MOST 1048576: true; the input reads as it did. -/
def dictBackUptoRow : OpenClaim := { program := "ytnegblckbomgdaadoor", sum := "618d09a150611827435191aa672ebc205e7e0696e53712bc48817bbb44eb3e18", func := "placket/placketlaw10.DictBack", spec := "dictBack", inPlace := ["slices.overlaps[placket/hamt.pair[int]]"], unfollowed := true, recurses := true, named := ["math/bits.deBruijn32tab"], apart := false, laid := [("math/bits.deBruijn32tab", laid_math_bits_deBruijn32tab)], narrowed := true }
def DictBackUptoSaid : Prop := dictBackUptoRow.holds Tryd.pinned (OpenSpec.upto dictBackSpec)

end Rows
end Go.Proofs.YtnegblckbomgdaaDoor
