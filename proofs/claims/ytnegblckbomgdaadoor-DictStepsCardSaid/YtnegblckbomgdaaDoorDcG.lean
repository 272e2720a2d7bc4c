/- The laws Ends and Asks, as their rows ask for them. -/
import Derived.Test.YtnegblckbomgdaaDoorDcF
import Derived.Test.YtnegblckbomgdaaDoorDcLaid
set_option linter.unusedVariables false
namespace Go.Proofs.YtnegblckbomgdaaDoor.Ht
open Go Go.RowKit Go.Shelf Go.Proofs.YtnegblckbomgdaaDoor.Mem Go.Proofs.YtnegblckbomgdaaDoor.PA Go.Proofs.YtnegblckbomgdaaDoorW.PrintWords Go.Proofs.YtnegblckbomgdaaDoor.U64
theorem asks_r (c : Cf) (v : Value) (os : List S2) (k : ByteArray) (i : Int) (W : World) (hT : Tab W) (hO : PairsV W v os) {P Q : Prop} (_ : P) (_ : Q) : Calls Tryd.prog 10 #[confV c, v, .string k, .int .i64 i] W (Tru W) := asks_c c v os k i W hT hO
end Go.Proofs.YtnegblckbomgdaaDoor.Ht
