/- Laws of the maps' code and of the words it uses, gathered out of the printed and own texts; no conditions. -/
import Derived.Test.YtnegblckbomgdaaDoorHsWInv
import Derived.Test.YtnegblckbomgdaaDoorHsWFootNe
set_option linter.unusedVariables false
set_option linter.unusedSimpArgs false
-- PRINTED BY print.sh 35421559b90ae4d0a3588c463048766b98c2df88dd9212a6774a882060cdf62d: not written by this session
namespace Go.Proofs.YtnegblckbomgdaaDoorW.PrintWords
open Go.RowKit
end Go.Proofs.YtnegblckbomgdaaDoorW.PrintWords
namespace Go.Proofs.YtnegblckbomgdaaDoorW.PrintLast
section
variable {ops : Array Oper} {a : Act} {o og : Oper} {g : Nat} {t : Tmp} {u : Bool}
end
end Go.Proofs.YtnegblckbomgdaaDoorW.PrintLast
