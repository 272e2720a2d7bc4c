/- Laws of the maps' code and of the words it uses, gathered out of the printed and own texts; no conditions. -/
import Derived.Test.YtnegblckbomgdaaDoorHsWTab
set_option linter.unusedVariables false
set_option linter.unusedSimpArgs false
-- PRINTED BY print.sh 35421559b90ae4d0a3588c463048766b98c2df88dd9212a6774a882060cdf62d: not written by this session
namespace Go.Proofs.YtnegblckbomgdaaDoorW.PrintLast
section
variable {P : Program} {ops : Array Oper} {Q : Exit → Act → World → Prop} {md : Region.Mode} {S : World → Prop} {ds : List Nat} {T : Bool × List (List Nat × List Nat)}
end
end Go.Proofs.YtnegblckbomgdaaDoorW.PrintLast
