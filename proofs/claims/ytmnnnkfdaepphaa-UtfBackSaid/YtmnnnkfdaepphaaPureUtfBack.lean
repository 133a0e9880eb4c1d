/- UtfBack: what Write writes Read reads as it was. No conditions beside the form's own: whatever the arguments. -/
import Derived.Test.YtmnnnkfdaepphaaPAx5
import Derived.Test.YtmnnnkfdaepphaaUtfL
namespace Go.Proofs.Ytmnnnkfdaepphaa.Pure
open Go.RowKit Go.Proofs.Ytmnnnkfdaepphaa.PA Go.Proofs.YtmnnnkfdaepphaaW.PrintWords Go.Proofs.YtmnnnkfdaepphaaW.PrintLast

theorem UtfBack : scarflaw02_UtfBack.Pure :=
  Go.Proofs.Ytmnnnkfdaepphaa.UtfL.back

end Go.Proofs.Ytmnnnkfdaepphaa.Pure
