/- UtfOnly: what Read reads Write writes just so. No conditions beside the form's own: whatever the arguments. -/
import Derived.Test.YtmnnnkfdaepphaaPAx4
import Derived.Test.YtmnnnkfdaepphaaUtfL
namespace Go.Proofs.Ytmnnnkfdaepphaa.Pure
open Go.RowKit Go.Proofs.Ytmnnnkfdaepphaa.PA Go.Proofs.YtmnnnkfdaepphaaW.PrintWords Go.Proofs.YtmnnnkfdaepphaaW.PrintLast

theorem UtfOnly : scarflaw02_UtfOnly.Pure :=
  Go.Proofs.Ytmnnnkfdaepphaa.UtfL.only

end Go.Proofs.Ytmnnnkfdaepphaa.Pure
