/- UtfScalars: Scalar tells of any number what the document's reference tells, and just those that are characters have bytes in FormUTF8. No conditions beside the form's own: whatever the arguments. -/
import Derived.Test.YtmnnnkfdaepphaaPAx4
import Derived.Test.YtmnnnkfdaepphaaUtfL
namespace Go.Proofs.Ytmnnnkfdaepphaa.Pure
open Go.RowKit Go.Proofs.Ytmnnnkfdaepphaa.PA Go.Proofs.YtmnnnkfdaepphaaW.PrintWords Go.Proofs.YtmnnnkfdaepphaaW.PrintLast

theorem UtfScalars : scarflaw02_UtfScalars.Pure :=
  Go.Proofs.Ytmnnnkfdaepphaa.UtfL.scalars

end Go.Proofs.Ytmnnnkfdaepphaa.Pure
