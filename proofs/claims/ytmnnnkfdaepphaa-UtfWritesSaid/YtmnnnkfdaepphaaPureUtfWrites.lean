/- UtfWrites: Write lays any numbers, in any form, as the document's reference does, and chapter 2's examples hold. No conditions beside the form's own: whatever the arguments. -/
import Derived.Test.YtmnnnkfdaepphaaPAx4
import Derived.Test.YtmnnnkfdaepphaaUtfL
namespace Go.Proofs.Ytmnnnkfdaepphaa.Pure
open Go.RowKit Go.Proofs.Ytmnnnkfdaepphaa.PA Go.Proofs.YtmnnnkfdaepphaaW.PrintWords Go.Proofs.YtmnnnkfdaepphaaW.PrintLast

theorem UtfWrites : scarflaw02_UtfWrites.Pure :=
  Go.Proofs.Ytmnnnkfdaepphaa.UtfL.writes

end Go.Proofs.Ytmnnnkfdaepphaa.Pure
