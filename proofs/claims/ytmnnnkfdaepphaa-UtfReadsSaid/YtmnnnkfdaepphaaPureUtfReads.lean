/- UtfReads: Read and Valid answer at any bytes, in any form, as the document's reference does. No conditions beside the form's own: whatever the arguments. -/
import Derived.Test.YtmnnnkfdaepphaaPAx6
import Derived.Test.YtmnnnkfdaepphaaUtfL
namespace Go.Proofs.Ytmnnnkfdaepphaa.Pure
open Go.RowKit Go.Proofs.Ytmnnnkfdaepphaa.PA Go.Proofs.YtmnnnkfdaepphaaW.PrintWords Go.Proofs.YtmnnnkfdaepphaaW.PrintLast

theorem UtfReads : scarflaw02_UtfReads.Pure :=
  Go.Proofs.Ytmnnnkfdaepphaa.UtfL.reads

end Go.Proofs.Ytmnnnkfdaepphaa.Pure
