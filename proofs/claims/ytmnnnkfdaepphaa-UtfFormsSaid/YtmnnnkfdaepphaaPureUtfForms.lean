/- UtfForms: Form and Size answer as the document's reference does, and characters have just so many bytes. No conditions beside the form's own: whatever the arguments. -/
import Derived.Test.YtmnnnkfdaepphaaPAx8
import Derived.Test.YtmnnnkfdaepphaaUtfL
namespace Go.Proofs.Ytmnnnkfdaepphaa.Pure
open Go.RowKit Go.Proofs.Ytmnnnkfdaepphaa.PA Go.Proofs.YtmnnnkfdaepphaaW.PrintWords Go.Proofs.YtmnnnkfdaepphaaW.PrintLast

theorem UtfForms : scarflaw02_UtfForms.Pure :=
  Go.Proofs.Ytmnnnkfdaepphaa.UtfL.forms

end Go.Proofs.Ytmnnnkfdaepphaa.Pure
