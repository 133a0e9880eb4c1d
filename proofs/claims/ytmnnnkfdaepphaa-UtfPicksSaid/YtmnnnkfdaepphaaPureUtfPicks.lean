/- UtfPicks: an encoding lays any characters in the form that it picks, and they are read of it as they were. No conditions beside the form's own: whatever the arguments. -/
import Derived.Test.YtmnnnkfdaepphaaPAx7
import Derived.Test.YtmnnnkfdaepphaaUtfL
namespace Go.Proofs.Ytmnnnkfdaepphaa.Pure
open Go.RowKit Go.Proofs.Ytmnnnkfdaepphaa.PA Go.Proofs.YtmnnnkfdaepphaaW.PrintWords Go.Proofs.YtmnnnkfdaepphaaW.PrintLast

theorem UtfPicks : scarflaw02_UtfPicks.Pure :=
  Go.Proofs.Ytmnnnkfdaepphaa.UtfL.picks

end Go.Proofs.Ytmnnnkfdaepphaa.Pure
