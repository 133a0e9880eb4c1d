/- LebBits: what TakeS takes of fewer bits it takes of more bits as the same number, and each is in its range. No conditions beside the form's own: whatever the arguments. -/
import Derived.Test.YtmoeibghjejneaaPAx3
import Derived.Test.YtmoeibghjejneaaLebL
namespace Go.Proofs.Ytmoeibghjejneaa.Pure
open Go.RowKit Go.Proofs.Ytmoeibghjejneaa.PA Go.Proofs.YtmoeibghjejneaaW.PrintWords Go.Proofs.YtmoeibghjejneaaW.PrintLast

theorem LebBits : scarflaw01_LebBits.Pure :=
  Go.Proofs.Ytmoeibghjejneaa.LebL.bits

end Go.Proofs.Ytmoeibghjejneaa.Pure
