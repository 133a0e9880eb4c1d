/- LebTakes: TakeU and TakeS answer at any bytes, of any bits, as the document's reference does. No conditions beside the form's own: whatever the arguments. -/
import Derived.Test.YtmoeibghjejneaaPAx5
import Derived.Test.YtmoeibghjejneaaLebL
namespace Go.Proofs.Ytmoeibghjejneaa.Pure
open Go.RowKit Go.Proofs.Ytmoeibghjejneaa.PA Go.Proofs.YtmoeibghjejneaaW.PrintWords Go.Proofs.YtmoeibghjejneaaW.PrintLast

theorem LebTakes : scarflaw01_LebTakes.Pure :=
  Go.Proofs.Ytmoeibghjejneaa.LebL.takes

end Go.Proofs.Ytmoeibghjejneaa.Pure
