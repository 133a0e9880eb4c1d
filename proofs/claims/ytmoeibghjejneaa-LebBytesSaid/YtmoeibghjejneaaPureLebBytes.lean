/- LebBytes: PutBytes and TakeBytes answer as the document's reference does, and what is laid is taken as it was. No conditions beside the form's own: whatever the arguments. -/
import Derived.Test.YtmoeibghjejneaaPAx6
import Derived.Test.YtmoeibghjejneaaLebL
namespace Go.Proofs.Ytmoeibghjejneaa.Pure
open Go.RowKit Go.Proofs.Ytmoeibghjejneaa.PA Go.Proofs.YtmoeibghjejneaaW.PrintWords Go.Proofs.YtmoeibghjejneaaW.PrintLast

theorem LebBytes : scarflaw01_LebBytes.Pure :=
  Go.Proofs.Ytmoeibghjejneaa.LebL.bytes

end Go.Proofs.Ytmoeibghjejneaa.Pure
