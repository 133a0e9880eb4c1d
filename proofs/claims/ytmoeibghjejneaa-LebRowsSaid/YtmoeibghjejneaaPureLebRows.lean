/- LebRows: PutAll and TakeAll answer as the document's reference does. No conditions beside the form's own: whatever the arguments. -/
import Derived.Test.YtmoeibghjejneaaPAx7
import Derived.Test.YtmoeibghjejneaaLebL
namespace Go.Proofs.Ytmoeibghjejneaa.Pure
open Go.RowKit Go.Proofs.Ytmoeibghjejneaa.PA Go.Proofs.YtmoeibghjejneaaW.PrintWords Go.Proofs.YtmoeibghjejneaaW.PrintLast

theorem LebRows : scarflaw01_LebRows.Pure :=
  Go.Proofs.Ytmoeibghjejneaa.LebL.rows

end Go.Proofs.Ytmoeibghjejneaa.Pure
