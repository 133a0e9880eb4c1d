/- LebBack: what PutS and PutU lay is taken as it was, with whatever behind it, and what does not fit is refused. No conditions beside the form's own: whatever the arguments. -/
import Derived.Test.YtmoeibghjejneaaPAx5
import Derived.Test.YtmoeibghjejneaaLebL
namespace Go.Proofs.Ytmoeibghjejneaa.Pure
open Go.RowKit Go.Proofs.Ytmoeibghjejneaa.PA Go.Proofs.YtmoeibghjejneaaW.PrintWords Go.Proofs.YtmoeibghjejneaaW.PrintLast

theorem LebBack : scarflaw01_LebBack.Pure :=
  Go.Proofs.Ytmoeibghjejneaa.LebL.back

end Go.Proofs.Ytmoeibghjejneaa.Pure
