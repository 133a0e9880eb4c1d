/- LebShort: what PutU and PutS lay is no longer than any bytes of which the number was taken. No conditions beside the form's own: whatever the arguments. -/
import Derived.Test.YtmoeibghjejneaaPAx6
import Derived.Test.YtmoeibghjejneaaLebL
namespace Go.Proofs.Ytmoeibghjejneaa.Pure
open Go.RowKit Go.Proofs.Ytmoeibghjejneaa.PA Go.Proofs.YtmoeibghjejneaaW.PrintWords Go.Proofs.YtmoeibghjejneaaW.PrintLast

theorem LebShort : scarflaw01_LebShort.Pure :=
  Go.Proofs.Ytmoeibghjejneaa.LebL.short

end Go.Proofs.Ytmoeibghjejneaa.Pure
