/- LebPuts: PutU and PutS lay any number as the document's reference does, and chapter 1's examples hold. No conditions beside the form's own: whatever the arguments. -/
import Derived.Test.YtmoeibghjejneaaPAx2
import Derived.Test.YtmoeibghjejneaaLebL
namespace Go.Proofs.Ytmoeibghjejneaa.Pure
open Go.RowKit Go.Proofs.Ytmoeibghjejneaa.PA Go.Proofs.YtmoeibghjejneaaW.PrintWords Go.Proofs.YtmoeibghjejneaaW.PrintLast

theorem LebPuts : scarflaw01_LebPuts.Pure :=
  Go.Proofs.Ytmoeibghjejneaa.LebL.puts

end Go.Proofs.Ytmoeibghjejneaa.Pure
