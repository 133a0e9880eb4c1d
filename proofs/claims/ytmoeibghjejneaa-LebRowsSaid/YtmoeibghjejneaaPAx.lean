-- Laid by this session's wip/hp/hp.py: the kit's print with own contracts for what it does not take
import Derived.Test.YtmoeibghjejneaaPAx0
import Derived.Test.YtmoeibghjejneaaPAx1
import Derived.Test.YtmoeibghjejneaaPAx2
import Derived.Test.YtmoeibghjejneaaPAx3
import Derived.Test.YtmoeibghjejneaaPAx4
import Derived.Test.YtmoeibghjejneaaPAx5
import Derived.Test.YtmoeibghjejneaaPAx6
import Derived.Test.YtmoeibghjejneaaPAx7
namespace Go.Proofs.Ytmoeibghjejneaa.PA
open Go.RowKit Go.Proofs.YtmoeibghjejneaaW.PrintWords Go.Proofs.YtmoeibghjejneaaW.PrintLast Go.Proofs.YtmoeibghjejneaaW.PrintMore
attribute [local go_sem] max2_int min2_int max_two min_two max_three min_three max_four min_four   -- for this text's walks alone
set_option linter.unusedVariables false
set_option linter.unusedSimpArgs false

end Go.Proofs.Ytmoeibghjejneaa.PA
