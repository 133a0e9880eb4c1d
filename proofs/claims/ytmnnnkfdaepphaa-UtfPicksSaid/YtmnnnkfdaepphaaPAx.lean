-- Laid by this session's wip/hp/hp.py: the kit's print with own contracts for what it does not take
import Derived.Test.YtmnnnkfdaepphaaPAx0
import Derived.Test.YtmnnnkfdaepphaaPAx1
import Derived.Test.YtmnnnkfdaepphaaPAx2
import Derived.Test.YtmnnnkfdaepphaaPAx3
import Derived.Test.YtmnnnkfdaepphaaPAx4
import Derived.Test.YtmnnnkfdaepphaaPAx5
import Derived.Test.YtmnnnkfdaepphaaPAx6
import Derived.Test.YtmnnnkfdaepphaaPAx7
import Derived.Test.YtmnnnkfdaepphaaPAx8
namespace Go.Proofs.Ytmnnnkfdaepphaa.PA
open Go.RowKit Go.Proofs.YtmnnnkfdaepphaaW.PrintWords Go.Proofs.YtmnnnkfdaepphaaW.PrintLast Go.Proofs.YtmnnnkfdaepphaaW.PrintMore
attribute [local go_sem] max2_int min2_int max_two min_two max_three min_three max_four min_four   -- for this text's walks alone
set_option linter.unusedVariables false
set_option linter.unusedSimpArgs false

end Go.Proofs.Ytmnnnkfdaepphaa.PA
