-- Written by a program of this session (wip/pp), out of the translation.
import Derived.Test.YtlblleideihhmaaPAx0
import Derived.Test.YtlblleideihhmaaPAx1
import Derived.Test.YtlblleideihhmaaPAx2
import Derived.Test.YtlblleideihhmaaPAx3
import Derived.Test.YtlblleideihhmaaPAx4
import Derived.Test.YtlblleideihhmaaPAx5
import Derived.Test.YtlblleideihhmaaPAx6
import Derived.Test.YtlblleideihhmaaPAx7
namespace Go.Proofs.Ytlblleideihhmaa.PA
open Go.RowKit Go.Proofs.Ytlblleideihhmaa.Mine Go.Proofs.YtlblleideihhmaaW.PrintWords Go.Proofs.YtlblleideihhmaaW.PrintLast Go.Proofs.YtlblleideihhmaaW.PrintMore
attribute [local go_sem] max2_int min2_int max_two min_two max_three min_three max_four min_four   -- for this text's walks alone
set_option linter.unusedVariables false
set_option linter.unusedSimpArgs false

end Go.Proofs.Ytlblleideihhmaa.PA
