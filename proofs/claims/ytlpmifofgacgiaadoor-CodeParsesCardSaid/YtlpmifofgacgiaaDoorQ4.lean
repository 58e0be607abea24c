-- Written by a program of this session (wip/print2.py) for this claim. Not trusted: Lean checks it.
import Derived.Test.YtlpmifofgacgiaaDoorQ0
import Derived.Test.YtlpmifofgacgiaaDoorGivenA
namespace Go.Proofs.YtlpmifofgacgiaaDoor.Q
open Go.RowKit Go.Proofs.YtlpmifofgacgiaaDoorW.PrintWords Go.Proofs.YtlpmifofgacgiaaDoorW.PrintLast Go.Proofs.YtlpmifofgacgiaaDoorW.PrintMore
attribute [local go_sem] max2_int min2_int max_two min_two max_three min_three max_four min_four   -- for this text's walks alone
set_option linter.unusedVariables false
set_option linter.unusedSimpArgs false

end Go.Proofs.YtlpmifofgacgiaaDoor.Q
