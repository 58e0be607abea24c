-- Words of the kit's print, as far as this claim reaches them (wip/squeeze.py). Not trusted: Lean checks it.
import Derived.Test.YtlpmifofgacgiaaDoorWInv
import Derived.Test.YtlpmifofgacgiaaDoorWFootNe
namespace Go.Proofs.YtlpmifofgacgiaaDoorW.PrintWords
open Go.RowKit
end Go.Proofs.YtlpmifofgacgiaaDoorW.PrintWords
namespace Go.Proofs.YtlpmifofgacgiaaDoorW.PrintLast
end Go.Proofs.YtlpmifofgacgiaaDoorW.PrintLast
