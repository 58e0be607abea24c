-- Words of the kit's print, as far as this claim reaches them (wip/squeeze.py). Not trusted: Lean checks it.
import Derived.Test.YtlpmifofgacgiaaDoorWTab
namespace Go.Proofs.YtlpmifofgacgiaaDoorW.PrintLast
end Go.Proofs.YtlpmifofgacgiaaDoorW.PrintLast
