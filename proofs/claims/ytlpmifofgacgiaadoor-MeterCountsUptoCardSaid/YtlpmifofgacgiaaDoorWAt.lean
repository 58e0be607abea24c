-- Words of the kit's print, as far as this claim reaches them (wip/squeeze.py). Not trusted: Lean checks it.
import Derived.Test.YtlpmifofgacgiaaDoorWFootNe
namespace Go.Proofs.YtlpmifofgacgiaaDoorW.PrintWords
open Go.RowKit
namespace Kd
end Kd
end Go.Proofs.YtlpmifofgacgiaaDoorW.PrintWords
