/- The project's own small look ('awake' of law 13) answers true. -/
import Derived.Test.YtlpmifofgacgiaaDoorPA
import Derived.Test.YtlpmifofgacgiaaDoorQ20
namespace Go.Proofs.YtlpmifofgacgiaaDoor.Q
open Go.RowKit Go.Proofs.YtlpmifofgacgiaaDoorW.PrintWords

set_option maxRecDepth 100000 in
theorem awake13 : cloisterlaw13_awake.f 40 = some true := by decide +kernel
theorem awake13_ev : Ev (fun k => cloisterlaw13_awake.f k) true := Ev.of cloisterlaw13_awake.mono awake13
end Go.Proofs.YtlpmifofgacgiaaDoor.Q
