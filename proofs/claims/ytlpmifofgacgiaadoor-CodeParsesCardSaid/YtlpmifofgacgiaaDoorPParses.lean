/- CodeParses: the plain law. -/
import Derived.Test.YtlpmifofgacgiaaDoorPQ
import Derived.Test.YtlpmifofgacgiaaDoorPAwake
import Derived.Test.YtlpmifofgacgiaaDoorPM
namespace Go.Proofs.YtlpmifofgacgiaaDoor.Q
open Go.RowKit Go.Proofs.YtlpmifofgacgiaaDoorW.PrintWords

theorem codeParses_pure (s : ByteArray) : ∃ k, cloisterlaw13_CodeParses.f k s = some true := by
  apply Ev.rounds
  unfold cloisterlaw13_CodeParses.f
  refine Ev.bind (parse_ev s) (Ev.bind (parse13_ev s) ?_)
  refine Ev.bind (same_ev _ (Nat.lt_of_le_of_lt (parseS_len _) (by decide))) ?_
  exact Ev.pos rfl (Ev.pos rfl (Ev.pos rfl (Ev.bind awake13_ev (Ev.now true))))
end Go.Proofs.YtlpmifofgacgiaaDoor.Q
