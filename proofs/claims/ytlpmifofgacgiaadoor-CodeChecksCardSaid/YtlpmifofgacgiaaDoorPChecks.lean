/- CodeChecks: the plain law. -/
import Derived.Test.YtlpmifofgacgiaaDoorPC
import Derived.Test.YtlpmifofgacgiaaDoorQ20
namespace Go.Proofs.YtlpmifofgacgiaaDoor.Q
open Go.RowKit Go.Proofs.YtlpmifofgacgiaaDoorW.PrintWords

set_option maxRecDepth 100000 in
theorem awake13 : cloisterlaw13_awake.f 40 = some true := by decide +kernel
theorem awake13_ev : Ev (fun k => cloisterlaw13_awake.f k) true := Ev.of cloisterlaw13_awake.mono awake13

theorem codeChecks_pure (l : List In) (op : Int) (hl : ∀ x ∈ l, inOk x) : ∃ k, cloisterlaw13_CodeChecks.f k l op = some true := by
  apply Ev.rounds
  unfold cloisterlaw13_CodeChecks.f
  refine Ev.bind (check_ev l) (Ev.bind (check13_ev l) (Ev.bind (print_ev l hl) (Ev.bind (print13_ev l hl) (Ev.bindC (name_eq op) (Ev.bindC (name13_eq op) ?_)))))
  refine Ev.pos rfl (Ev.pos rfl (Ev.pos rfl (Ev.pos rfl (Ev.pos rfl (Ev.pos rfl (Ev.bind awake13_ev (Ev.now true)))))))
end Go.Proofs.YtlpmifofgacgiaaDoor.Q
