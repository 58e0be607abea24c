/- CodeBack: the plain law. -/
import Derived.Test.YtlpmifofgacgiaaDoorPB
import Derived.Test.YtlpmifofgacgiaaDoorPM
import Derived.Test.YtlpmifofgacgiaaDoorPAwake
namespace Go.Proofs.YtlpmifofgacgiaaDoor.Q
open Go.RowKit Go.Proofs.YtlpmifofgacgiaaDoorW.PrintWords

theorem codeBack_pure (l : List In) (hl : ∀ x ∈ l, inOk x) : ∃ k, cloisterlaw13_CodeBack.f k l = some true := by
  apply Ev.rounds
  unfold cloisterlaw13_CodeBack.f
  refine Ev.bind (print_ev l hl) ?_
  have done : Ev (fun k => (cloisterlaw13_awake.f k).bind fun t406 => (some t406)) true := Ev.bind awake13_ev (Ev.now true)
  by_cases h0 : (checkS l).1 = 0
  · have e : printE l = (⟨(printS l).toArray⟩, 0) := if_pos h0
    rw [e]
    have hp := parse_ev ⟨(printS l).toArray⟩
    rw [bytes_mk (printS l), parse_print hl h0] at hp
    refine Ev.pos rfl (Ev.bind hp (Ev.pos rfl (Ev.pos rfl ?_)))
    have h2 := ((checkS_ok l).1 h0).2.1
    refine Ev.bind (same_ev l (Nat.lt_of_le_of_lt h2 (by decide))) ?_
    exact Ev.pos rfl done
  · have e : printE l = (⟨#[]⟩, (checkS l).1) := if_neg h0
    rw [e]
    refine Ev.neg h0 (Ev.bind (check13_ev l) ?_)
    exact Ev.pos rfl (Ev.pos (toList_bytes _) done)
end Go.Proofs.YtlpmifofgacgiaaDoor.Q
