/- CodeAgain: the plain law. -/
import Derived.Test.YtlpmifofgacgiaaDoorPB
import Derived.Test.YtlpmifofgacgiaaDoorPM
import Derived.Test.YtlpmifofgacgiaaDoorPQ
import Derived.Test.YtlpmifofgacgiaaDoorPAwake
namespace Go.Proofs.YtlpmifofgacgiaaDoor.Q
open Go.RowKit Go.Proofs.YtlpmifofgacgiaaDoorW.PrintWords

theorem codeAgain_pure (s : ByteArray) : ∃ k, cloisterlaw13_CodeAgain.f k s = some true := by
  apply Ev.rounds
  unfold cloisterlaw13_CodeAgain.f
  refine Ev.bind (parse_ev s) ?_
  have done : Ev (fun k => (cloisterlaw13_awake.f k).bind fun t406 => (some t406)) true := Ev.bind awake13_ev (Ev.now true)
  obtain ⟨hi, h1, h2⟩ := parseS_ok (bytes s)
  by_cases h0 : (parseS (bytes s)).2.1 = 0
  · have hc := h1 h0
    refine Ev.pos h0 ?_
    have e : printE (parseS (bytes s)).1 = (⟨(printS (parseS (bytes s)).1).toArray⟩, 0) := if_pos hc
    have hpr := print_ev (parseS (bytes s)).1 hi
    rw [e] at hpr
    refine Ev.bind hpr ?_
    have hp := parse_ev ⟨(printS (parseS (bytes s)).1).toArray⟩
    rw [bytes_mk (printS (parseS (bytes s)).1), parse_print hi hc] at hp
    refine Ev.bind hp (Ev.pos rfl (Ev.pos rfl ?_))
    refine Ev.bind (same_ev _ (Nat.lt_of_le_of_lt (parseS_len _) (by decide))) ?_
    exact Ev.pos rfl done
  · refine Ev.neg h0 (Ev.bind (parse13_ev s) ?_)
    exact Ev.pos rfl (Ev.pos (by rw [h2 h0]; rfl) done)
end Go.Proofs.YtlpmifofgacgiaaDoor.Q
