/- Instructions whose numbers are Go's int. -/
import Derived.Test.YtlpmifofgacgiaaDoorQ0
namespace Go.Proofs.YtlpmifofgacgiaaDoor.Q

abbrev In := S85
/-- what a whole number of Go's int can be -/
def i64ok (z : Int) : Prop := -9223372036854775808 ≤ z ∧ z ≤ 9223372036854775807
def inOk (x : In) : Prop := i64ok x.f0 ∧ i64ok x.f1
end Go.Proofs.YtlpmifofgacgiaaDoor.Q
