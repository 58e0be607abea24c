/- What the rows of this seat share: what the listed variables give ('tabsOk'), a world that lays them ('laidWorld'), a slice of instructions opened. -/
import Derived.Test.YtlpmifofgacgiaaDoorRows
import Derived.Test.YtlpmifofgacgiaaDoorQ0
import Derived.Test.YtlpmifofgacgiaaDoorGivenA
import Derived.WalkKit
import Derived.ProofKit
import Derived.OpenShut
import Derived.ShutString
import Derived.ChangeOld
import Derived.Below
import Derived.Carry
import Derived.SizedLaws
import Derived.OpenShut
import Derived.Deep.DeepHandedRow
import Derived.Deep.DeepWitnessRowRef
import Derived.Deep.SlicePairs
import Derived.Lib.LaidTab
import Derived.Stop.LaidErr
import Derived.Shelf.Vars
namespace Go.Proofs.YtlpmifofgacgiaaDoor.Q
open Go.ChangeShapes Go.WideShapes Go.ChangeAt Go.RowKit
open Go.ChangeMaps (open_string shut_string)

theorem ownQ : ownKnob Tryd.prog.godebug = none := by kernel_rfl
theorem laidOutQ : laidOutB Tryd.prog = true := by kernel_rfl
theorem star : "*" ++ "errors.errorString" = "*errors.errorString" := by decide
theorem rowErr (u : TypeId) (h : Tryd.prog.typeName? 3 u = some "*errors.errorString") : u = 164 :=
  typeName_ptr_named (nm := "errors.errorString") (by rw [star]; kernel_rfl) (by kernel_rfl) (by decide) u (by rw [star]; exact h)

/-- What a row's list and a row's world give. -/
theorem tabsOk {W : World} (h : laidMetH Tryd.prog Rows.codeChecksRow.laid W) (hs : W.ShapedOpen Tryd.prog) : TabsOk W := by
  have h0 : laidMet Tryd.prog Rows.codeChecksRow.laid W := h
  have h1 := laidMet.tail h0
  have h2 := laidMet.tail h1
  have h4 := laidMet.tail (laidMet.tail h2)
  have h5 := laidMet.tail h4
  refine ⟨cell_of_shapedOpen_int (t := 3) (zero := #[.int .i64 0]) hs (of_decide_eq_true (by kernel_rfl)) (by kernel_rfl) rfl (by kernel_rfl) (by kernel_rfl) Tryd.underlying3, ?_, ?_, ?_⟩
  · exact Lib.tabIs_of_head (t := 147) (e := 132) (n := 20) gPow (by kernel_rfl) Tryd.underlying147 Tryd.underlying132 (by kernel_rfl) (by kernel_rfl) h2
  · obtain ⟨a, s, hv, _⟩ := laid_sentinel h5 gSyn (by kernel_rfl) Tryd.underlying56 rowErr Tryd.underlying164 Tryd.underlying166 rfl rfl Tryd.underlying9 (by kernel_rfl) (by kernel_rfl)
    exact ⟨_, _, hv⟩
  · obtain ⟨a, s, hv, _⟩ := laid_sentinel h4 gRan (by kernel_rfl) Tryd.underlying56 rowErr Tryd.underlying164 Tryd.underlying166 rfl rfl Tryd.underlying9 (by kernel_rfl) (by kernel_rfl)
    exact ⟨_, _, hv⟩

/-! ### A world that lays the seven -/
noncomputable def lowQ : Nat := (World.holding Tryd.prog default ⟨#[], #[], []⟩).heap.size
def litsOf : List (DataW Unit) → List Value
  | [] => []
  | .lit (.int k z) :: r => .int k z :: litsOf r
  | .agg [.lit (.int k z), .lit (.int k' z')] :: r => .int k z :: .int k' z' :: litsOf r
  | _ :: r => litsOf r
def partsOf : DataW Unit → List (DataW Unit)
  | .agg l => l
  | _ => []
noncomputable def laidWorld (os : Os) : World :=
  let w0 := World.holding Tryd.prog os ⟨#[.cells #[.string ⟨#[118, 97, 108, 117, 101, 32, 111, 117, 116, 32, 111, 102, 32, 114, 97, 110, 103, 101]⟩] 166, .cells #[.string ⟨#[105, 110, 118, 97, 108, 105, 100, 32, 115, 121, 110, 116, 97, 120]⟩] 166], #[], []⟩
  let put (h : Array Obj) (g : Nat) (cs : Array Value) : Array Obj := h.modify g fun
    | .cells _ t frozen => .cells cs t frozen
    | o => o
  let h1 := put w0.heap 6 (litsOf (partsOf Rows.laid_math_bits_deBruijn32tab)).toArray
  let h2 := put h1 7 (litsOf (partsOf Rows.laid_math_bits_deBruijn64tab)).toArray
  let h3 := put h2 1 (litsOf (partsOf Rows.laid_internal_strconv_uint64pow10)).toArray
  let h4 := put h3 5 (litsOf (partsOf Rows.laid_unicode_utf8_acceptRanges)).toArray
  let h5 := put h4 3 #[.iface 164 (.pointer (some ⟨lowQ, 0, none⟩))]
  let h6 := put h5 2 #[.iface 164 (.pointer (some ⟨lowQ + 1, 0, none⟩))]
  let h7 := put h6 4 (litsOf (partsOf Rows.laid_unicode_utf8_first)).toArray
  { w0 with heap := h7 }
set_option maxRecDepth 1000000 in
theorem laid_met (os : Os) (args : Array Value) : laidMet Tryd.prog Rows.codeChecksRow.laid ((laidWorld os).forCall (fun _ _ => 0) ⟨#[], args, []⟩).memory :=
  laidMet_of_run' 8 (by kernel_rfl) (by kernel_rfl)
end Go.Proofs.YtlpmifofgacgiaaDoor.Q
