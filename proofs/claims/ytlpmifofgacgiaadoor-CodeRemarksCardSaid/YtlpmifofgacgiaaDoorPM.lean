/- Plain: how long what is parsed is; a list is the same as itself. -/
import Derived.Test.YtlpmifofgacgiaaDoorPP
import Derived.Test.YtlpmifofgacgiaaDoorQ24
namespace Go.Proofs.YtlpmifofgacgiaaDoor.Q
open Go.RowKit Go.Proofs.YtlpmifofgacgiaaDoorW.PrintWords

theorem finS_len (out : List In) (pl : List Int) : (finS out pl).1.length ≤ 1024 := by
  unfold finS
  by_cases h0 : (checkS out).1 = 0
  · rw [if_pos h0]; exact ((checkS_ok out).1 h0).2.1
  · rw [if_neg h0]
    split <;> simp
theorem runS_len : ∀ (ls : List Bs) (a : Nat) (out : List In) (pl : List Int), (runS ls a out pl).1.length ≤ 1024 := by
  intro ls
  induction ls with
  | nil => intro a out pl; exact finS_len out pl
  | cons l ls ih =>
    intro a out pl
    rw [runS]
    split
    · exact ih _ _ _
    · split
      · simp
      · exact ih _ _ _
theorem parseS_len (s : Bs) : (parseS s).1.length ≤ 1024 := by
  unfold parseS
  split
  · simp
  · exact runS_len _ _ _ _
/-! ### Same -/
theorem same_ev (l : List In) (hl : l.length < 4294967296) : Ev (fun k => cloisterref13_Same.f k l l) true := by
  unfold cloisterref13_Same.f
  refine Ev.pos rfl ?_
  have loop : ∀ (g i : Nat), i + g = l.length → Ev (fun k => cloisterref13_Same.l0 k l l (i : Int)) true := by
    intro g
    induction g with
    | zero =>
      intro i hi
      refine Ev.step (fun k => by rw [cloisterref13_Same.l0]) ?_
      exact Ev.neg (by omega) (Ev.now _)
    | succ g ih =>
      intro i hi
      refine Ev.step (fun k => by rw [cloisterref13_Same.l0]) ?_
      refine Ev.pos (by omega) (Ev.pos (by omega) (Ev.pos (by omega) (Ev.neg (by simp) ?_)))
      rw [wr_succ i (by omega)]
      exact ih (i + 1) (by omega)
  exact loop l.length 0 (by omega)
end Go.Proofs.YtlpmifofgacgiaaDoor.Q
