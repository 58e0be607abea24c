/- Words for what the printed walks write again and again: each takes its proof by the same steps as they did. -/
import Derived.Test.YtlpmifofgacgiaaDoorQ0
namespace Go.Proofs.YtlpmifofgacgiaaDoor.Q
open Go.RowKit Go.Proofs.YtlpmifofgacgiaaDoorW.PrintWords Go.Proofs.YtlpmifofgacgiaaDoorW.PrintLast Go.Proofs.YtlpmifofgacgiaaDoorW.PrintMore
theorem bwl {B : Nat} {w w' : World} (h : Below B w w' := by repeat (first | (with_reducible first | exact Aside0.out (by assumption) | apply below_alloc | apply pw_below_drewN | apply below_drew1 | refine below_set ?_ (Aside0.out (by assumption))) | exact Aside0.out (by assumption))) : Below B w w' := h
theorem bks {w : World} {g : Nat} {o : Obj} (h : w.heap[g]? = some o := by (with_reducible repeat (first | refine blk_drewN ?_ _ | refine blk_drew ?_ | refine blk_alloc ?_ _)); exact Aside0.out (by assumption)) : w.heap[g]? = some o := h
theorem meq {α : Type} {a b : α} (h : a = b := by first | rfl | (simp; done) | (simp [*]; done)) : a = b := h
theorem mta {α : Type} {a b : α} (h : a = b := by (try simp only [List.map_toArray, List.map_cons, List.map_nil]); first | done | rfl | (simp only [List.length_drop, List.length_take]; rfl)) : a = b := h
theorem ifn {p : Prop} [Decidable p] {α : Type} {a : Option α} {r : α} (h : (if p then a else none) = some r) : p ∧ a = some r := by
  by_cases c : p
  · rw [if_pos c] at h; exact ⟨c, h⟩
  · rw [if_neg c] at h; cases h
theorem ifn2 {p : Prop} [Decidable p] {α : Type} {a : Option α} {r : α} (h : (if p then a else none) = some r) : (p = True) ∧ decide p = true ∧ a = some r := ⟨eq_true (ifn h).1, decide_eq_true (ifn h).1, (ifn h).2⟩
end Go.Proofs.YtlpmifofgacgiaaDoor.Q
