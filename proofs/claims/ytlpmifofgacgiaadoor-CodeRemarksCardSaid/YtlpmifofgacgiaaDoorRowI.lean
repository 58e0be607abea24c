/- A slice of instructions, as a row's argument, opened. -/
import Derived.Test.YtlpmifofgacgiaaDoorRowBase
import Derived.Test.YtlpmifofgacgiaaDoorPI
namespace Go.Proofs.YtlpmifofgacgiaaDoor.Q
open Go.ChangeShapes Go.WideShapes Go.ChangeAt Go.RowKit Go.Deep
open Go.Proofs.YtlpmifofgacgiaaDoorW.PrintWords

theorem wf64 {n : Int} (h : (Lit.int .i64 n).wf = true) : i64ok n := by
  simp only [Lit.wf, Bool.and_eq_true, decide_eq_true_eq] at h
  exact h
instance : Inhabited In := ⟨z85⟩
set_option maxRecDepth 100000 in
theorem open_instrs {H : Type} {enc : TypeId × Value → H} {W : World} {base : Nat} {v : Value} {d : DataW H} {p : List MemPlace} (hv : Value.okWide Tryd.prog W .any base 38 v)
    (h : DataW.Trod enc Tryd.prog W 0 (fun _ => true) true 38 v d p) :
    ∃ (A : Option Addr) (n c : Nat) (l : List In), v = .slice A n c ∧ l.length = n ∧ n ≤ c ∧ Kd.C k85 W A n l ∧ (∀ x ∈ l, inOk x) ∧ ∀ x ∈ p, x.block < W.heap.size := by
  have hlt : ∀ x ∈ p, x.block < W.heap.size := by obtain ⟨m, hm⟩ := h; exact DataW.trod_lt m _ _ _ hm
  obtain ⟨A, n, c, rfl⟩ := okWide_slice Tryd.underlying38 hv
  obtain ⟨fuel, hf⟩ := h
  rcases open_slice_pairs Tryd.underlying38 Tryd.underlying85 (by kernel_rfl) rfl rfl (by kernel_rfl) (by kernel_rfl) hf with ⟨hcs, hx⟩ | ⟨a, len, cap, m, k, V0, V1, D0, D1, P0, P1, hcs, hb, hl, hm, hmm, hx, hall⟩
  · have e : Value.slice A n c = .slice none 0 0 := by simpa [Value.cells] using hcs
    cases e
    exact ⟨none, 0, 0, [], rfl, rfl, Nat.le_refl _, Kd.C_nil _ _, fun x hx => absurd hx (by simp), hlt⟩
  · have e : Value.slice A n c = .slice (some a) len cap := by simpa [Value.cells] using hcs
    cases e
    have hml : n ≤ m := by rw [hmm]; simpa using hl
    have each : ∀ i, i < n → ∃ x : In, V0 i = .int .i64 x.f0 ∧ V1 i = .int .i64 x.f1 ∧ inOk x := by
      intro i hi
      obtain ⟨_, _, h0, h1⟩ := hall i (by omega)
      obtain ⟨z0, e0, _, w0⟩ := DataW.trod_int Tryd.underlying3 h0
      obtain ⟨z1, e1, _, w1⟩ := DataW.trod_int Tryd.underlying3 h1
      exact ⟨⟨z0, z1⟩, by simpa using e0, by simpa using e1, wf64 w0, wf64 w1⟩
    obtain ⟨X, hX⟩ := choose_lt each
    refine ⟨some a, n, c, (List.range n).map X, rfl, by simp, hl, ⟨by simp, by have : c ≤ maxLen := hm; unfold maxLen at this; omega, fun _ => ⟨a, rfl, ?_⟩⟩, ?_, hlt⟩
    · intro j q hq
      have hj : j < n := by
        have := (List.getElem?_eq_some_iff.1 hq).1
        simpa using this
      have hq' : q = X j := by
        rw [List.getElem?_map, List.getElem?_range hj] at hq
        exact (Option.some.inj hq).symm
      subst hq'
      obtain ⟨c0, c1, _, _⟩ := hall j (by omega)
      obtain ⟨x0, x1, _⟩ := hX j hj
      rw [x0] at c0
      rw [x1] at c1
      refine ⟨_, rfl, k85_mk W (X j), fun i u hu => ?_⟩
      match i, hu with
      | 0, hu => cases hu; exact c0
      | 1, hu => cases hu; exact c1
    · intro x hx
      obtain ⟨i, hi, rfl⟩ := List.mem_map.1 hx
      exact (hX i (List.mem_range.1 hi)).2.2
end Go.Proofs.YtlpmifofgacgiaaDoor.Q
