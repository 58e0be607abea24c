/- A slice of responses, as a row's argument, opened; what its bulk bounds. -/
import Derived.Test.YtlpmifofgacgiaaDoorRowBase
import Derived.Test.YtlpmifofgacgiaaDoorPLine
namespace Go.Proofs.YtlpmifofgacgiaaDoor.Q
open Go.ChangeShapes Go.WideShapes Go.ChangeAt Go.RowKit Go.Deep
open Go.Proofs.YtlpmifofgacgiaaDoorW.PrintWords

instance : Inhabited Pr := ⟨z61⟩
instance : Inhabited Re := ⟨z28⟩
theorem bulk_pos {H : Type} (d : DataW H) : 1 ≤ Rows.uptoBulk d := by
  cases d with
  | lit l => cases l <;> simp [Rows.uptoBulk]
  | nil => simp [Rows.uptoBulk]
  | ptr d => simp [Rows.uptoBulk]
  | slice elems spare => simp [Rows.uptoBulk]
  | agg parts => simp [Rows.uptoBulk]
  | iface t d => simp [Rows.uptoBulk]
  | map entries => simp [Rows.uptoBulk]
  | held h => simp [Rows.uptoBulk]
theorem hdr_bulk {H : Type} (X : Nat → Pr) (D0 D1 : Nat → DataW H) : ∀ L : List Nat, (∀ i ∈ L, D0 i = .lit (.string (bytes (X i).f0)) ∧ D1 i = .lit (.string (bytes (X i).f1))) → hdrLen (L.map X) ≤ 4 * Rows.uptoBulkAll (L.map fun i => (.agg [D0 i, D1 i] : DataW H)) := by
  intro L
  induction L with
  | nil => intro _; simp [hdrLen]
  | cons i L ih =>
    intro h
    obtain ⟨h0, h1⟩ := h i (by simp)
    have := ih (fun j hj => h j (by simp [hj]))
    have s0 := size_bytes (X i).f0
    have s1 := size_bytes (X i).f1
    simp only [List.map_cons, hdrLen, Rows.uptoBulkAll, Rows.uptoBulk, h0, h1]
    omega
theorem open_pairs {H : Type} {enc : TypeId × Value → H} {W : World} {base : Nat} {sp : Nat → Bool} {held : Bool} {fuel : Nat} {cs : List Value} {x : DataW H × List MemPlace} (h : DataW.trod enc Tryd.prog W base sp held fuel 26 cs = some x) :
    ∃ (A : Option Addr) (c : Nat) (l : List Pr), cs = [.slice A l.length c] ∧ l.length ≤ c ∧ Kd.C k61 W A l.length l ∧ hdrLen l ≤ 4 * Rows.uptoBulk x.1 := by
  rcases open_slice_pairs Tryd.underlying26 Tryd.underlying61 (by kernel_rfl) rfl rfl (by kernel_rfl) (by kernel_rfl) h with ⟨hcs, hx⟩ | ⟨a, len, cap, m, k, V0, V1, D0, D1, P0, P1, hcs, hb, hl, hm, hmm, hx, hall⟩
  · exact ⟨none, 0, [], hcs, Nat.le_refl _, Kd.C_nil _ _, by simp [hdrLen]⟩
  · have hml : len ≤ m := by rw [hmm]; split <;> omega
    have each : ∀ i, i < len → ∃ p : Pr, V0 i = .string p.f0 ∧ V1 i = .string p.f1 ∧ D0 i = .lit (.string (bytes p.f0)) ∧ D1 i = .lit (.string (bytes p.f1)) := by
      intro i hi
      obtain ⟨_, _, h0, h1⟩ := hall i (by omega)
      obtain ⟨z0, e0, d0, w0⟩ := DataW.trod_string Tryd.underlying9 h0
      obtain ⟨z1, e1, d1, w1⟩ := DataW.trod_string Tryd.underlying9 h1
      exact ⟨⟨z0, z1⟩, by simpa using e0, by simpa using e1, (Prod.mk.inj d0).1, (Prod.mk.inj d1).1⟩
    obtain ⟨X, hX⟩ := choose_lt each
    have hlen : ((List.range len).map X).length = len := by simp
    refine ⟨some a, cap, (List.range len).map X, by rw [hlen]; exact hcs, by rw [hlen]; exact hl, ⟨rfl, by rw [hlen]; have : cap ≤ maxLen := hm; unfold maxLen at this; omega, fun _ => ⟨a, rfl, ?_⟩⟩, ?_⟩
    · intro j q hq
      have hj : j < len := by
        have := (List.getElem?_eq_some_iff.1 hq).1
        simpa using this
      have hq' : q = X j := by
        rw [List.getElem?_map, List.getElem?_range hj] at hq
        exact (Option.some.inj hq).symm
      subst hq'
      obtain ⟨c0, c1, _, _⟩ := hall j (by omega)
      obtain ⟨x0, x1, _⟩ := hX j hj
      rw [x0] at c0
      rw [x1] at c1
      refine ⟨_, rfl, k61_mk W (X j), fun i u hu => ?_⟩
      match i, hu with
      | 0, hu => cases hu; exact c0
      | 1, hu => cases hu; exact c1
    · rw [hx]
      have := hdr_bulk X D0 D1 (List.range len) (fun i hi => ⟨(hX i (List.mem_range.1 hi)).2.2.1, (hX i (List.mem_range.1 hi)).2.2.2⟩)
      simp only [Rows.uptoBulk]
      omega

/-! ### responses -/
theorem heapPr : Kd.Heap k61 := Kd.heap_iso _ (Kd.heap_pair Kd.heap_string Kd.heap_string)
theorem heapRe : Kd.Heap k28 := Kd.heap_iso _ (Kd.heap_pair (Kd.heap_int _) (Kd.heap_pair (Kd.heap_slice _ heapPr) (Kd.heap_pair Kd.heap_string Kd.heap_bool)))
theorem tot_bulk {H : Type} (X : Nat → Re) (D : Nat → DataW H) : ∀ L : List Nat, (∀ i ∈ L, hdrLen (X i).f1 + (X i).f2.size + 200 ≤ 204 * Rows.uptoBulk (D i)) → totE (L.map X) ≤ 204 * Rows.uptoBulkAll (L.map D) := by
  intro L
  induction L with
  | nil => intro _; simp [totE]
  | cons i L ih =>
    intro h
    have h0 := h i (by simp)
    have := ih (fun j hj => h j (by simp [hj]))
    simp only [List.map_cons, totE, Rows.uptoBulkAll]
    omega
set_option maxRecDepth 100000 in
theorem open_resps {H : Type} {enc : TypeId × Value → H} {W : World} {base : Nat} {v : Value} {d : DataW H} {p : List MemPlace} (hv : Value.okWide Tryd.prog W .any base 22 v)
    (h : DataW.Trod enc Tryd.prog W 0 (fun _ => true) true 22 v d p) :
    ∃ (A : Option Addr) (n c : Nat) (l : List Re), v = .slice A n c ∧ l.length = n ∧ n ≤ c ∧ Kd.V k28 28 W W.heap.size (fun k_ => k_ < W.heap.size) (.slice A l.length c) l ∧ True ∧ (∀ x ∈ p, x.block < W.heap.size) ∧ totE l ≤ 204 * Rows.uptoBulk d := by
  have hlt : ∀ x ∈ p, x.block < W.heap.size := by obtain ⟨m, hm⟩ := h; exact DataW.trod_lt m _ _ _ hm
  obtain ⟨A, n, c, rfl⟩ := okWide_slice Tryd.underlying22 hv
  obtain ⟨fuel, hf⟩ := h
  have hce : Tryd.prog.cellsOf 28 = 4 := by kernel_rfl
  rcases open_slice Tryd.underlying22 hf with ⟨hcs, hx⟩ | ⟨a, len, cap, m, k, D, Pl, hcs, hb, hl, hm, hmm, hx, hall⟩
  · have e : Value.slice A n c = .slice none 0 0 := by simpa [Value.cells] using hcs
    cases e
    exact ⟨none, 0, 0, [], rfl, rfl, Nat.le_refl _, ⟨none, 0, rfl, Nat.le_refl _, Kd.F_nil _ _ _⟩, trivial, hlt, by simp [totE]⟩
  · have e : Value.slice A n c = .slice (some a) len cap := by simpa [Value.cells] using hcs
    cases e
    have hml : n ≤ m := by rw [hmm]; simpa using hl
    rw [hce] at hall
    have each : ∀ i, i < n → ∃ x : Re, ∃ cs' : List Value, W.cells? 0 (a.add (i * 4)) 4 = some cs' ∧ k28.K W x cs' ∧ hdrLen x.f1 + x.f2.size + 200 ≤ 204 * Rows.uptoBulk (D i) := by
      intro i hi
      obtain ⟨cs', h1, h2⟩ := hall i (by omega)
      obtain ⟨_, hlen, _⟩ := World.cells?_some h1
      obtain ⟨xs, q, hq, hxy, _, hxl, hfl⟩ := DataW.trod_struct Tryd.underlying28 h2
      match xs, hxl, cs', hlen with
      | [y0, y1, y2, y3], _, [v0, v1, v2, v3], _ =>
        have g0 := hfl 0 _ rfl
        have g1 := hfl 1 _ rfl
        have g2 := hfl 2 _ rfl
        have g3 := hfl 3 _ rfl
        have ci : Tryd.prog.cellsOf 3 = 1 := by kernel_rfl
        have cp : Tryd.prog.cellsOf 26 = 1 := by kernel_rfl
        have cst : Tryd.prog.cellsOf 9 = 1 := by kernel_rfl
        have cb : Tryd.prog.cellsOf 4 = 1 := by kernel_rfl
        simp [ci, cp, cst, cb] at g0 g1 g2 g3
        obtain ⟨z0, e0, d0, w0⟩ := DataW.trod_int Tryd.underlying3 g0
        obtain ⟨A1, c1, l1, e1, hc1, hC1, hb1⟩ := open_pairs g1
        obtain ⟨z2, e2, d2, w2⟩ := DataW.trod_string Tryd.underlying9 g2
        obtain ⟨z3, e3, d3⟩ := DataW.trod_bool Tryd.underlying4 g3
        simp only [List.cons.injEq, and_true] at e0 e1 e2 e3
        subst e0 e1 e2 e3
        refine ⟨⟨z0, l1, z2, z3⟩, _, h1, k28_mk W ⟨z0, l1, z2, z3⟩ hc1 hC1, ?_⟩
        have hD : D i = .agg [y0.1, y1.1, y2.1, y3.1] := by
          have := congrArg Prod.fst hxy
          simpa using this
        have hs := size_bytes z2
        have hd2 : y2.1 = .lit (.string (bytes z2)) := (congrArg Prod.fst d2 : _)
        have b0 := bulk_pos y0.1
        have b3 := bulk_pos y3.1
        rw [hD]
        simp only [Rows.uptoBulk, Rows.uptoBulkAll, hd2]
        show hdrLen l1 + z2.size + 200 ≤ _
        omega
    obtain ⟨X, hX⟩ := choose_lt each
    have hlen : ((List.range n).map X).length = n := by simp
    have hC : Kd.C k28 W (some a) n ((List.range n).map X) := by
      refine ⟨hlen, by have : c ≤ maxLen := hm; unfold maxLen at this; omega, fun _ => ⟨a, rfl, ?_⟩⟩
      intro j q hq
      have hj : j < n := by
        have := (List.getElem?_eq_some_iff.1 hq).1
        simpa using this
      have hq' : q = X j := by
        rw [List.getElem?_map, List.getElem?_range hj] at hq
        exact (Option.some.inj hq).symm
      subst hq'
      obtain ⟨cs', h1, h2, _⟩ := hX j hj
      obtain ⟨_, hl4, hcell⟩ := World.cells?_some h1
      refine ⟨cs', hl4, h2, fun i u hu => ?_⟩
      have hi : i < 4 := by
        have := (List.getElem?_eq_some_iff.1 hu).1
        omega
      have := hcell i hi
      rw [Go.Deep.add_add] at this
      exact this.trans hu
    refine ⟨some a, n, c, (List.range n).map X, rfl, hlen, hl, ⟨some a, c, by rw [hlen], by rw [hlen]; exact hl, by rw [hlen]; exact Kd.C_F heapRe hC⟩, trivial, hlt, ?_⟩
    have hd : d = .slice ((List.range n).map D) ((List.range (m - n)).map fun j => D (n + j)) := (Prod.mk.inj hx).1
    have := tot_bulk X D (List.range n) (fun i hi => by obtain ⟨_, _, _, hh⟩ := hX i (List.mem_range.1 hi); exact hh)
    rw [hd]
    simp only [Rows.uptoBulk]
    omega
end Go.Proofs.YtlpmifofgacgiaaDoor.Q
