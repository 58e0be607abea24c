/- A slice of outs, as a row's argument, opened; what its bulk bounds. -/
import Derived.Test.YtlpmifofgacgiaaDoorPR6
import Derived.Test.YtlpmifofgacgiaaDoorPRefP
import Derived.Test.YtlpmifofgacgiaaDoorQ2
import Derived.Test.YtlpmifofgacgiaaDoorQ16
import Derived.Test.YtlpmifofgacgiaaDoorQ5
namespace Go.Proofs.YtlpmifofgacgiaaDoor.Q
open Go.RowKit Go.Proofs.YtlpmifofgacgiaaDoorW.PrintWords

/-- The bytes of all responses. -/
def sumO : List Ou → Nat
  | [] => 0
  | x :: l => x.f2.size + sumO l
theorem join_ev (l : List Ou) (conn : Int) (hl : l.length < 4294967296) : ∀ (rest pre : List Ou) (acc : ByteArray) (cl : Bool), l = pre ++ rest → acc.size + sumO rest ≤ 1000000000 →
    ∃ (tx : List UInt8) (c : Bool), joinO conn rest (bytes acc) cl = some (tx, c) ∧ tx.length ≤ acc.size + sumO rest ∧
      ∀ r, Ev (fun k => cloisterref21_Count.l1 k ⟨tx.toArray⟩ c 0) r → Ev (fun k => cloisterref21_Count.l0 k l conn acc cl (pre.length : Int)) r := by
  intro rest
  induction rest with
  | nil =>
    intro pre acc cl hp hb
    rw [List.append_nil] at hp
    refine ⟨bytes acc, cl, rfl, by rw [← size_bytes]; exact Nat.le_add_right _ _, fun r hr => ?_⟩
    rw [mk_bytes] at hr
    refine Ev.step (fun k => by rw [cloisterref21_Count.l0]) ?_
    exact Ev.neg (by rw [hp]; omega) hr
  | cons x rest ih =>
    intro pre acc cl hp hb
    rw [sumO] at hb
    have hlen : l.length = pre.length + (rest.length + 1) := by rw [hp]; simp
    have hel : rd_T70 l (pre.length : Int) = x := by
      simp [rd_T70, List.getD_eq_getElem?_getD, hp]
    have hp2 : l = (pre ++ [x]) ++ rest := by rw [hp]; simp
    have hpl : (pre ++ [x]).length = pre.length + 1 := by simp
    have hsa := size_bytes acc
    have start : ∀ r, Ev (fun k => (if x.f1 = conn then (if acc.size + (x.f2).size ≤ 9223372036854775807 then (if cl = true then (cloisterref21_Count.l0 k l conn (acc ++ (x.f2)) true ((pre.length + 1 : Nat) : Int)) else (cloisterref21_Count.l0 k l conn (acc ++ (x.f2)) (x.f3) ((pre.length + 1 : Nat) : Int))) else (none)) else (cloisterref21_Count.l0 k l conn acc cl ((pre.length + 1 : Nat) : Int)))) r → Ev (fun k => cloisterref21_Count.l0 k l conn acc cl (pre.length : Int)) r := by
      intro r hr
      refine Ev.step (fun k => by rw [cloisterref21_Count.l0]) ?_
      refine Ev.pos (by omega) (Ev.pos (by omega) ?_)
      rw [hel, wr_succ pre.length (by omega)]
      exact hr
    by_cases hc : x.f1 = conn
    · obtain ⟨tx, c, h1, h2, h3⟩ := ih (pre ++ [x]) (acc ++ x.f2) (cl || x.f3) hp2 (by rw [size_bytes, bytes_append, List.length_append, ← size_bytes, ← size_bytes]; omega)
      refine ⟨tx, c, ?_, ?_, fun r hr => start r (Ev.pos hc (Ev.pos (by omega) ?_))⟩
      · rw [joinO, if_pos hc, if_pos (by rw [← hsa]; unfold bigLen; omega)]
        rw [bytes_append] at h1
        exact h1
      · rw [size_bytes (acc ++ x.f2), bytes_append, List.length_append, ← size_bytes, ← size_bytes] at h2
        rw [sumO]
        omega
      · have := h3 r hr
        rw [hpl] at this
        cases cl with
        | true => exact Ev.pos rfl this
        | false => exact Ev.neg (by decide) this
    · obtain ⟨tx, c, h1, h2, h3⟩ := ih (pre ++ [x]) acc cl hp2 (by omega)
      refine ⟨tx, c, ?_, by rw [sumO]; omega, fun r hr => start r (Ev.neg hc ?_)⟩
      · rw [joinO, if_neg hc]
        exact h1
      · have := h3 r hr
        rw [hpl] at this
        exact this
theorem counts_ev (c : Bool) : ∀ (n : Nat) (s : ByteArray) (m : Nat), s.size ≤ n → s.size < 4294967281 → m + n < 8589934592 →
    ∃ z : Int, Ev (fun k => parseN k s (m : Int)) z ∧ Ev (fun k => cloisterref21_Count.l1 k s c (m : Int)) (z, c) := by
  intro n
  induction n using Nat.strongRecOn with
  | _ n ih =>
    intro s m hn hs hm
    obtain ⟨r, h1, h2, h3⟩ := parses_agree s hs
    have hss := size_bytes s
    rcases h3 with ⟨a1, a2, ⟨tail, a3⟩, a4⟩ | rfl
    · have hlen := congrArg List.length a3
      rw [List.length_append] at hlen
      have hpos : 1 ≤ (printR r.1 r.2.1 r.2.2.1 r.2.2.2.1).length := by
        unfold printR headS
        simp only [List.length_append, List.length_cons]
        omega
      have hxs : (s.extract (printR r.1 r.2.1 r.2.2.1 r.2.2.2.1).length s.size).size = s.size - (printR r.1 r.2.1 r.2.2.1 r.2.2.2.1).length := by
        rw [size_bytes, bytes_from, List.length_drop, ← hss]
      obtain ⟨z, k1, k2⟩ := ih (n - 1) (by omega) (s.extract (printR r.1 r.2.1 r.2.2.1 r.2.2.2.1).length s.size) (m + 1) (by omega) (by omega) (by omega)
      have e1 : r.2.2.2.2.1.toNat = (printR r.1 r.2.1 r.2.2.1 r.2.2.2.1).length := by rw [a4, Int.toNat_natCast]
      refine ⟨z, ?_, ?_⟩
      · refine Ev.step (fun k => by rw [parseN]) ?_
        refine Ev.bind h1 (Ev.pos a1 (Ev.pos (by omega) (Ev.pos (by omega) ?_)))
        rw [e1, wr_succ m (by omega)]
        exact k1
      · refine Ev.step (fun k => by rw [cloisterref21_Count.l1]) ?_
        refine Ev.bind h2 (Ev.pos a1 (Ev.pos (by omega) (Ev.pos (by omega) ?_)))
        rw [e1, wr_succ m (by omega)]
        exact k2
    · refine ⟨(m : Int), ?_, ?_⟩
      · refine Ev.step (fun k => by rw [parseN]) ?_
        exact Ev.bind h1 (Ev.neg (by decide) (Ev.now _))
      · refine Ev.step (fun k => by rw [cloisterref21_Count.l1]) ?_
        exact Ev.bind h2 (Ev.neg (by decide) (Ev.now _))
set_option maxRecDepth 100000 in
theorem awake21 : cloisterlaw21_awake.f 40 = some true := by decide +kernel
theorem meterCounts_pure (l : List Ou) (conn : Int) (hl : l.length < 4294967296) (ht : sumO l ≤ 1000000000) : ∃ k, cloisterlaw21_MeterCounts.f k l conn = some true := by
  apply Ev.rounds
  obtain ⟨tx, c, h1, h2, h3⟩ := join_ev l conn hl l [] ⟨#[]⟩ false rfl (by show 0 + _ ≤ _; omega)
  have h2' : tx.length ≤ sumO l := by
    have : (⟨#[]⟩ : ByteArray).size = 0 := rfl
    omega
  have htx := size_mk tx
  obtain ⟨z, k1, k2⟩ := counts_ev c tx.length ⟨tx.toArray⟩ 0 (by omega) (by omega) (by omega)
  have hm : Ev (fun k => meter_Count.f k l conn) (z, c) := by
    unfold meter_Count.f
    refine Ev.bindC h1 (Ev.bind k1 (Ev.now _))
  have hr : Ev (fun k => cloisterref21_Count.f k l conn) (z, c) := h3 _ k2
  unfold cloisterlaw21_MeterCounts.f
  refine Ev.bind hm (Ev.bind hr (Ev.pos rfl (Ev.pos (beq_self_eq_true _) (Ev.bind (Ev.of cloisterlaw21_awake.mono awake21) (Ev.now _)))))
end Go.Proofs.YtlpmifofgacgiaaDoor.Q
namespace Go.Proofs.YtlpmifofgacgiaaDoor.Q
open Go.ChangeShapes Go.WideShapes Go.ChangeAt Go.RowKit Go.Deep
open Go.Proofs.YtlpmifofgacgiaaDoorW.PrintWords

instance : Inhabited Ou := ⟨z70⟩
theorem sum_bulk {H : Type} (X : Nat → Ou) (D : Nat → DataW H) : ∀ L : List Nat, (∀ i ∈ L, (X i).f2.size + 1 ≤ Rows.uptoBulk (D i)) → sumO (L.map X) + L.length ≤ Rows.uptoBulkAll (L.map D) := by
  intro L
  induction L with
  | nil => intro _; simp [sumO]
  | cons i L ih =>
    intro h
    have h0 := h i (by simp)
    have := ih (fun j hj => h j (by simp [hj]))
    simp only [List.map_cons, sumO, Rows.uptoBulkAll, List.length_cons]
    omega
set_option maxRecDepth 100000 in
theorem open_outs {H : Type} {enc : TypeId × Value → H} {W : World} {base : Nat} {v : Value} {d : DataW H} {p : List MemPlace} (hv : Value.okWide Tryd.prog W .any base 34 v)
    (h : DataW.Trod enc Tryd.prog W 0 (fun _ => true) true 34 v d p) :
    ∃ (A : Option Addr) (n c : Nat) (l : List Ou), v = .slice A n c ∧ l.length = n ∧ n ≤ c ∧ Kd.C k70 W A l.length l ∧ True ∧ (∀ x ∈ p, x.block < W.heap.size) ∧ sumO l + l.length ≤ Rows.uptoBulk d := by
  have hlt : ∀ x ∈ p, x.block < W.heap.size := by obtain ⟨m, hm⟩ := h; exact DataW.trod_lt m _ _ _ hm
  obtain ⟨A, n, c, rfl⟩ := okWide_slice Tryd.underlying34 hv
  obtain ⟨fuel, hf⟩ := h
  have hce : Tryd.prog.cellsOf 70 = 4 := by kernel_rfl
  rcases open_slice Tryd.underlying34 hf with ⟨hcs, hx⟩ | ⟨a, len, cap, m, k, D, Pl, hcs, hb, hl, hm, hmm, hx, hall⟩
  · have e : Value.slice A n c = .slice none 0 0 := by simpa [Value.cells] using hcs
    cases e
    exact ⟨none, 0, 0, [], rfl, rfl, Nat.le_refl _, Kd.C_nil _ _, trivial, hlt, by simp [sumO]⟩
  · have e : Value.slice A n c = .slice (some a) len cap := by simpa [Value.cells] using hcs
    cases e
    have hml : n ≤ m := by rw [hmm]; simpa using hl
    rw [hce] at hall
    have each : ∀ i, i < n → ∃ x : Ou, ∃ cs' : List Value, W.cells? 0 (a.add (i * 4)) 4 = some cs' ∧ k70.K W x cs' ∧ x.f2.size + 1 ≤ Rows.uptoBulk (D i) := by
      intro i hi
      obtain ⟨cs', h1, h2⟩ := hall i (by omega)
      obtain ⟨_, hlen, _⟩ := World.cells?_some h1
      obtain ⟨xs, q, hq, hxy, _, hxl, hfl⟩ := DataW.trod_struct Tryd.underlying70 h2
      match xs, hxl, cs', hlen with
      | [y0, y1, y2, y3], _, [v0, v1, v2, v3], _ =>
        have g0 := hfl 0 _ rfl
        have g1 := hfl 1 _ rfl
        have g2 := hfl 2 _ rfl
        have g3 := hfl 3 _ rfl
        have ci : Tryd.prog.cellsOf 3 = 1 := by kernel_rfl
        have cst : Tryd.prog.cellsOf 9 = 1 := by kernel_rfl
        have cb : Tryd.prog.cellsOf 4 = 1 := by kernel_rfl
        simp [ci, cst, cb] at g0 g1 g2 g3
        obtain ⟨z0, e0, d0, w0⟩ := DataW.trod_int Tryd.underlying3 g0
        obtain ⟨z1, e1, d1, w1⟩ := DataW.trod_int Tryd.underlying3 g1
        obtain ⟨z2, e2, d2, w2⟩ := DataW.trod_string Tryd.underlying9 g2
        obtain ⟨z3, e3, d3⟩ := DataW.trod_bool Tryd.underlying4 g3
        simp only [List.cons.injEq, and_true] at e0 e1 e2 e3
        subst e0 e1 e2 e3
        refine ⟨⟨z0, z1, z2, z3⟩, _, h1, k70_mk W ⟨z0, z1, z2, z3⟩, ?_⟩
        have hD : D i = .agg [y0.1, y1.1, y2.1, y3.1] := by
          have := congrArg Prod.fst hxy
          simpa using this
        have hs := size_bytes z2
        have hd2 : y2.1 = .lit (.string (bytes z2)) := (congrArg Prod.fst d2 : _)
        rw [hD]
        simp only [Rows.uptoBulk, Rows.uptoBulkAll, hd2]
        show z2.size + 1 ≤ _
        omega
    obtain ⟨X, hX⟩ := choose_lt each
    have hlen : ((List.range n).map X).length = n := by simp
    have hC : Kd.C k70 W (some a) n ((List.range n).map X) := by
      refine ⟨hlen, by have : c ≤ maxLen := hm; unfold maxLen at this; omega, fun _ => ⟨a, rfl, ?_⟩⟩
      intro j q hq
      have hj : j < n := by
        have := (List.getElem?_eq_some_iff.1 hq).1
        simpa using this
      have hq' : q = X j := by
        rw [List.getElem?_map, List.getElem?_range hj] at hq
        exact (Option.some.inj hq).symm
      subst hq'
      obtain ⟨cs', h1, h2, _⟩ := hX j hj
      obtain ⟨_, hl4, hcell⟩ := World.cells?_some h1
      refine ⟨cs', hl4, h2, fun i u hu => ?_⟩
      have hi : i < 4 := by
        have := (List.getElem?_eq_some_iff.1 hu).1
        omega
      have := hcell i hi
      rw [Go.Deep.add_add] at this
      exact this.trans hu
    refine ⟨some a, n, c, (List.range n).map X, rfl, hlen, hl, by rw [hlen]; exact hC, trivial, hlt, ?_⟩
    have hd : d = .slice ((List.range n).map D) ((List.range (m - n)).map fun j => D (n + j)) := (Prod.mk.inj hx).1
    have := sum_bulk X D (List.range n) (fun i hi => by obtain ⟨_, _, _, hh⟩ := hX i (List.mem_range.1 hi); exact hh)
    rw [hd]
    simp only [Rows.uptoBulk, List.length_map, List.length_range] at this ⊢
    omega
end Go.Proofs.YtlpmifofgacgiaaDoor.Q
