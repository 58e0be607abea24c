/- What Go's library answers at the calls of this seat, in the form in which the printed functions ask for it: each contract is one of the shelf's (laid by its numbers in YtlpmifofgacgiaaDoorShelf) turned into '<name>.f' (the answer) and '<name>.calls'. 'TabsOk': what package-level variables of the library hold. -/
import Derived.Test.YtlpmifofgacgiaaDoorShelf
import Derived.Test.YtlpmifofgacgiaaDoorWWords
import Derived.Shelf.Strings.SlTrimAscii
import Derived.Lib.AppendIntMem
import Derived.Lib.AtoiErrMem
import Derived.WalkSmall
import Derived.Lib.SplitLaws
namespace Go.Proofs.YtlpmifofgacgiaaDoor.Q
open Go.RowKit Go.Proofs.YtlpmifofgacgiaaDoorW.PrintWords

/-! ### Package-level variables -/
structure TabsOk (w : World) : Prop where
  maxLen : ∃ m : Int, w.cell? ⟨0, 0, none⟩ = some (.int .i64 m)
  pow10 : Lib.TabIs Tryd.prog w "internal/strconv.uint64pow10" .u64 Lib.pow10Tab
  synt : ∃ tp p, w.var? Tryd.prog "strconv.ErrSyntax" = some #[.iface tp p]
  rang : ∃ tp p, w.var? Tryd.prog "strconv.ErrRange" = some #[.iface tp p]

theorem gPow : Tryd.prog.globalNamed "internal/strconv.uint64pow10" = some 1 := by kernel_rfl
theorem gSyn : Tryd.prog.globalNamed "strconv.ErrSyntax" = some 2 := by kernel_rfl
theorem gRan : Tryd.prog.globalNamed "strconv.ErrRange" = some 3 := by kernel_rfl

theorem var_lt {P : Program} {w : World} {n : String} {g : Nat} {cs : Array Value} (hg : P.globalNamed n = some g) (h : w.var? P n = some cs) : g < w.heap.size := by
  unfold World.var? at h
  rw [hg] at h
  simp only [Option.bind_some] at h
  cases hb : w.heap[g]? with
  | none => rw [hb] at h; cases h
  | some o => exact (Array.getElem?_eq_some_iff.1 hb).1

theorem TabsOk.below {w w' : World} (h : TabsOk w) (hb : Below w.heap.size w w') : TabsOk w' where
  maxLen := by
    obtain ⟨m, hm⟩ := h.maxLen
    exact ⟨m, pw_cell_below hb hm⟩
  pow10 := (Lib.tabBelow_of_tabIs h.pow10) _ hb
  synt := by
    obtain ⟨tp, p, hv⟩ := h.synt
    exact ⟨tp, p, var?_below hb gSyn (var_lt gSyn hv) hv⟩
  rang := by
    obtain ⟨tp, p, hv⟩ := h.rang
    exact ⟨tp, p, var?_below hb gRan (var_lt gRan hv) hv⟩

/-! ### strings.IndexByte -/
def strings_IndexByte.f (s : ByteArray) (c : Int) : Option Int := some (Lib.indexByte s.data.toList c.toNat.toUInt8)
theorem strings_IndexByte.calls (a0 : ByteArray) (a1 : Int) (r : Int) (w : World) (h : strings_IndexByte.f a0 a1 = some r) :
    Calls Tryd.prog 79 #[.string a0, .int .u8 a1] w fun e w' => e = .returned (.int .i64 r) ∧ Below w.heap.size w w' := by
  obtain rfl := Option.some.inj h
  refine (Tryd.strings_IndexByte a0 a1 w).mono ?_
  rintro e w' ⟨rfl, rfl⟩
  exact ⟨rfl, Below.refl _ _⟩

/-! ### strings.Trim, TrimLeft: a cutset of ASCII -/
def asciiSet (c : ByteArray) : Bool := c.data.toList.all (fun b => decide (b.toNat < 128)) && decide (c.size < 4294967281)
theorem asciiSet_at {c : ByteArray} (h : asciiSet c = true) : (∀ (j : Nat) b, c.data.toList[j]? = some b → b.toNat < 128) ∧ c.size < 4294967281 := by
  simp only [asciiSet, Bool.and_eq_true, decide_eq_true_eq] at h
  exact ⟨ascii_of_all h.1, h.2⟩
def strings_Trim.f (s c : ByteArray) : Option ByteArray := if s.size ≤ 9223372036854775807 ∧ asciiSet c = true then some ⟨(Lib.trimS s.data.toList c.data.toList).toArray⟩ else none
theorem strings_Trim.calls (a0 a1 : ByteArray) (r : ByteArray) (w : World) (h : strings_Trim.f a0 a1 = some r) :
    Calls Tryd.prog 50 #[.string a0, .string a1] w fun e w' => e = .returned (.string r) ∧ Below w.heap.size w w' := by
  unfold strings_Trim.f at h
  split at h
  · rename_i hc
    obtain rfl := Option.some.inj h
    exact Any.strings_Trim_laid Tryd.lays160 (by kernel_rfl) a0 a1 w hc.1 (asciiSet_at hc.2).2 (asciiSet_at hc.2).1
  · cases h
def strings_TrimLeft.f (s c : ByteArray) : Option ByteArray := if asciiSet c = true then some ⟨(Lib.trimLeftS s.data.toList c.data.toList).toArray⟩ else none
theorem strings_TrimLeft.calls (a0 a1 : ByteArray) (r : ByteArray) (w : World) (h : strings_TrimLeft.f a0 a1 = some r) :
    Calls Tryd.prog 49 #[.string a0, .string a1] w fun e w' => e = .returned (.string r) ∧ Below w.heap.size w w' := by
  unfold strings_TrimLeft.f at h
  split at h
  · rename_i hc
    obtain rfl := Option.some.inj h
    exact Any.strings_TrimLeft_laid Tryd.lays161 (by kernel_rfl) a0 a1 w (asciiSet_at hc).2 (asciiSet_at hc).1
  · cases h

/-! ### strings.Cut -/
def strings_Cut.f (s sep : ByteArray) : Option (ByteArray × ByteArray × Bool) := if s.size < 4294967281 then some (⟨(Lib.cut s.data.toList sep.data.toList).1.toArray⟩, ⟨(Lib.cut s.data.toList sep.data.toList).2.1.toArray⟩, (Lib.cut s.data.toList sep.data.toList).2.2) else none
theorem strings_Cut.calls (a0 a1 : ByteArray) (r1 r2 : ByteArray) (r3 : Bool) (w : World) (hG : TabsOk w) (h : strings_Cut.f a0 a1 = some (r1, r2, r3)) :
    Calls Tryd.prog 48 #[.string a0, .string a1] w fun e w' => e = .returned (.tuple #[.string r1, .string r2, .bool r3]) ∧ Below w.heap.size w w' := by
  unfold strings_Cut.f at h
  split at h
  · rename_i hc
    simp only [Option.some.injEq, Prod.mk.injEq] at h
    obtain ⟨rfl, rfl, rfl⟩ := h
    obtain ⟨m, hm⟩ := hG.maxLen
    refine (Tryd.strings_Cut a0 a1 m w hc hm).mono ?_
    rintro e w' ⟨rfl, n, rfl⟩
    exact ⟨rfl, pw_below_drewN (Below.refl _ _) n⟩
  · cases h

/-! ### strings.Split, SplitN -/
theorem strings_row {w : World} (cs : Array Value) (t : TypeId) (l : List ByteArray) (hm : cs.size ≤ maxLen) (hl : cs.toList.take l.length = l.map Value.string) (hle : l.length ≤ cs.size) :
    Kd.R Kd.string t (w.alloc (.cells cs t)) w.heap.size (fun _ => True) (.slice (some ⟨w.heap.size, 0, none⟩) l.length cs.size) l := by
  refine ⟨fun _ _ => trivial, l.map Value.string, ⟨by show _ = l.length * 1; simp, .inr ⟨w.heap.size, cs.size, cs, rfl, Nat.le_refl _, heap_alloc_new w _, hle, hm, by show _ = _ * 1; omega, by show List.take (l.length * 1) _ = _; rw [Nat.mul_one]; exact hl⟩⟩, ?_⟩
  refine ⟨by show _ = l.length * 1; simp, fun j p hp => ?_⟩
  show List.take 1 (List.drop (j * 1) (l.map Value.string)) = [Value.string p]
  obtain ⟨hj, rfl⟩ := List.getElem?_eq_some_iff.1 hp
  rw [Nat.mul_one, List.drop_eq_getElem_cons (by simpa using hj), List.take_succ_cons, List.take_zero, List.getElem_map]
def strings_Split.f (s sep : ByteArray) : Option (List ByteArray) := if s.size < 4294967281 ∧ 1 ≤ sep.size then some (Lib.splitB sep 0 (Lib.countB s sep) s) else none
theorem strings_Split.calls (a0 a1 : ByteArray) (r : List ByteArray) (w : World) (hG : TabsOk w) (h : strings_Split.f a0 a1 = some r) :
    Calls Tryd.prog 47 #[.string a0, .string a1] w fun e w' => ∃ v0_ : Value, e = .returned (v0_) ∧ Kd.R Kd.string 9 w' w.heap.size (fun _ => True) v0_ r ∧ Below w.heap.size w w' := by
  unfold strings_Split.f at h
  split at h
  · rename_i hc
    obtain rfl := Option.some.inj h
    obtain ⟨m, hm⟩ := hG.maxLen
    refine (Tryd.strings_Split a0 a1 m w hc.1 hm hc.2).mono ?_
    rintro e w' ⟨rfl, rfl⟩
    have hlen := Lib.splitB_all a1 hc.2 0 _ a0 rfl
    have hb := Lib.countB_le a1 hc.2 _ a0 (Nat.le_refl _)
    refine ⟨_, rfl, ?_, (Below.refl _ _).alloc (Nat.le_refl _) _⟩
    have := strings_row (w := w) ((Lib.splitB a1 0 (Lib.countB a0 a1) a0).map Value.string).toArray 9 (Lib.splitB a1 0 (Lib.countB a0 a1) a0) (by simp only [List.size_toArray, List.length_map, maxLen]; omega) (by rw [List.take_of_length_le (by simp)]) (by simp)
    simp only [List.size_toArray, List.length_map, hlen] at this
    exact this
  · cases h
def strings_SplitN.f (s sep : ByteArray) (n : Int) : Option (List ByteArray) := if s.size < 4294967281 ∧ 1 ≤ sep.size ∧ 1 ≤ n ∧ n ≤ 65536 then some (Lib.splitB sep 0 (min n.toNat (s.size + 1) - 1) s) else none
theorem strings_SplitN.calls (a0 a1 : ByteArray) (a2 : Int) (r : List ByteArray) (w : World) (hG : TabsOk w) (h : strings_SplitN.f a0 a1 a2 = some r) :
    Calls Tryd.prog 59 #[.string a0, .string a1, .int .i64 a2] w fun e w' => ∃ v0_ : Value, e = .returned (v0_) ∧ Kd.R Kd.string 9 w' w.heap.size (fun _ => True) v0_ r ∧ Below w.heap.size w w' := by
  unfold strings_SplitN.f at h
  split at h
  · rename_i hc
    obtain rfl := Option.some.inj h
    obtain ⟨m, hm⟩ := hG.maxLen
    obtain ⟨n, rfl⟩ := Int.eq_ofNat_of_zero_le (show 0 ≤ a2 by omega)
    refine (Tryd.strings_SplitN a0 a1 n m w hc.1 hm hc.2.1 (by omega) (by omega)).mono ?_
    rintro e w' ⟨rfl, rfl⟩
    have hle := Lib.splitB_length_le a1 0 (min n (a0.size + 1) - 1) a0
    rw [show (n : Int).toNat = n from rfl]
    generalize Lib.splitB a1 0 (min n (a0.size + 1) - 1) a0 = L at *
    have hle2 : L.length ≤ min n (a0.size + 1) := by omega
    have hsz := Lib.cellsOf_size hle2
    refine ⟨_, rfl, ?_, (Below.refl _ _).alloc (Nat.le_refl _) _⟩
    have := strings_row (w := w) (Lib.cellsOf L (min n (a0.size + 1))) 9 L (by rw [hsz]; simp only [maxLen]; omega) (by simp [Lib.cellsOf]) (by rw [hsz]; exact hle2)
    rw [hsz] at this
    exact this
  · cases h

/-! ### strconv.Itoa -/
def itoaF : Nat → Nat → List UInt8
  | 0, _ => []
  | f + 1, u => if u < 10 then [UInt8.ofNat (48 + u)] else itoaF f (u / 10) ++ [UInt8.ofNat (48 + u % 10)]
theorem itoaF_eq : ∀ (f u : Nat), u < f → itoaF f u = Lib.decDigits u := by
  intro f
  induction f with
  | zero => intro u h; omega
  | succ f ih =>
    intro u h
    rw [itoaF, Lib.decDigits]
    by_cases h1 : u < 10
    · rw [if_pos h1, dif_pos h1]
    · rw [if_neg h1, dif_neg h1, ih _ (by omega)]
theorem itoaF_eq20 : ∀ (f u : Nat), u < 10 ^ f → 1 ≤ f → itoaF f u = Lib.decDigits u := by
  intro f
  induction f with
  | zero => intro u h h0; omega
  | succ f ih =>
    intro u h _
    rw [itoaF, Lib.decDigits]
    by_cases h1 : u < 10
    · rw [if_pos h1, dif_pos h1]
    · rw [if_neg h1, dif_neg h1]
      rcases Nat.eq_zero_or_pos f with h2 | h2
      · subst h2; omega
      · rw [ih _ (by rw [Nat.pow_succ] at h; omega) h2]
def itoaL (n : Int) : List UInt8 := if n < 0 then 45 :: itoaF 20 n.natAbs else itoaF 20 n.toNat
theorem itoaL_eq {n : Int} (h0 : -9223372036854775808 ≤ n) (h1 : n ≤ 9223372036854775807) : itoaL n = Lib.itoa n := by
  unfold itoaL Lib.itoa
  rw [itoaF_eq20 20 _ (by omega) (by omega), itoaF_eq20 20 _ (by omega) (by omega)]
def strconv_Itoa.f (n : Int) : Option ByteArray := if -9223372036854775808 ≤ n ∧ n ≤ 9223372036854775807 then some ⟨(itoaL n).toArray⟩ else none
theorem strconv_Itoa.calls (a0 : Int) (r : ByteArray) (w : World) (hG : TabsOk w) (h : strconv_Itoa.f a0 = some r) :
    Calls Tryd.prog 30 #[.int .i64 a0] w fun e w' => e = .returned (.string r) ∧ Below w.heap.size w w' := by
  unfold strconv_Itoa.f at h
  split at h
  · rename_i hc
    obtain rfl := Option.some.inj h
    rw [itoaL_eq hc.1 hc.2]
    refine (Tryd.strconv_Itoa a0 hc.1 hc.2 w hG.pow10).mono ?_
    rintro e w' ⟨rfl, k, os, rfl⟩
    exact ⟨rfl, Lib.below_grow _ _ (Nat.le_refl _) _ _⟩
  · cases h

/-! ### strconv.Atoi: the error is a pointer -/
def errP (N : Nat) : Option Int → Value
  | none => .nilIface
  | some _ => .iface 140 (.pointer (some ⟨N, 0, none⟩))
theorem errP_none (N : Nat) : errP N none = .nilIface := rfl
theorem errP_some (N : Nat) (c : Int) : errP N (some c) = .iface 140 (.pointer (some ⟨N, 0, none⟩)) := rfl
def strconv_Atoi.f (s : ByteArray) : Option (Int × Option Int) := if s.size ≤ 281474976710656 then
    (match Lib.atoiAll s.data.toList with
    | .ok v => some (v, none)
    | .range => some (Lib.atoiSat s.data.toList, some 0)
    | _ => some (0, some 0)) else none
theorem strconv_Atoi.calls (a0 : ByteArray) (r1 : Int) (r2 : Option Int) (w : World) (hG : TabsOk w) (h : strconv_Atoi.f a0 = some (r1, r2)) :
    Calls Tryd.prog 60 #[.string a0] w fun e w' => ∃ N : Nat, e = .returned (.tuple #[.int .i64 r1, errP N r2]) ∧ Below w.heap.size w w' := by
  unfold strconv_Atoi.f at h
  split at h
  · rename_i hc
    split at h
    · rename_i v hv
      simp only [Option.some.injEq, Prod.mk.injEq] at h
      obtain ⟨rfl, rfl⟩ := h
      refine (Tryd.strconv_Atoi_ok a0 (by omega) v hv w).mono ?_
      rintro e w' ⟨rfl, hw⟩
      refine ⟨0, rfl, ?_⟩
      rcases hw with rfl | ⟨t, rfl⟩
      · exact Below.refl _ _
      · exact Lib.bytesWorld_below _ _ _
    · rename_i hv
      simp only [Option.some.injEq, Prod.mk.injEq] at h
      obtain ⟨rfl, rfl⟩ := h
      obtain ⟨tp, p, hs⟩ := hG.rang
      refine (Tryd.strconv_Atoi_range_var a0 hc hv tp p w hs).mono ?_
      rintro e w' ⟨N, rfl, _, _, hb⟩
      exact ⟨N, rfl, hb⟩
    · rename_i hv1 hv2
      have hv : Lib.atoiAll a0.data.toList = Lib.atoiAll [] := by
        rcases hx : Lib.atoiAll a0.data.toList with v | _ | _
        · exact absurd hx (hv1 v)
        · decide
        · exact absurd hx hv2
      simp only [Option.some.injEq, Prod.mk.injEq] at h
      obtain ⟨rfl, rfl⟩ := h
      obtain ⟨tp, p, hs⟩ := hG.synt
      refine (Tryd.strconv_Atoi_syntax_var a0 hc hv tp p w hs).mono ?_
      rintro e w' ⟨N, rfl, _, _, hb⟩
      exact ⟨N, rfl, hb⟩
  · cases h
end Go.Proofs.YtlpmifofgacgiaaDoor.Q
