/- Plain lemmas on bytes and lists, rounds and numbers: no program in sight. -/
import Derived.Test.YtlpmifofgacgiaaDoorWWords
import Derived.Lib.SplitLaws
import Derived.Lib.CutLaws
import Derived.Lib.SlTrimSet
namespace Go.Proofs.YtlpmifofgacgiaaDoor.Q
open Go.RowKit Go.Proofs.YtlpmifofgacgiaaDoorW.PrintWords

abbrev Bs := List UInt8
def bytes (s : ByteArray) : Bs := s.data.toList
theorem bytes_mk (l : Bs) : bytes ⟨l.toArray⟩ = l := rfl
theorem mk_bytes (s : ByteArray) : (⟨(bytes s).toArray⟩ : ByteArray) = s := Lib.mk_data s
theorem bytes_inj {s t : ByteArray} (h : bytes s = bytes t) : s = t := by rw [← mk_bytes s, h, mk_bytes]
theorem toList_bytes (s : ByteArray) : s.toList = bytes s := Lib.toList_data s
theorem size_bytes (s : ByteArray) : s.size = (bytes s).length := Lib.size_eq s
theorem bytes_append (s t : ByteArray) : bytes (s ++ t) = bytes s ++ bytes t := by simp [bytes, ByteArray.data_append]
theorem bytes_extract (s : ByteArray) (a b : Nat) : bytes (s.extract a b) = ((bytes s).drop a).take (b - a) := Lib.extract_data s a b
theorem bytes_from (s : ByteArray) (a : Nat) : bytes (s.extract a s.size) = (bytes s).drop a := by
  rw [bytes_extract, List.take_of_length_le (by rw [List.length_drop, size_bytes]; omega)]
theorem bytes_upto (s : ByteArray) (b : Nat) : bytes (s.extract 0 b) = (bytes s).take b := by rw [bytes_extract]; simp
theorem bytes_sub (s : ByteArray) (a b : Nat) (_h : a ≤ b) : bytes (s.extract a b) = ((bytes s).take b).drop a := by rw [bytes_extract, List.drop_take]

theorem bt_nat (s : ByteArray) (i : Nat) (h : i < (bytes s).length) : bt s (i : Int) = ((bytes s)[i].toNat : Int) := by
  have h' : ((i : Int)).toNat < s.size := by rw [size_bytes]; simpa using h
  unfold bt
  rw [dif_pos h']
  simp only [Int.toNat_natCast]
  rfl
theorem bt_mid {s : ByteArray} {pre rest : Bs} {c : UInt8} (h : bytes s = pre ++ c :: rest) : bt s (pre.length : Int) = (c.toNat : Int) := by
  have hl : pre.length < (bytes s).length := by rw [h]; simp
  rw [bt_nat s _ hl]
  congr 2
  have : (bytes s)[pre.length]? = some c := by rw [h]; simp
  exact (List.getElem?_eq_some_iff.1 this).2
theorem u8_eq {a b : UInt8} (h : a.toNat = b.toNat) : a = b := UInt8.toNat_inj.1 h
theorem u8_int {a : UInt8} {n : Nat} (hn : n < 256) : ((a.toNat : Int) = (n : Int)) ↔ a = UInt8.ofNat n := by
  constructor
  · intro h
    refine u8_eq ?_
    rw [UInt8.toNat_ofNat']
    omega
  · rintro rfl
    rw [UInt8.toNat_ofNat']
    omega

/-! ### numbers -/
theorem wr_add (n m : Nat) (h : n + m ≤ 9223372036854775807) : wrap64 ((n : Int) + (m : Int)) = ((n + m : Nat) : Int) := by unfold wrap64; omega
theorem wr_succ (n : Nat) (h : n < 9223372036854775807) : wrap64 ((n : Int) + 1) = ((n + 1 : Nat) : Int) := by unfold wrap64; omega
theorem wr_pred (n : Nat) (h : n < 9223372036854775807) : wrap64 (((n + 1 : Nat) : Int) - 1) = (n : Int) := by unfold wrap64; omega
theorem wr_id {z : Int} (h0 : -9223372036854775808 ≤ z) (h1 : z ≤ 9223372036854775807) : wrap64 z = z := by unfold wrap64; omega

/-! ### rounds -/
theorem Ev.pos {α : Type} {c : Prop} [Decidable c] {a b : Nat → Option α} {r : α} (hc : c) (h : Ev a r) : Ev (fun k => if c then a k else b k) r := Ev.congr (fun _ => if_pos hc) h
theorem Ev.neg {α : Type} {c : Prop} [Decidable c] {a b : Nat → Option α} {r : α} (hc : ¬ c) (h : Ev b r) : Ev (fun k => if c then a k else b k) r := Ev.congr (fun _ => if_neg hc) h
theorem Ev.const {α : Type} {g : Nat → Option α} {r : α} (h : ∀ k, g k = some r) : Ev g r := ⟨0, fun k _ => h k⟩
theorem Ev.from1 {α : Type} {g : Nat → Option α} {r : α} (h : ∀ k, g (k + 1) = some r) : Ev g r := Ev.step h (Ev.now r)
theorem Ev.bindC {α β : Type} {g : Option α} {f : Nat → α → Option β} {a : α} {r : β} (h : g = some a) (k : Ev (fun n => f n a) r) : Ev (fun n => g.bind (f n)) r := by
  subst h
  exact k
theorem Ev.unique {α : Type} {g : Nat → Option α} {r q : α} (h : Ev g r) (k : Ev g q) : r = q := by
  obtain ⟨K, h⟩ := h
  obtain ⟨K', k⟩ := k
  have h1 := h (max K K') (Nat.le_max_left _ _)
  have h2 := k (max K K') (Nat.le_max_right _ _)
  rw [h1] at h2
  exact Option.some.inj h2
end Go.Proofs.YtlpmifofgacgiaaDoor.Q
