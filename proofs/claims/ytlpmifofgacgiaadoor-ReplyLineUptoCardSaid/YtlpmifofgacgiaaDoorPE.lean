/- Plain: what strconv.Itoa, strconv.Atoi and strings.Trim answer, in the words of the other plain texts. -/
import Derived.Test.YtlpmifofgacgiaaDoorPI
import Derived.Test.YtlpmifofgacgiaaDoorPA
import Derived.Test.YtlpmifofgacgiaaDoorPT
import Derived.Test.YtlpmifofgacgiaaDoorPN
import Derived.Test.YtlpmifofgacgiaaDoorGivenA
namespace Go.Proofs.YtlpmifofgacgiaaDoor.Q
open Go.RowKit Go.Proofs.YtlpmifofgacgiaaDoorW.PrintWords

theorem itoa_ok {n : Int} (h : i64ok n) : strconv_Itoa.f n = some ⟨(itoaL n).toArray⟩ := by unfold strconv_Itoa.f; exact if_pos h
theorem itoaF_length : ∀ (f u : Nat), (itoaF f u).length ≤ f := by
  intro f
  induction f with
  | zero => intro u; simp [itoaF]
  | succ f ih =>
    intro u
    rw [itoaF]
    split
    · simp
    · have := ih (u / 10)
      simp
      omega
theorem itoaL_length {n : Int} (_h : i64ok n) : (itoaL n).length ≤ 21 := by
  unfold itoaL
  split
  · have := itoaF_length 20 n.natAbs
    simp
    omega
  · have := itoaF_length 20 n.toNat
    omega
theorem atoi_ok {s : ByteArray} {v : Int} (hs : s.size ≤ 281474976710656) (h : Lib.atoiAll (bytes s) = .ok v) : strconv_Atoi.f s = some (v, none) := by
  unfold strconv_Atoi.f
  rw [if_pos hs, show Lib.atoiAll s.data.toList = .ok v from h]
theorem atoi_bad {s : ByteArray} (hs : s.size ≤ 281474976710656) (h : ∀ v, Lib.atoiAll (bytes s) ≠ .ok v) : ∃ z, strconv_Atoi.f s = some (z, some 0) := by
  unfold strconv_Atoi.f
  rw [if_pos hs]
  rcases hx : Lib.atoiAll s.data.toList with v | _ | _
  · exact absurd hx (h v)
  · exact ⟨_, rfl⟩
  · exact ⟨_, rfl⟩
theorem blanks_ascii : asciiSet (⟨#[32, 9]⟩ : ByteArray) = true := by decide +kernel
theorem trim_f (s : ByteArray) (hs : s.size ≤ 9223372036854775807) : strings_Trim.f s (⟨#[32, 9]⟩ : ByteArray) = some ⟨(trimW (bytes s)).toArray⟩ := by
  unfold strings_Trim.f
  rw [if_pos ⟨hs, blanks_ascii⟩]
  rfl
theorem itoa_bytes {n : Int} (h : i64ok n) : itoaL n ≠ [] ∧ ∀ b ∈ itoaL n, b.toNat = 45 ∨ (48 ≤ b.toNat ∧ b.toNat ≤ 57) := by
  rw [itoaL_eq h.1 h.2]
  have key : ∀ u : Nat, Lib.decDigits u ≠ [] ∧ ∀ b ∈ Lib.decDigits u, 48 ≤ b.toNat ∧ b.toNat ≤ 57 := by
    intro u
    obtain ⟨_, h2, c, r, h3, _⟩ := decDigits_spells u
    refine ⟨by rw [h3]; simp, fun b hb => ?_⟩
    have := List.all_eq_true.1 h2 b hb
    simpa [dig] using this
  unfold Lib.itoa
  split
  · refine ⟨by simp, fun b hb => ?_⟩
    rcases List.mem_cons.1 hb with rfl | hb
    · exact .inl rfl
    · exact .inr ((key _).2 b hb)
  · exact ⟨(key _).1, fun b hb => .inr ((key _).2 b hb)⟩
theorem size_mk (l : Bs) : (⟨l.toArray⟩ : ByteArray).size = l.length := by rw [size_bytes, bytes_mk l]
end Go.Proofs.YtlpmifofgacgiaaDoor.Q
