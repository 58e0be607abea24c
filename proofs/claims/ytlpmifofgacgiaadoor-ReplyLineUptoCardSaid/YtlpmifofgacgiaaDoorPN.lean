/- Numerals: the decimal digits of a number and the number of decimal digits (plain Lean, no program). -/
import Derived.Lib.AtoiAllCases
import Derived.Lib.ItoaNum
namespace Go.Proofs.YtlpmifofgacgiaaDoor.Q

def dig (c : UInt8) : Bool := decide (48 ≤ c.toNat ∧ c.toNat ≤ 57)
def step10 (m : Nat) (c : UInt8) : Nat := 10 * m + (c.toNat - 48)
def valD (m : Nat) (l : List UInt8) : Nat := l.foldl step10 m
theorem valD_cons (m : Nat) (c : UInt8) (r : List UInt8) : valD m (c :: r) = valD (10 * m + (c.toNat - 48)) r := by unfold valD; rw [List.foldl_cons, step10]
theorem valD_nil (m : Nat) : valD m [] = m := by unfold valD; rw [List.foldl_nil]
theorem valD_le (l : List UInt8) : ∀ m, m ≤ valD m l := by
  induction l with
  | nil => intro m; rw [valD_nil]; exact Nat.le_refl _
  | cons c r ih => intro m; have := ih (10 * m + (c.toNat - 48)); rw [valD_cons]; omega
theorem valD_append (a b : List UInt8) (m : Nat) : valD m (a ++ b) = valD (valD m a) b := by unfold valD; rw [List.foldl_append]
theorem dig_of {u : Nat} (h : u < 10) : (UInt8.ofNat (48 + u)).toNat = 48 + u := by simp; omega
/-- The digits spell the number; they are digits; the first is no '0' unless the number is 0. -/
theorem decDigits_spells : ∀ u : Nat, valD 0 (Lib.decDigits u) = u ∧ (Lib.decDigits u).all dig = true ∧ ∃ c r, Lib.decDigits u = c :: r ∧ (c.toNat = 48 → u = 0 ∧ r = []) := by
  intro u
  induction u using Nat.strongRecOn with
  | _ u ih =>
    rw [Lib.decDigits]
    by_cases h : u < 10
    · rw [dif_pos h]
      have e := dig_of h
      refine ⟨?_, ?_, _, [], rfl, fun h0 => ⟨?_, rfl⟩⟩
      · rw [valD_cons, valD_nil, e]; omega
      · simp only [List.all_cons, List.all_nil, Bool.and_true, dig, e]; exact decide_eq_true (by omega)
      · rw [e] at h0; omega
    · rw [dif_neg h]
      obtain ⟨h1, h2, c, r, h3, h4⟩ := ih (u / 10) (by omega)
      have e := dig_of (Nat.mod_lt u (by omega) : u % 10 < 10)
      refine ⟨?_, ?_, c, r ++ [UInt8.ofNat (48 + u % 10)], by rw [h3]; rfl, fun h0 => ?_⟩
      · rw [valD_append, h1, valD_cons, valD_nil, e]; omega
      · rw [List.all_append, h2]
        simp only [List.all_cons, List.all_nil, Bool.and_true, Bool.true_and, dig, e]; exact decide_eq_true (by omega)
      · have := (h4 h0).1; omega
/-- Digits without a needless '0' ahead are the digits of the number that they spell. -/
theorem decDigits_of : ∀ (n : Nat) (l : List UInt8), l.length = n + 1 → l.all dig = true → (∀ c r, l = c :: r → c.toNat = 48 → r = []) → Lib.decDigits (valD 0 l) = l := by
  intro n
  induction n with
  | zero =>
    intro l hl ha _
    match l, hl with
    | [c], _ =>
      simp only [List.all_cons, List.all_nil, Bool.and_true, dig, decide_eq_true_eq] at ha
      have e : valD 0 [c] = c.toNat - 48 := by rw [valD_cons, valD_nil]; omega
      rw [e, Lib.decDigits, dif_pos (by omega)]
      have : 48 + (c.toNat - 48) = c.toNat := by omega
      rw [this, UInt8.ofNat_toNat]
  | succ n ih =>
    intro l hl ha h0
    have hne : l ≠ [] := by intro e; rw [e] at hl; cases hl
    obtain ⟨l', c, rfl⟩ : ∃ l' c, l = l' ++ [c] := ⟨l.dropLast, l.getLast hne, (List.dropLast_concat_getLast hne).symm⟩
    rw [List.length_append] at hl
    simp only [List.length_cons, List.length_nil] at hl
    rw [List.all_append, Bool.and_eq_true] at ha
    obtain ⟨ha1, ha2⟩ := ha
    simp only [List.all_cons, List.all_nil, Bool.and_true, dig, decide_eq_true_eq] at ha2
    have hl' : l'.length = n + 1 := by omega
    obtain ⟨d, r, rfl⟩ : ∃ d r, l' = d :: r := by cases l' with
      | nil => cases hl'
      | cons d r => exact ⟨d, r, rfl⟩
    have hd : d.toNat ≠ 48 := fun e => by have := h0 d (r ++ [c]) rfl e; simp at this
    have hd1 : dig d = true := by simp only [List.all_cons, Bool.and_eq_true] at ha1; exact ha1.1
    simp only [dig, decide_eq_true_eq] at hd1
    have ihl := ih (d :: r) hl' ha1 (fun c' r' e h => by cases e; exact absurd h hd)
    have hv : 1 ≤ valD 0 (d :: r) := by
      have := valD_le r (10 * 0 + (d.toNat - 48))
      rw [valD_cons]; omega
    rw [valD_append]
    generalize hV : valD 0 (d :: r) = V at *
    have e : valD V [c] = 10 * V + (c.toNat - 48) := by rw [valD_cons, valD_nil]
    rw [e, Lib.decDigits, dif_neg (by omega)]
    have e1 : (10 * V + (c.toNat - 48)) / 10 = V := by omega
    have e2 : 48 + (10 * V + (c.toNat - 48)) % 10 = c.toNat := by omega
    rw [e1, e2, ihl, UInt8.ofNat_toNat]

/-- A whole number's text, without a needless '0', '-' or '+': the number. -/
def canonD (l : List UInt8) : Prop := l ≠ [] ∧ l.all dig = true ∧ ∀ c r, l = c :: r → c.toNat = 48 → r = []
theorem canonD_iff (l : List UInt8) : canonD l ↔ l = Lib.decDigits (valD 0 l) := by
  constructor
  · rintro ⟨h1, h2, h3⟩
    exact (decDigits_of (l.length - 1) l (by have := List.length_pos_iff.2 h1; omega) h2 h3).symm
  · intro h
    obtain ⟨_, h2, c, r, h3, h4⟩ := decDigits_spells (valD 0 l)
    rw [← h] at h2 h3
    exact ⟨by rw [h3]; simp, h2, fun c' r' e h0 => by rw [h3] at e; cases e; exact (h4 h0).2⟩

/-! ### strconv's reading -/
theorem parse_digits : ∀ (l : List UInt8) (m : Nat), l.all dig = true → valD m l < 18446744073709551616 → Lib.parseUint10 m l = .ok (valD m l) := by
  intro l
  induction l with
  | nil => intro m _ _; rw [valD_nil]; rfl
  | cons c r ih =>
    intro m ha hv
    simp only [List.all_cons, Bool.and_eq_true, dig, decide_eq_true_eq] at ha
    rw [valD_cons] at hv
    have hm := valD_le r (10 * m + (c.toNat - 48))
    rw [Lib.parseUint10, if_pos ha.1, if_neg (by omega), if_neg (by omega)]
    have e : m * 10 + (c.toNat - 48) = 10 * m + (c.toNat - 48) := by omega
    rw [e, ih _ ha.2 hv, valD_cons]
theorem atoi_itoa {n : Int} (h0 : -9223372036854775808 ≤ n) (h1 : n ≤ 9223372036854775807) : Lib.atoiAll (Lib.itoa n) = .ok n := by
  unfold Lib.itoa
  by_cases hn : n < 0
  · rw [if_pos hn, Lib.atoiAll_minus]
    obtain ⟨a1, a2, c, r, a3, _⟩ := decDigits_spells n.natAbs
    have : Lib.parseMag (Lib.decDigits n.natAbs) = .ok n.natAbs := by
      unfold Lib.parseMag
      rw [if_neg (by rw [a3]; simp), parse_digits _ 0 a2 (by rw [a1]; omega), a1]
    rw [this]
    simp only [Lib.signed]
    rw [if_neg (by omega)]
    congr 1
    omega
  · rw [if_neg hn]
    obtain ⟨a1, a2, c, r, a3, _⟩ := decDigits_spells n.toNat
    have hm : Lib.parseMag (Lib.decDigits n.toNat) = .ok n.toNat := by
      unfold Lib.parseMag
      rw [if_neg (by rw [a3]; simp), parse_digits _ 0 a2 (by rw [a1]; omega), a1]
    have hc : 48 ≤ c.toNat ∧ c.toNat ≤ 57 := by
      rw [a3] at a2
      simp only [List.all_cons, Bool.and_eq_true, dig, decide_eq_true_eq] at a2
      exact a2.1
    rw [a3] at hm ⊢
    rw [Lib.atoiAll_plain c r (by omega) (by omega), hm]
    simp only [Lib.signless]
    rw [if_neg (by omega)]
    congr 1
    omega

/-! ### the reference's reading: digits from the left, the negative of the number -/
def accR (m : Nat) : List UInt8 → Option Nat
  | [] => some m
  | c :: r => if dig c = true ∧ 10 * m + (c.toNat - 48) ≤ 9223372036854775808 then accR (10 * m + (c.toNat - 48)) r else none
theorem accR_iff : ∀ (l : List UInt8) (m v : Nat), m ≤ 9223372036854775808 → (accR m l = some v ↔ l.all dig = true ∧ valD m l = v ∧ v ≤ 9223372036854775808) := by
  intro l
  induction l with
  | nil =>
    intro m v hm
    rw [valD_nil]
    simp only [accR, Option.some.injEq, List.all_nil, true_and]
    constructor
    · intro h; subst h; exact ⟨rfl, hm⟩
    · intro h; exact h.1
  | cons c r ih =>
    intro m v hm
    rw [valD_cons]
    simp only [accR, List.all_cons, Bool.and_eq_true]
    have hle := valD_le r (10 * m + (c.toNat - 48))
    by_cases h : dig c = true ∧ 10 * m + (c.toNat - 48) ≤ 9223372036854775808
    · rw [if_pos h, ih _ v h.2]
      simp [h.1]
    · rw [if_neg h]
      constructor
      · intro e; cases e
      · rintro ⟨⟨h1, _⟩, h2, h3⟩
        exact absurd ⟨h1, by omega⟩ h
def numR (t : List UInt8) : Option Int :=
  match t with
  | [] => none
  | c :: r =>
    if c.toNat = 45 ∧ r ≠ [] then
      (match r with
       | [] => none
       | d :: _ => if d.toNat = 48 then none else (accR 0 r).map fun (m : Nat) => -(m : Int))
    else if c.toNat = 48 ∧ r ≠ [] then none
    else match accR 0 (c :: r) with
      | some m => if m = 9223372036854775808 then none else some (m : Int)
      | none => none
theorem numR_iff (t : List UInt8) (v : Int) : numR t = some v ↔ -9223372036854775808 ≤ v ∧ v ≤ 9223372036854775807 ∧ Lib.itoa v = t := by
  constructor
  · intro h
    match t, h with
    | c :: r, h =>
      unfold numR at h
      simp only at h
      split at h
      · rename_i hc
        match r, h, hc with
        | d :: q, h, hc =>
          simp only at h
          split at h
          · cases h
          · rename_i hd
            obtain ⟨m, hm, hv⟩ := Option.map_eq_some_iff.1 h
            obtain ⟨a1, a2, a3⟩ := (accR_iff _ 0 m (by omega)).1 hm
            have hcan : canonD (d :: q) := ⟨by simp, a1, fun c' r' e h0 => by cases e; exact absurd h0 hd⟩
            have hdec := (canonD_iff _).1 hcan
            rw [a2] at hdec
            have hm0 : m ≠ 0 := by
              intro e
              subst e
              rw [Lib.decDigits, dif_pos (by omega)] at hdec
              simp only [List.cons.injEq] at hdec
              exact hd (by rw [hdec.1]; rfl)
            subst hv
            refine ⟨by omega, by omega, ?_⟩
            unfold Lib.itoa
            rw [if_pos (by omega), show ((-(m : Int)).natAbs) = m by omega, ← hdec]
            congr 1
            exact (UInt8.toNat_inj.1 (hc.1 : c.toNat = (45 : UInt8).toNat)).symm
      · rename_i hc
        split at h
        · cases h
        · rename_i h48
          split at h
          · rename_i m hm
            split at h
            · cases h
            · rename_i hbig
              cases h
              obtain ⟨a1, a2, a3⟩ := (accR_iff _ 0 m (by omega)).1 hm
              have hcan : canonD (c :: r) := ⟨by simp, a1, fun c' r' e h0 => by cases e; exact Decidable.byContradiction fun hr => h48 ⟨h0, hr⟩⟩
              have hdec := (canonD_iff _).1 hcan
              rw [a2] at hdec
              refine ⟨by omega, by omega, ?_⟩
              unfold Lib.itoa
              rw [if_neg (by omega), show ((m : Int)).toNat = m by omega, ← hdec]
          · cases h
  · rintro ⟨h0, h1, rfl⟩
    unfold Lib.itoa
    by_cases hn : v < 0
    · rw [if_pos hn]
      obtain ⟨a1, a2, c, r, a3, a4⟩ := decDigits_spells v.natAbs
      unfold numR
      simp only
      rw [if_pos ⟨by rfl, by rw [a3]; simp⟩]
      have hacc : accR 0 (Lib.decDigits v.natAbs) = some v.natAbs := (accR_iff _ 0 _ (by omega)).2 ⟨a2, a1, by omega⟩
      rw [a3] at hacc ⊢
      simp only
      rw [if_neg (fun e => by have := (a4 e).1; omega), hacc]
      simp only [Option.map_some, Option.some.injEq]
      omega
    · rw [if_neg hn]
      obtain ⟨a1, a2, c, r, a3, a4⟩ := decDigits_spells v.toNat
      have hacc : accR 0 (Lib.decDigits v.toNat) = some v.toNat := (accR_iff _ 0 _ (by omega)).2 ⟨a2, a1, by omega⟩
      rw [a3] at hacc a2 ⊢
      have hc : 48 ≤ c.toNat ∧ c.toNat ≤ 57 := by
        simp only [List.all_cons, Bool.and_eq_true, dig, decide_eq_true_eq] at a2
        exact a2.1
      unfold numR
      simp only
      rw [if_neg (fun e => by have := e.1; omega), if_neg (fun e => e.2 (a4 e.1).2), hacc]
      simp only
      rw [if_neg (by omega)]
      congr 1
      omega
end Go.Proofs.YtlpmifofgacgiaaDoor.Q
