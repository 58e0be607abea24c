/- The plain law of one line's reading: code.read and the reference's one, Number, Trim (no program). -/
import Derived.Test.YtlpmifofgacgiaaDoorPT
import Derived.Test.YtlpmifofgacgiaaDoorPN
import Derived.Test.YtlpmifofgacgiaaDoorPC
import Derived.Test.YtlpmifofgacgiaaDoorQ11
import Derived.Test.YtlpmifofgacgiaaDoorQ19
import Derived.Test.YtlpmifofgacgiaaDoorQ21
import Derived.Test.YtlpmifofgacgiaaDoorQ22
namespace Go.Proofs.YtlpmifofgacgiaaDoor.Q
open Go.RowKit Go.Proofs.YtlpmifofgacgiaaDoorW.PrintWords

/-! ### bytes that are read -/
theorem bt_is {s : ByteArray} {i : Nat} (h : i < (bytes s).length) {n : Nat} (hn : n < 256) : bt s (i : Int) = (n : Int) ↔ (bytes s)[i] = UInt8.ofNat n := by
  rw [bt_nat s i h]
  exact u8_int hn
theorem blank_bt {s : ByteArray} {i : Nat} (h : i < (bytes s).length) : blank (bytes s)[i] = true ↔ bt s (i : Int) = 32 ∨ bt s (i : Int) = 9 := by
  rw [show ((32 : Int) = ((32 : Nat) : Int)) from rfl, show ((9 : Int) = ((9 : Nat) : Int)) from rfl, bt_is h (by omega), bt_is h (by omega)]
  unfold blank
  rw [Bool.or_eq_true, beq_iff_eq, beq_iff_eq]
  exact Iff.rfl
theorem Ev.blank {α : Type} {s : ByteArray} {i : Nat} {A B : Nat → Option α} {r : α} (h : i < (bytes s).length) (hb : blank (bytes s)[i] = true) (hA : Ev A r) : Ev (fun k => if bt s (i : Int) = 32 then A k else if bt s (i : Int) = 9 then A k else B k) r := by
  rcases (blank_bt h).1 hb with e | e
  · exact Ev.pos e hA
  · by_cases e2 : bt s (i : Int) = 32
    · exact Ev.pos e2 hA
    · exact Ev.neg e2 (Ev.pos e hA)
theorem Ev.solid {α : Type} {s : ByteArray} {i : Nat} {A B : Nat → Option α} {r : α} (h : i < (bytes s).length) (hb : Q.blank (bytes s)[i] = false) (hB : Ev B r) : Ev (fun k => if bt s (i : Int) = 32 then A k else if bt s (i : Int) = 9 then A k else B k) r := by
  have hn : ¬ (bt s (i : Int) = 32 ∨ bt s (i : Int) = 9) := fun e => by rw [(blank_bt h).2 e] at hb; cases hb
  exact Ev.neg (fun e => hn (.inl e)) (Ev.neg (fun e => hn (.inr e)) hB)

/-! ### the reference's Trim -/
theorem trim06_end (s : ByteArray) (hs : s.size < 4294967296) (a : Nat) (h1 : ∀ (j : Nat) x, j < a → (bytes s)[j]? = some x → blank x = true) (ha : ∀ x, (bytes s)[a]? = some x → blank x = false) :
    ∀ (g e : Nat), e = a + g → e ≤ s.size → (∀ (j : Nat) x, e ≤ j → (bytes s)[j]? = some x → blank x = true) → Ev (fun k => cloisterref06_Trim.l1 k s (a : Int) (e : Int)) ⟨(trimW (bytes s)).toArray⟩ := by
  intro g
  have hsz := size_bytes s
  have fin : ∀ e : Nat, a ≤ e → e ≤ s.size → (∀ (j : Nat) x, e ≤ j → (bytes s)[j]? = some x → blank x = true) → (a < e → ∀ x, (bytes s)[e - 1]? = some x → blank x = false) →
      (some (s.extract ((a : Int).toNat) ((e : Int).toNat)) : Option ByteArray) = some ⟨(trimW (bytes s)).toArray⟩ := by
    intro e h2 h3 h4 h5
    congr 1
    apply bytes_inj
    show bytes (s.extract ((a : Int).toNat) ((e : Int).toNat)) = trimW (bytes s)
    rw [bytes_sub _ _ _ (by omega), trim_at (bytes s) a e h2 (by omega) h1 h4 (fun h => ⟨ha, h5 h⟩)]
    simp
  induction g with
  | zero =>
    intro e he hle h2
    refine Ev.step (fun k => by rw [cloisterref06_Trim.l1]) ?_
    refine Ev.neg (by omega) (Ev.pos (by omega) (Ev.pos (by omega) (Ev.pos (by omega) ?_)))
    exact Ev.const fun _ => fin e (by omega) hle h2 (fun h => absurd h (by omega))
  | succ g ih =>
    intro e he hle h2
    obtain ⟨d, rfl⟩ : ∃ d, e = d + 1 := ⟨e - 1, by omega⟩
    have hd : d < (bytes s).length := by omega
    refine Ev.step (fun k => by rw [cloisterref06_Trim.l1]) ?_
    rw [wr_pred d (by omega)]
    refine Ev.pos (by omega) (Ev.pos (by omega) (Ev.pos (by omega) ?_))
    cases hb : blank (bytes s)[d] with
    | true =>
      refine Ev.blank hd hb (ih d (by omega) (by omega) ?_)
      intro j x hj hx
      by_cases e1 : j = d
      · subst e1; rw [List.getElem?_eq_getElem hd] at hx; cases hx; exact hb
      · exact h2 j x (by omega) hx
    | false =>
      refine Ev.solid hd hb (Ev.pos (by omega) (Ev.pos (by omega) (Ev.pos (by omega) ?_)))
      exact Ev.const fun _ => fin (d + 1) (by omega) hle h2 (fun _ x hx => by
        rw [show d + 1 - 1 = d by omega, List.getElem?_eq_getElem hd] at hx
        cases hx
        exact hb)
theorem trim06_ev (s : ByteArray) (hs : s.size < 4294967296) : Ev (fun k => cloisterref06_Trim.f k s) ⟨(trimW (bytes s)).toArray⟩ := by
  have hsz := size_bytes s
  have loop : ∀ (g i : Nat), i + g = s.size → (∀ (j : Nat) x, j < i → (bytes s)[j]? = some x → blank x = true) → Ev (fun k => cloisterref06_Trim.l0 k s (i : Int) (s.size : Int)) ⟨(trimW (bytes s)).toArray⟩ := by
    intro g
    induction g with
    | zero =>
      intro i hi h1
      obtain rfl : i = s.size := by omega
      refine Ev.step (fun k => by rw [cloisterref06_Trim.l0]) ?_
      refine Ev.neg (by omega) ?_
      refine Ev.step (fun k => by rw [cloisterref06_Trim.j1]) ?_
      exact trim06_end s hs s.size h1 (fun x hx => by rw [List.getElem?_eq_none (by omega)] at hx; cases hx) 0 s.size (by omega) (by omega) (fun j x hj hx => by rw [List.getElem?_eq_none (by omega)] at hx; cases hx)
    | succ g ih =>
      intro i hi h1
      have hlt : i < (bytes s).length := by omega
      refine Ev.step (fun k => by rw [cloisterref06_Trim.l0]) ?_
      refine Ev.pos (by omega) (Ev.pos (by omega) (Ev.pos (by omega) ?_))
      rw [wr_succ i (by omega)]
      cases hb : blank (bytes s)[i] with
      | true =>
        refine Ev.blank hlt hb (ih (i + 1) (by omega) ?_)
        intro j x hj hx
        by_cases e1 : j = i
        · subst e1; rw [List.getElem?_eq_getElem hlt] at hx; cases hx; exact hb
        · exact h1 j x (by omega) hx
      | false =>
        refine Ev.solid hlt hb ?_
        refine Ev.step (fun k => by rw [cloisterref06_Trim.j1]) ?_
        exact trim06_end s hs i h1 (fun x hx => by rw [List.getElem?_eq_getElem hlt] at hx; cases hx; exact hb) (s.size - i) s.size (by omega) (by omega) (fun j x hj hx => by rw [List.getElem?_eq_none (by omega)] at hx; cases hx)
  have := loop s.size 0 (by omega) (fun j x hj => absurd hj (by omega))
  exact this

/-! ### the reference's Number -/
def outN (below : Bool) : Option Nat → Int × Bool
  | some m => if below = true then (-(m : Int), true) else if m = 9223372036854775808 then (0, false) else ((m : Int), true)
  | none => (0, false)
def outR : Option Int → Int × Bool
  | some v => (v, true)
  | none => (0, false)
theorem outN_f (m : Nat) : outN false (some m) = if m = 9223372036854775808 then ((0 : Int), false) else ((m : Int), true) := rfl
theorem outN_R (o : Option Nat) : outN false o = outR (match o with | some m => if m = 9223372036854775808 then none else some (m : Int) | none => none) := by
  cases o with
  | none => rfl
  | some m =>
    rw [outN_f]
    by_cases h : m = 9223372036854775808
    · rw [if_pos h]; simp only; rw [if_pos h]; rfl
    · rw [if_neg h]; simp only; rw [if_neg h]; rfl
theorem number_loop (s : ByteArray) (hs : s.size < 4294967296) (below : Bool) : ∀ (rest pre : Bs) (m : Nat), bytes s = pre ++ rest → m ≤ 9223372036854775808 →
    Ev (fun k => cloisterref13_Number.l0 k s below (-(m : Int)) (pre.length : Int)) (outN below (accR m rest)) := by
  have hsz := size_bytes s
  intro rest
  induction rest with
  | nil =>
    intro pre m hp hm
    have hl : pre.length = s.size := by rw [hsz, hp]; simp
    refine Ev.step (fun k => by rw [cloisterref13_Number.l0]) ?_
    refine Ev.neg (by omega) ?_
    rw [accR]
    cases below with
    | true => exact Ev.pos rfl (Ev.now _)
    | false =>
      refine Ev.neg (by decide) ?_
      rw [outN_f]
      by_cases h : m = 9223372036854775808
      · rw [if_pos h]
        exact Ev.pos (by omega) (Ev.now _)
      · rw [if_neg h]
        refine Ev.neg (by omega) (Ev.const fun _ => ?_)
        rw [Int.neg_neg, wr_id (by omega) (by omega)]
  | cons c r ih =>
    intro pre m hp hm
    have hl : pre.length < s.size := by rw [hsz, hp]; simp
    have hc := UInt8.toNat_lt c
    have hb : bt s (pre.length : Int) = (c.toNat : Int) := bt_mid hp
    refine Ev.step (fun k => by rw [cloisterref13_Number.l0]) ?_
    refine Ev.pos (by omega) (Ev.pos (by omega) ?_)
    rw [hb, wr_id (z := (c.toNat : Int)) (by omega) (by omega), wr_id (z := (c.toNat : Int) - 48) (by omega) (by omega), wr_succ pre.length (by omega)]
    rw [accR]
    by_cases hd : dig c = true ∧ 10 * m + (c.toNat - 48) ≤ 9223372036854775808
    · have hdg : 48 ≤ c.toNat ∧ c.toNat ≤ 57 := by have := hd.1; simpa [dig] using this
      have hmm := hd.2
      rw [if_pos hd]
      have e : wrap64 (wrap64 (10 * (-(m : Int))) - ((c.toNat : Int) - 48)) = -((10 * m + (c.toNat - 48) : Nat) : Int) := by
        rw [wr_id (z := 10 * (-(m : Int))) (by omega) (by omega), wr_id (by omega) (by omega)]
        omega
      rw [e]
      have next := ih (pre ++ [c]) (10 * m + (c.toNat - 48)) (by rw [hp]; simp) hmm
      have el : ((pre ++ [c]).length : Int) = ((pre.length + 1 : Nat) : Int) := by simp
      rw [el] at next
      refine Ev.neg (by omega) (Ev.neg (by omega) (Ev.neg (by omega) ?_))
      by_cases ht : (-(m : Int)) = -922337203685477580
      · exact Ev.pos ht (Ev.neg (by omega) next)
      · exact Ev.neg ht next
    · rw [if_neg hd]
      show Ev _ ((0 : Int), false)
      by_cases h0 : (c.toNat : Int) - 48 < 0
      · exact Ev.pos h0 (Ev.now _)
      refine Ev.neg h0 ?_
      by_cases h9 : (c.toNat : Int) - 48 > 9
      · exact Ev.pos h9 (Ev.now _)
      refine Ev.neg h9 ?_
      have hdg : dig c = true := by unfold dig; exact decide_eq_true (by omega)
      have hbig : ¬ 10 * m + (c.toNat - 48) ≤ 9223372036854775808 := fun h => hd ⟨hdg, h⟩
      by_cases h1 : (-(m : Int)) < -922337203685477580
      · exact Ev.pos h1 (Ev.now _)
      refine Ev.neg h1 ?_
      exact Ev.pos (by omega) (Ev.pos (by omega) (Ev.now _))

theorem number_ev (s : ByteArray) (hs : s.size < 4294967296) : Ev (fun k => cloisterref13_Number.f k s) (outR (numR (bytes s))) := by
  have hsz := size_bytes s
  have go : ∀ (x : ByteArray) (below : Bool), x.size < 4294967296 → Ev (fun k => cloisterref13_Number.j2 k x below false) (outN below (accR 0 (bytes x))) := by
    intro x below hx
    refine Ev.step (fun k => by rw [cloisterref13_Number.j2, if_neg (by decide)]) ?_
    have := number_loop x hx below (bytes x) [] 0 rfl (by omega)
    exact this
  have stop : ∀ (x : ByteArray) (below : Bool), Ev (fun k => cloisterref13_Number.j2 k x below true) ((0 : Int), false) := by
    intro x below
    refine Ev.step (fun k => by rw [cloisterref13_Number.j2, if_pos rfl]) ?_
    exact Ev.now _
  unfold cloisterref13_Number.f
  match hL : bytes s with
  | [] =>
    have h0 : s.size = 0 := by rw [hsz, hL]; rfl
    refine Ev.neg (by omega) ?_
    refine Ev.step (fun k => by rw [cloisterref13_Number.j0, if_neg (by decide)]) ?_
    refine Ev.step (fun k => by rw [cloisterref13_Number.j1]) ?_
    exact Ev.pos (by rw [toList_bytes, hL]) (stop s false)
  | c :: r =>
    have hc := UInt8.toNat_lt c
    have h1 : s.size = r.length + 1 := by rw [hsz, hL]; rfl
    have hb0 : bt s 0 = (c.toNat : Int) := bt_mid (pre := []) hL
    have hne : ¬ s.toList = ([] : List UInt8) := by rw [toList_bytes, hL]; simp
    by_cases hr : r = []
    · subst hr
      have h1' : s.size = 1 := h1
      refine Ev.neg (by omega) ?_
      refine Ev.step (fun k => by rw [cloisterref13_Number.j0, if_neg (by decide)]) ?_
      refine Ev.step (fun k => by rw [cloisterref13_Number.j1]) ?_
      refine Ev.neg hne (Ev.neg (by omega) (Ev.neg (by decide) ?_))
      have hg := go s false hs
      rw [hL] at hg
      have e : outR (numR [c]) = outN false (accR 0 [c]) := by
        unfold numR
        simp only
        rw [if_neg (fun h => h.2 rfl), if_neg (fun h => h.2 rfl), outN_R]
        cases accR 0 [c] <;> rfl
      rw [e]
      exact hg
    · have hr1 : 1 ≤ r.length := List.length_pos_iff.2 hr
      refine Ev.pos (by omega) (Ev.pos (by omega) ?_)
      rw [hb0]
      by_cases hm : c.toNat = 45
      · have eb : ((c.toNat : Int) == 45) = true := by rw [beq_iff_eq]; omega
        rw [eb]
        refine Ev.step (fun k => by rw [cloisterref13_Number.j0, if_pos rfl]) ?_
        refine Ev.pos (by omega) ?_
        have hx : bytes (s.extract 1 s.size) = r := by rw [bytes_from, hL]; rfl
        have hxs : (s.extract 1 s.size).size = r.length := by rw [size_bytes, hx]
        generalize s.extract 1 s.size = x at hx hxs
        obtain ⟨d, q, rfl⟩ : ∃ d q, r = d :: q := by cases r with
          | nil => exact absurd rfl hr
          | cons d q => exact ⟨d, q, rfl⟩
        have hd := UInt8.toNat_lt d
        have hx0 : bt x 0 = (d.toNat : Int) := bt_mid (pre := []) hx
        have hxn : ¬ x.toList = ([] : List UInt8) := by rw [toList_bytes, hx]; simp
        have en : numR (c :: d :: q) = if d.toNat = 48 then none else (accR 0 (d :: q)).map fun (m : Nat) => -(m : Int) := by
          unfold numR
          simp only
          rw [if_pos ⟨hm, by simp⟩]
        rw [en]
        refine Ev.step (fun k => by rw [cloisterref13_Number.j1]) ?_
        refine Ev.neg hxn ?_
        rw [hx0]
        by_cases h48 : d.toNat = 48
        · rw [if_pos h48]
          have e48 : ((d.toNat : Int) == 48) = true := by rw [beq_iff_eq]; omega
          by_cases hq : (x.size : Int) > 1
          · exact Ev.pos hq (Ev.pos (by omega) (Ev.pos (by omega) (stop x true)))
          · rw [e48]
            exact Ev.neg hq (Ev.pos rfl (Ev.pos (by omega) (stop x true)))
        · rw [if_neg h48]
          have e48 : ((d.toNat : Int) == 48) = false := by rw [beq_eq_false_iff_ne]; omega
          have hg := go x true (by rw [hxs]; omega)
          rw [hx] at hg
          have e : outR ((accR 0 (d :: q)).map fun (m : Nat) => -(m : Int)) = outN true (accR 0 (d :: q)) := by
            cases accR 0 (d :: q) with
            | none => rfl
            | some m => rfl
          rw [e, e48]
          by_cases hq : (x.size : Int) > 1
          · exact Ev.pos hq (Ev.pos (by omega) (Ev.neg (by omega) (Ev.pos rfl hg)))
          · exact Ev.neg hq (Ev.pos rfl (Ev.pos (by omega) hg))
      · have eb : ((c.toNat : Int) == 45) = false := by rw [beq_eq_false_iff_ne]; omega
        rw [eb]
        refine Ev.step (fun k => by rw [cloisterref13_Number.j0, if_neg (by decide)]) ?_
        refine Ev.step (fun k => by rw [cloisterref13_Number.j1]) ?_
        refine Ev.neg hne (Ev.pos (by omega) (Ev.pos (by omega) ?_))
        rw [hb0]
        by_cases h48 : c.toNat = 48
        · have en : numR (c :: r) = none := by
            unfold numR
            simp only
            rw [if_neg (fun h => hm h.1), if_pos ⟨h48, hr⟩]
          rw [en]
          exact Ev.pos (by omega) (stop s false)
        · have en : outR (numR (c :: r)) = outN false (accR 0 (c :: r)) := by
            unfold numR
            simp only
            rw [if_neg (fun h => hm h.1), if_neg (fun h => h48 h.1), outN_R]
            cases accR 0 (c :: r) <;> rfl
          rw [en]
          have hg := go s false hs
          rw [hL] at hg
          exact Ev.neg (by omega) (Ev.neg (by decide) hg)
end Go.Proofs.YtlpmifofgacgiaaDoor.Q
