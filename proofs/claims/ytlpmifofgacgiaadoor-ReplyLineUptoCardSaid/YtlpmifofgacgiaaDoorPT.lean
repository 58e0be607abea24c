/- Plain laws on texts: lines, words, blanks (no program). -/
import Derived.Test.YtlpmifofgacgiaaDoorPA
import Derived.Lib.IndexAny
import Derived.Lib.Split
namespace Go.Proofs.YtlpmifofgacgiaaDoor.Q
open Go.RowKit Go.Proofs.YtlpmifofgacgiaaDoorW.PrintWords

/-! ### the first place of a byte -/
def upto (c : UInt8) (l : Bs) : Bs := l.takeWhile (fun b => b != c)
theorem upto_not (c : UInt8) : ∀ l : Bs, c ∉ upto c l := by
  intro l
  induction l with
  | nil => simp [upto]
  | cons b l ih =>
    unfold upto at ih ⊢
    rw [List.takeWhile_cons]
    by_cases h : b = c
    · subst h; simp
    · have : (b != c) = true := bne_iff_ne.2 h
      rw [this]
      simp only [if_true, List.mem_cons, not_or]
      exact ⟨fun e => h e.symm, ih⟩
theorem upto_split (c : UInt8) : ∀ l : Bs, c ∈ l → ∃ r, l = upto c l ++ c :: r := by
  intro l
  induction l with
  | nil => intro h; cases h
  | cons b l ih =>
    intro h
    unfold upto at ih ⊢
    rw [List.takeWhile_cons]
    by_cases hb : b = c
    · subst hb; exact ⟨l, by simp⟩
    · have e : (b != c) = true := bne_iff_ne.2 hb
      rw [e]
      obtain ⟨r, hr⟩ := ih (by rcases List.mem_cons.1 h with h | h; exact absurd h.symm hb; exact h)
      refine ⟨r, ?_⟩
      simp only [if_true, List.cons_append]
      rw [← hr]
theorem upto_all (c : UInt8) : ∀ l : Bs, c ∉ l → upto c l = l := by
  intro l
  induction l with
  | nil => intro _; rfl
  | cons b l ih =>
    intro h
    simp only [List.mem_cons, not_or] at h
    unfold upto at ih ⊢
    rw [List.takeWhile_cons, bne_iff_ne.2 (fun e => h.1 e.symm), if_pos rfl, ih h.2]
theorem upto_app (c : UInt8) (a b : Bs) (h : c ∉ a) : upto c (a ++ b) = a ++ upto c b := by
  induction a with
  | nil => rfl
  | cons x a ih =>
    simp only [List.mem_cons, not_or] at h
    unfold upto at ih ⊢
    rw [List.cons_append, List.takeWhile_cons, bne_iff_ne.2 (fun e => h.1 e.symm), if_pos rfl, ih h.2, List.cons_append]
theorem index_one (c : UInt8) : ∀ l : Bs, Lib.index l [c] = if c ∈ l then ((upto c l).length : Int) else -1 := by
  intro l
  induction l with
  | nil => simp [Lib.index]
  | cons b l ih =>
    rw [Lib.index]
    by_cases h : b = c
    · subst h
      have e : List.isPrefixOf [b] (b :: l) = true := by simp [List.isPrefixOf]
      rw [if_pos e, if_pos (by simp)]
      simp [upto]
    · have hcb : ¬ c = b := fun e => h e.symm
      have e : List.isPrefixOf [c] (b :: l) = false := by simp [List.isPrefixOf, hcb]
      rw [e, if_neg (by decide), ih]
      have eu : upto c (b :: l) = b :: upto c l := by unfold upto; rw [List.takeWhile_cons, bne_iff_ne.2 h, if_pos rfl]
      by_cases hm : c ∈ l
      · rw [if_pos hm, if_pos (List.mem_cons_of_mem _ hm), eu]
        have : ((((upto c l).length : Int) == -1) = true) = False := eq_false (by rw [beq_iff_eq]; omega)
        rw [if_neg (by rw [this]; exact id)]
        simp
      · rw [if_neg hm, if_neg (fun hh => (List.mem_cons.1 hh).elim hcb hm)]
        simp
theorem cut_one (c : UInt8) (l : Bs) : (Lib.cut l [c]).1 = upto c l := by
  unfold Lib.cut
  rw [index_one]
  by_cases h : c ∈ l
  · rw [if_pos h, if_pos (by omega)]
    obtain ⟨r, hr⟩ := upto_split c l h
    show l.take _ = _
    have e : ((upto c l).length : Int).toNat = (upto c l).length := by omega
    rw [e]
    generalize upto c l = u at hr ⊢
    subst hr
    exact List.take_left' rfl
  · rw [if_neg h, if_neg (by decide), upto_all c l h]

/-! ### lines -/
def linesOf (c : UInt8) : Bs → List Bs
  | [] => [[]]
  | b :: r => if b = c then [] :: linesOf c r else match linesOf c r with
    | [] => [[b]]
    | h :: t => (b :: h) :: t
theorem linesOf_ne (c : UInt8) : ∀ l, linesOf c l ≠ [] := by
  intro l
  cases l with
  | nil => simp [linesOf]
  | cons b r =>
    rw [linesOf]
    split
    · simp
    · split <;> simp
theorem linesOf_app (c : UInt8) (r : Bs) : ∀ a : Bs, c ∉ a → linesOf c (a ++ c :: r) = a :: linesOf c r := by
  intro a
  induction a with
  | nil => intro _; simp [linesOf]
  | cons b a ih =>
    intro h
    simp only [List.mem_cons, not_or] at h
    rw [List.cons_append, linesOf, if_neg (fun e => h.1 e.symm), ih h.2]
theorem linesOf_one (c : UInt8) : ∀ a : Bs, c ∉ a → linesOf c a = [a] := by
  intro a
  induction a with
  | nil => intro _; simp [linesOf]
  | cons b a ih =>
    intro h
    simp only [List.mem_cons, not_or] at h
    rw [linesOf, if_neg (fun e => h.1 e.symm), ih h.2]
theorem splitK_lines (c : UInt8) : ∀ (k : Nat) (l : Bs), l.count c = k → Lib.splitK [c] 0 k l = linesOf c l := by
  intro k
  induction k with
  | zero =>
    intro l h
    rw [linesOf_one c l (List.count_eq_zero.1 h)]
    rfl
  | succ k ih =>
    intro l h
    have hm : c ∈ l := List.count_pos_iff.1 (by omega)
    obtain ⟨r, hr⟩ := upto_split c l hm
    have hn := upto_not c l
    rw [Lib.splitK, index_one, if_pos hm]
    have : ((((upto c l).length : Int) == -1) = true) = False := eq_false (by rw [beq_iff_eq]; omega)
    rw [if_neg (by rw [this]; exact id)]
    have e : ((upto c l).length : Int).toNat = (upto c l).length := by omega
    rw [e]
    generalize hU : upto c l = u at *
    subst hr
    rw [linesOf_app c r u hn, Nat.add_zero, List.take_left' rfl]
    have ed : (u ++ c :: r).drop (u.length + [c].length) = r := by simp
    rw [ed, ih r (by
      rw [List.count_append, List.count_cons_self, List.count_eq_zero.2 hn] at h
      omega)]

/-! ### blanks -/
def blank (b : UInt8) : Bool := b == 32 || b == 9
theorem blank_contains (b : UInt8) : ([32, 9] : Bs).contains b = blank b := by
  have h : (([32, 9] : Bs).contains b) = (b == 32 || (b == 9 || false)) := rfl
  rw [h, Bool.or_false]
  rfl
def trimW (l : Bs) : Bs := Lib.trimS l [32, 9]
def lead (l : Bs) : Bs := l.takeWhile blank
def word (l : Bs) : Bs := l.takeWhile (fun b => !blank b)
def behind (l : Bs) : Bs := l.dropWhile (fun b => !blank b)
theorem trimLeft_eq (l : Bs) : Lib.trimLeftS l [32, 9] = l.dropWhile blank := by
  unfold Lib.trimLeftS
  congr 1
  funext b
  exact blank_contains b
theorem trimRight_eq (l : Bs) : Lib.trimRightS l [32, 9] = (l.reverse.dropWhile blank).reverse := by
  unfold Lib.trimRightS
  congr 2
  funext b
  exact blank_contains b
theorem lead_drop (l : Bs) : (lead l).length + (l.dropWhile blank).length = l.length := by
  unfold lead
  have := congrArg List.length (List.takeWhile_append_dropWhile (p := blank) (l := l))
  rw [List.length_append] at this
  exact this
theorem word_behind (l : Bs) : word l ++ behind l = l := List.takeWhile_append_dropWhile
theorem word_not (l : Bs) : ∀ b ∈ word l, blank b = false := by
  induction l with
  | nil => intro b hb; simp [word] at hb
  | cons x l ih =>
    intro b hb
    unfold word at ih hb
    rw [List.takeWhile_cons] at hb
    cases hx : blank x with
    | true => rw [hx] at hb; simp at hb
    | false =>
      rw [hx] at hb
      simp only [Bool.not_false, if_true, List.mem_cons] at hb
      rcases hb with rfl | hb
      · exact hx
      · exact ih b hb
theorem behind_cases (l : Bs) : behind l = [] ∨ ∃ b r, behind l = b :: r ∧ blank b = true := by
  unfold behind
  cases h : l.dropWhile (fun b => !blank b) with
  | nil => exact .inl rfl
  | cons b r =>
    right
    have hn : l.dropWhile (fun b => !blank b) ≠ [] := by rw [h]; simp
    have := List.head_dropWhile_not (fun b => !blank b) hn
    simp only [h, List.head_cons] at this
    exact ⟨b, r, rfl, by simpa using this⟩
theorem indexAny_word : ∀ l : Bs, Lib.indexAny l [32, 9] = if behind l = [] then -1 else ((word l).length : Int) := by
  intro l
  induction l with
  | nil => simp [Lib.indexAny, behind]
  | cons b l ih =>
    rw [Lib.indexAny, blank_contains]
    unfold behind word at ih ⊢
    rw [List.dropWhile_cons, List.takeWhile_cons]
    cases hb : blank b
    · simp only [Bool.not_false, if_true, Bool.false_eq_true, if_false]
      rw [ih]
      split
      · simp
      · rename_i h
        have : (((((l.takeWhile (fun b => !blank b)).length : Nat) : Int) == -1) = true) = False := eq_false (by rw [beq_iff_eq]; omega)
        rw [if_neg (by rw [this]; exact id)]
        simp
    · simp
/-- A text without blanks at its ends. -/
def Trim (l : Bs) : Prop := trimW l = l
theorem trim_at (l : Bs) (a b : Nat) (hab : a ≤ b) (hb : b ≤ l.length) (h1 : ∀ (j : Nat) x, j < a → l[j]? = some x → blank x = true) (h2 : ∀ (j : Nat) x, b ≤ j → l[j]? = some x → blank x = true)
    (h3 : a < b → (∀ x, l[a]? = some x → blank x = false) ∧ (∀ x, l[b - 1]? = some x → blank x = false)) : trimW l = (l.take b).drop a := by
  unfold trimW Lib.trimS
  by_cases h : a < b
  · obtain ⟨h4, h5⟩ := h3 h
    rw [Lib.trimRightS_take l [32, 9] b hb (fun j x hj hx => by rw [blank_contains]; exact h2 j x hj hx) (fun x _ hx => by rw [blank_contains]; exact h5 x hx)]
    exact Lib.trimLeftS_drop (l.take b) [32, 9] a (by rw [List.length_take]; omega)
      (fun j x hj hx => by rw [blank_contains]; rw [List.getElem?_take_of_lt (by omega)] at hx; exact h1 j x hj hx)
      (fun x hx => by rw [blank_contains]; rw [List.getElem?_take_of_lt h] at hx; exact h4 x hx)
  · obtain rfl : a = b := by omega
    rw [Lib.trimRightS_take l [32, 9] 0 (by omega) (fun j x _ hx => by
      rw [blank_contains]
      by_cases hj : j < a
      · exact h1 j x hj hx
      · exact h2 j x (by omega) hx) (fun x hx => absurd hx (by omega))]
    rw [List.take_zero, Lib.trimLeftS_nil]
    exact (List.drop_eq_nil_of_le (by rw [List.length_take]; omega)).symm
end Go.Proofs.YtlpmifofgacgiaaDoor.Q
