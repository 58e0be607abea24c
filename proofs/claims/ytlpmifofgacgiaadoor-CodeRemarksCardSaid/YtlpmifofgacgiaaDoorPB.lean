/- Plain: what is printed is read back, also with blanks and remarks around each line (no program). -/
import Derived.Test.YtlpmifofgacgiaaDoorPP
namespace Go.Proofs.YtlpmifofgacgiaaDoor.Q
open Go.RowKit Go.Proofs.YtlpmifofgacgiaaDoorW.PrintWords

theorem trim_blank {l : Bs} (h : ∀ b ∈ l, blank b = true) : trimW l = [] := by
  cases hl : trimW l with
  | nil => rfl
  | cons x r =>
    exfalso
    have hx : x ∈ trimW l := by rw [hl]; simp
    have hs : x ∈ l := by
      unfold trimW Lib.trimS at hx
      rw [trimLeft_eq, trimRight_eq] at hx
      have h1 := (List.dropWhile_sublist _).subset hx
      rw [List.mem_reverse] at h1
      have h2 := (List.dropWhile_sublist _).subset h1
      rwa [List.mem_reverse] at h2
    have ht := trim_twice l
    have hb := h x hs
    have hsub : trimW l = l.dropWhile (fun _ => true) ∨ True := .inr trivial
    clear hsub
    have e : (trimW l).dropWhile blank = trimW l := by
      unfold trimW Lib.trimS
      rw [trimLeft_eq]
      generalize Lib.trimRightS l [32, 9] = q
      cases hd : q.dropWhile blank with
      | nil => rfl
      | cons c r =>
        have hn : q.dropWhile blank ≠ [] := by rw [hd]; simp
        have := List.head_dropWhile_not blank hn
        simp only [hd, List.head_cons] at this
        rw [List.dropWhile_cons, this]
        rfl
    rw [hl, List.dropWhile_cons, hb] at e
    have := congrArg List.length e
    have h2 := (List.dropWhile_sublist blank (l := r)).length_le
    simp only [if_true, List.length_cons] at this
    omega
theorem trim_around (a m b : Bs) (ha : ∀ x ∈ a, blank x = true) (hb : ∀ x ∈ b, blank x = true) (hm : m ≠ []) (h1 : ∀ x, m.head? = some x → blank x = false) (h2 : ∀ x, m.getLast? = some x → blank x = false) : trimW (a ++ (m ++ b)) = m := by
  have d1 : ∀ (p q : Bs), (∀ x ∈ p, blank x = true) → (p ++ q).dropWhile blank = q.dropWhile blank := by
    intro p q
    induction p with
    | nil => intro _; rfl
    | cons x p ih =>
      intro h
      rw [List.cons_append, List.dropWhile_cons, h x (by simp)]
      simp only [if_true]
      exact ih (fun y hy => h y (by simp [hy]))
  have d2 : ∀ q : Bs, (∀ x, q.head? = some x → blank x = false) → q.dropWhile blank = q := by
    intro q h
    cases q with
    | nil => rfl
    | cons x q => rw [List.dropWhile_cons, h x rfl]; rfl
  have e0 : (a ++ (m ++ b)).reverse = b.reverse ++ (m.reverse ++ a.reverse) := by simp
  have e1 : (b.reverse ++ (m.reverse ++ a.reverse)).dropWhile blank = m.reverse ++ a.reverse := by
    rw [d1 _ _ (fun x hx => hb x (List.mem_reverse.1 hx))]
    apply d2
    intro x hx
    cases hr : m.reverse with
    | nil => exact absurd (List.reverse_eq_nil_iff.1 hr) hm
    | cons c r =>
      rw [hr] at hx
      cases hx
      exact h2 _ (by rw [← List.head?_reverse, hr]; rfl)
  unfold trimW Lib.trimS
  rw [trimRight_eq, trimLeft_eq, e0, e1, ← List.reverse_append, List.reverse_reverse, d1 a m ha, d2 m h1]

/-! ### one printed line -/
theorem itoa_bytes {n : Int} (h : i64ok n) : itoaL n ≠ [] ∧ ∀ b ∈ itoaL n, b.toNat = 45 ∨ (48 ≤ b.toNat ∧ b.toNat ≤ 57) := by
  rw [itoaL_eq h.1 h.2]
  have key : ∀ u : Nat, Lib.decDigits u ≠ [] ∧ ∀ b ∈ Lib.decDigits u, 48 ≤ b.toNat ∧ b.toNat ≤ 57 := by
    intro u
    obtain ⟨_, h2, c, r, h3, _⟩ := decDigits_spells u
    refine ⟨by rw [h3]; simp, fun b hb => ?_⟩
    have := List.all_eq_true.1 h2 b hb
    simpa [dig] using this
  unfold Lib.itoa
  split
  · refine ⟨by simp, fun b hb => ?_⟩
    rcases List.mem_cons.1 hb with rfl | hb
    · exact .inl rfl
    · exact .inr ((key _).2 b hb)
  · exact ⟨(key _).1, fun b hb => .inr ((key _).2 b hb)⟩
theorem name_bytes {op : Int} (h : 1 ≤ op ∧ op ≤ 25) : nameS op ≠ [] ∧ ∀ b ∈ nameS op, 97 ≤ b.toNat ∧ b.toNat ≤ 122 := by
  have hall : ∀ s ∈ namesS, bytes s ≠ [] ∧ ∀ b ∈ bytes s, 97 ≤ b.toNat ∧ b.toNat ≤ 122 := by decide +kernel
  have hm : nameB op ∈ namesS := by
    unfold nameB
    have hlt : (op - 1).toNat < namesS.length := by
      have : namesS.length = 25 := rfl
      omega
    rw [List.getD_eq_getElem?_getD, List.getElem?_eq_getElem hlt]
    exact List.getElem_mem hlt
  exact hall _ hm
theorem find_name {op : Int} (h : 1 ≤ op ∧ op ≤ 25) : findN (nameS op) namesS 1 = some op.toNat := by
  have hall : ∀ i : Fin 25, findN (bytes (namesS.getD i.val ByteArray.empty)) namesS 1 = some (i.val + 1) := by decide +kernel
  have := hall ⟨(op - 1).toNat, by omega⟩
  unfold nameS nameB
  rw [this]
  congr 1
  show (op - 1).toNat + 1 = _
  omega
theorem not_blank {b : UInt8} (h : b.toNat ≠ 32 ∧ b.toNat ≠ 9) : blank b = false := by
  unfold blank
  rw [Bool.or_eq_false_iff, beq_eq_false_iff_ne, beq_eq_false_iff_ne]
  exact ⟨fun e => h.1 (by rw [e]; rfl), fun e => h.2 (by rw [e]; rfl)⟩
theorem line_bytes {x : In} (h : 1 ≤ x.f0 ∧ x.f0 ≤ 25) (hi : i64ok x.f1) : ∀ b ∈ lineS x, b.toNat ≠ 10 ∧ b.toNat ≠ 59 := by
  intro b hb
  unfold lineS at hb
  rcases List.mem_append.1 hb with hb | hb
  · have := (name_bytes h).2 b hb
    omega
  · split at hb
    · rcases List.mem_cons.1 hb with rfl | hb
      · exact ⟨by decide, by decide⟩
      · have := (itoa_bytes hi).2 b hb
        omega
    · cases hb
theorem word_of {w r : Bs} (hw : ∀ b ∈ w, blank b = false) (hr : r = [] ∨ ∃ b q, r = b :: q ∧ blank b = true) : word (w ++ r) = w ∧ behind (w ++ r) = r := by
  induction w with
  | nil =>
    rcases hr with rfl | ⟨b, q, rfl, hb⟩
    · exact ⟨rfl, rfl⟩
    · unfold word behind
      rw [List.nil_append, List.takeWhile_cons, List.dropWhile_cons, hb]
      exact ⟨rfl, rfl⟩
  | cons x w ih =>
    obtain ⟨h1, h2⟩ := ih (fun b hb => hw b (by simp [hb]))
    have hx := hw x (by simp)
    unfold word at h1 ⊢
    unfold behind at h2 ⊢
    rw [List.cons_append, List.takeWhile_cons, List.dropWhile_cons, hx]
    simp only [Bool.not_false, if_true]
    rw [h1, h2]
    exact ⟨rfl, rfl⟩
theorem line_parts {x : In} (h : 1 ≤ x.f0 ∧ x.f0 ≤ 25) : word (lineS x) = nameS x.f0 ∧ behind (lineS x) = if hasS x.f0 = true then 32 :: itoaL x.f1 else [] := by
  unfold lineS
  refine word_of (fun b hb => ?_) ?_
  · have := (name_bytes h).2 b hb
    exact not_blank (by omega)
  · split
    · exact .inr ⟨32, _, rfl, rfl⟩
    · exact .inl rfl
theorem line_ends {x : In} (h : 1 ≤ x.f0 ∧ x.f0 ≤ 25) (hi : i64ok x.f1) : lineS x ≠ [] ∧ (∀ b, (lineS x).head? = some b → blank b = false) ∧ (∀ b, (lineS x).getLast? = some b → blank b = false) := by
  obtain ⟨hn, hb⟩ := name_bytes h
  refine ⟨?_, ?_, ?_⟩
  · unfold lineS
    intro e
    exact hn (List.append_eq_nil_iff.1 e).1
  · intro b hh
    unfold lineS at hh
    cases hname : nameS x.f0 with
    | nil => exact absurd hname hn
    | cons c r =>
      rw [hname, List.cons_append] at hh
      cases hh
      have := hb b (by rw [hname]; simp)
      exact not_blank (by omega)
  · intro b hh
    unfold lineS at hh
    by_cases hs : hasS x.f0 = true
    · rw [if_pos hs] at hh
      obtain ⟨hin, hib⟩ := itoa_bytes hi
      have : b ∈ itoaL x.f1 := by
        rw [List.getLast?_append] at hh
        rw [List.getLast?_cons] at hh
        cases hg : (itoaL x.f1).getLast? with
        | none => exact absurd (List.getLast?_eq_none_iff.1 hg) hin
        | some d =>
          rw [hg] at hh
          simp at hh
          rw [← hh]
          exact List.mem_of_getLast? hg
      have := hib b this
      exact not_blank (by omega)
    · rw [if_neg hs, List.append_nil] at hh
      have := hb b (List.mem_of_getLast? hh)
      exact not_blank (by omega)
theorem read_line {n : Int} {x : In} (hi : inOk x) (hm : mayS n x = true) : readS (lineS x) = some x := by
  have hop := mayS_op hm
  obtain ⟨hw, hb⟩ := line_parts hop
  unfold readS
  rw [hw, find_name hop]
  simp only
  have e : ((x.f0.toNat : Nat) : Int) = x.f0 := by omega
  rw [e]
  by_cases hs : hasS x.f0 = true
  · rw [if_pos hs] at hb
    obtain ⟨hin, hib⟩ := itoa_bytes hi.2
    have ht : trimW (32 :: itoaL x.f1) = itoaL x.f1 := by
      have := trim_around [32] (itoaL x.f1) [] (by intro y hy; rw [List.mem_singleton] at hy; subst hy; rfl) (by intro y hy; cases hy) hin
        (fun y hy => by have := hib y (List.mem_of_head? hy); exact not_blank (by omega)) (fun y hy => by have := hib y (List.mem_of_getLast? hy); exact not_blank (by omega))
      rw [List.append_nil] at this
      exact this
    rw [if_pos hs, hb, ht, (numR_iff _ x.f1).2 ⟨hi.2.1, hi.2.2, (itoaL_eq hi.2.1 hi.2.2).symm⟩]
  · rw [if_neg hs] at hb
    have h0 : x.f1 = 0 := by
      unfold hasS at hs
      rw [decide_eq_true_eq] at hs
      unfold mayS at hm
      rw [if_neg (by omega), if_neg (by omega), if_neg (by omega), if_neg (by omega)] at hm
      exact (of_decide_eq_true hm).2.2
    rw [if_neg hs, hb, if_pos rfl, ← h0]

/-! ### lines that say instructions -/
inductive Says : List Bs → List In → Prop
  | nil : Says [] []
  | skip {L : Bs} {ls : List Bs} {l : List In} : trimW (upto 59 L) = [] → Says ls l → Says (L :: ls) l
  | say {L : Bs} {ls : List Bs} {x : In} {l : List In} : trimW (upto 59 L) = lineS x → Says ls l → Says (L :: ls) (x :: l)
theorem says_run {n : Int} {ls : List Bs} {l : List In} (h : Says ls l) : (∀ x ∈ l, inOk x ∧ mayS n x = true) → ∀ (a : Nat) (out : List In) (pl : List Int), ∃ pl', runS ls a out pl = finS (out ++ l) pl' := by
  induction h with
  | nil => intro _ a out pl; exact ⟨pl, by rw [List.append_nil]; rfl⟩
  | skip h0 _ ih =>
    intro hx a out pl
    rw [runS, if_pos h0]
    exact ih hx _ _ _
  | @say L ls x l h0 _ ih =>
    intro hx a out pl
    obtain ⟨hi, hm⟩ := hx x (by simp)
    obtain ⟨pl', hp⟩ := ih (fun y hy => hx y (by simp [hy])) (a + L.length + 1) (out ++ [x]) (pl ++ [((a + (lead (upto 59 L)).length : Nat) : Int)])
    refine ⟨pl', ?_⟩
    rw [runS, if_neg (by rw [h0]; exact (line_ends (mayS_op hm) hi.2).1), h0, read_line hi hm]
    simp only
    rw [hp, List.append_assoc]
    rfl
theorem says_parse {s : Bs} {l : List In} (hs : s.length ≤ 262144) (h : Says (linesOf 10 s) l) (hi : ∀ x ∈ l, inOk x) (hc : (checkS l).1 = 0) : parseS s = (l, 0, 0) := by
  obtain ⟨_, _, hm⟩ := (checkS_ok l).1 hc
  obtain ⟨pl', hp⟩ := says_run h (fun x hx => ⟨hi x hx, hm x hx⟩) 0 [] []
  unfold parseS
  rw [if_neg (by omega), hp, List.nil_append]
  exact if_pos hc
theorem printed_says : ∀ l : List In, (∀ x ∈ l, i64ok x.f1 ∧ 1 ≤ x.f0 ∧ x.f0 ≤ 25) → Says (linesOf 10 (printS l)) l := by
  intro l
  induction l with
  | nil => intro _; exact Says.skip rfl Says.nil
  | cons x l ih =>
    intro h
    obtain ⟨hi, hop⟩ := h x (by simp)
    have hb := line_bytes hop hi
    rw [printS, linesOf_app 10 _ _ (fun hm => (hb 10 hm).1 rfl)]
    refine Says.say ?_ (ih (fun y hy => h y (by simp [hy])))
    rw [upto_all 59 _ (fun hm => (hb 59 hm).2 rfl)]
    obtain ⟨_, h1, h2⟩ := line_ends hop hi
    exact trim_ends _ h1 h2
theorem parse_print {l : List In} (hi : ∀ x ∈ l, inOk x) (hc : (checkS l).1 = 0) : parseS (printS l) = (l, 0, 0) := by
  obtain ⟨_, h2, hm⟩ := (checkS_ok l).1 hc
  have hlen := printS_length l (fun x hx => (hi x hx).2)
  exact says_parse (by omega) (printed_says l (fun x hx => ⟨(hi x hx).2, mayS_op (hm x hx)⟩)) hi hc

/-! ### what is parsed is Go's ints -/
theorem readS_ok {t : Bs} {x : In} (h : readS t = some x) : inOk x := by
  unfold readS at h
  cases hf : findN (word t) namesS 1 with
  | none => rw [hf] at h; cases h
  | some op =>
    rw [hf] at h
    simp only at h
    have hb := findN_some hf
    have hn : namesS.length = 25 := rfl
    split at h
    · cases hv : numR (trimW (behind t)) with
      | none => rw [hv] at h; cases h
      | some v =>
        rw [hv] at h
        cases h
        have := (numR_iff _ v).1 hv
        exact ⟨⟨by show (-9223372036854775808 : Int) ≤ (op : Int); omega, by show (op : Int) ≤ 9223372036854775807; omega⟩, this.1, this.2.1⟩
    · split at h
      · cases h
        exact ⟨⟨by show (-9223372036854775808 : Int) ≤ (op : Int); omega, by show (op : Int) ≤ 9223372036854775807; omega⟩, by show (-9223372036854775808 : Int) ≤ 0; decide, by show (0 : Int) ≤ 9223372036854775807; decide⟩
      · cases h
theorem finS_ok {out : List In} {pl : List Int} (h : ∀ x ∈ out, inOk x) : (∀ x ∈ (finS out pl).1, inOk x) ∧ ((finS out pl).2.1 = 0 → (checkS (finS out pl).1).1 = 0) ∧ ((finS out pl).2.1 ≠ 0 → (finS out pl).1 = []) := by
  by_cases h0 : (checkS out).1 = 0
  · have e : finS out pl = (out, 0, 0) := if_pos h0
    rw [e]
    exact ⟨h, fun _ => h0, fun hh => absurd rfl hh⟩
  · by_cases h1 : (checkS out).1 = 130
    · have e : finS out pl = ([], 130, rd pl (checkS out).2) := (if_neg h0).trans (if_pos h1)
      rw [e]
      exact ⟨fun x hx => (by cases hx), fun hh => (by cases hh), fun _ => rfl⟩
    · have e : finS out pl = ([], (checkS out).1, 0) := (if_neg h0).trans (if_neg h1)
      rw [e]
      exact ⟨fun x hx => (by cases hx), fun hh => absurd hh h0, fun _ => rfl⟩
theorem runS_ok : ∀ (ls : List Bs) (a : Nat) (out : List In) (pl : List Int), (∀ x ∈ out, inOk x) → (∀ x ∈ (runS ls a out pl).1, inOk x) ∧ ((runS ls a out pl).2.1 = 0 → (checkS (runS ls a out pl).1).1 = 0) ∧ ((runS ls a out pl).2.1 ≠ 0 → (runS ls a out pl).1 = []) := by
  intro ls
  induction ls with
  | nil => intro a out pl h; exact finS_ok h
  | cons L ls ih =>
    intro a out pl h
    rw [runS]
    split
    · exact ih _ _ _ h
    · cases hr : readS (trimW (upto 59 L)) with
      | none => exact ⟨fun x hx => (by cases hx), fun hh => (by cases hh), fun _ => rfl⟩
      | some x =>
        exact ih _ _ _ (fun y hy => by
          rcases List.mem_append.1 hy with hy | hy
          · exact h y hy
          · rw [List.mem_singleton] at hy
            subst hy
            exact readS_ok hr)
theorem parseS_ok (s : Bs) : (∀ x ∈ (parseS s).1, inOk x) ∧ ((parseS s).2.1 = 0 → (checkS (parseS s).1).1 = 0) ∧ ((parseS s).2.1 ≠ 0 → (parseS s).1 = []) := by
  unfold parseS
  split
  · exact ⟨fun x hx => (by cases hx), fun hh => (by cases hh), fun _ => rfl⟩
  · exact runS_ok _ _ _ _ (fun x hx => by cases hx)
end Go.Proofs.YtlpmifofgacgiaaDoor.Q
