/- The plain law of code.Check, code.Print, code.Name and their references: no program in sight. -/
import Derived.Test.YtlpmifofgacgiaaDoorPA
import Derived.Test.YtlpmifofgacgiaaDoorPI
import Derived.Test.YtlpmifofgacgiaaDoorGivenB
import Derived.Test.YtlpmifofgacgiaaDoorQ18
namespace Go.Proofs.YtlpmifofgacgiaaDoor.Q
open Go.RowKit Go.Proofs.YtlpmifofgacgiaaDoorW.PrintWords

/-! ### may -/
def mayS (n : Int) (x : In) : Bool :=
  if x.f0 = 1 then true else if x.f0 = 3 then decide (0 ≤ x.f1 ∧ x.f1 < 64)
  else if x.f0 = 20 ∨ x.f0 = 21 ∨ x.f0 = 22 then decide (0 ≤ x.f1 ∧ x.f1 < n)
  else if x.f0 = 24 then decide (1 ≤ x.f1 ∧ x.f1 ≤ 99) else decide (1 ≤ x.f0 ∧ x.f0 ≤ 25 ∧ x.f1 = 0)

theorem may_ev (n a b : Int) : Ev (fun k => code_may.f k a b n) (mayS n ⟨a, b⟩) := by
  refine ⟨1, fun k hk => ?_⟩
  obtain ⟨k, rfl⟩ : ∃ j, k = j + 1 := ⟨k - 1, by omega⟩
  simp only [code_may.f, code_may.j0, mayS]
  by_cases h1 : a = 1
  · simp [h1]
  by_cases h3 : a = 3
  · subst h3; by_cases hb : (0 : Int) ≤ b <;> simp [hb]
  by_cases h20 : a = 20
  · subst h20; by_cases hb : (0 : Int) ≤ b <;> simp [hb]
  by_cases h21 : a = 21
  · subst h21; by_cases hb : (0 : Int) ≤ b <;> simp [hb]
  by_cases h22 : a = 22
  · subst h22; by_cases hb : (0 : Int) ≤ b <;> simp [hb]
  by_cases h24 : a = 24
  · subst h24
    by_cases hb : (1 : Int) ≤ b
    · have : b > 0 := by omega
      simp [hb, this]; omega
    · have : ¬ b > 0 := by omega
      simp [hb, this]
  · have e22 : (a == 22) = false := beq_eq_false_iff_ne.2 h22
    by_cases ha : (1 : Int) ≤ a
    · by_cases hb : a ≤ 25
      · have ha' : a ≥ 1 := ha
        by_cases hz : b = 0 <;> simp [h1, h3, h20, h21, h22, h24, ha, hb, hz]
      · simp [h1, h3, h20, h21, h22, h24, ha, hb]
    · simp [h1, h3, h20, h21, h22, h24, ha]

theorem may13_ev (n a b : Int) : Ev (fun k => cloisterref13_may.f k a b n) (mayS n ⟨a, b⟩) := by
  refine ⟨2, fun k hk => ?_⟩
  obtain ⟨k, rfl⟩ : ∃ j, k = j + 2 := ⟨k - 2, by omega⟩
  simp only [cloisterref13_may.f, cloisterref13_may.j0, cloisterref13_may.j1, mayS]
  by_cases hlo : a < 1
  · have h1 : a ≠ 1 := by omega
    have h3 : a ≠ 3 := by omega
    have h20 : a ≠ 20 := by omega
    have h21 : a ≠ 21 := by omega
    have h22 : a ≠ 22 := by omega
    have h24 : a ≠ 24 := by omega
    have ha : ¬ (1 : Int) ≤ a := by omega
    simp [hlo, h1, h3, h20, h21, h22, h24, ha]
  by_cases hhi : a > 25
  · have h1 : a ≠ 1 := by omega
    have h3 : a ≠ 3 := by omega
    have h20 : a ≠ 20 := by omega
    have h21 : a ≠ 21 := by omega
    have h22 : a ≠ 22 := by omega
    have h24 : a ≠ 24 := by omega
    have ha : ¬ a ≤ 25 := by omega
    simp [hlo, hhi, h1, h3, h20, h21, h22, h24, ha]
  have d0 : decide (a > 25) = false := decide_eq_false hhi
  rw [if_neg hlo, d0, if_neg (by decide)]
  by_cases h1 : a = 1
  · simp [h1]
  by_cases h3 : a = 3
  · subst h3; by_cases hb : (0 : Int) ≤ b <;> simp [hb]
  by_cases h20 : a = 20
  · subst h20; by_cases hb : (0 : Int) ≤ b <;> simp [hb]
  by_cases h21 : a = 21
  · subst h21; by_cases hb : (0 : Int) ≤ b <;> simp [hb]
  by_cases h22 : a = 22
  · subst h22; by_cases hb : (0 : Int) ≤ b <;> simp [hb]
  by_cases h24 : a = 24
  · subst h24; by_cases hb : (1 : Int) ≤ b <;> simp [hb]
  · have e22 : (a == 22) = false := beq_eq_false_iff_ne.2 h22
    have ha : (1 : Int) ≤ a := by omega
    have hb : a ≤ 25 := by omega
    by_cases hz : b = 0 <;> simp [h1, h3, h20, h21, h22, h24, ha, hb, hz]

/-! ### Check -/
def badS (n : Int) : List In → Int → Option Int
  | [], _ => none
  | x :: l, i => if mayS n x = true then badS n l (i + 1) else some i
def outS : Option Int → Int × Int
  | none => (0, 0)
  | some i => (130, i)
def checkS (l : List In) : Int × Int := if l.length < 1 ∨ 1024 < l.length then (2, 0) else outS (badS l.length l 0)

theorem bad_ev (n : Int) : ∀ (l : List In) (i : Int), Ev (fun k => code_bad k n l i) (badS n l i) := by
  intro l
  induction l with
  | nil => intro i; exact Ev.now _
  | cons x l ih =>
    intro i
    simp only [code_bad, badS]
    refine Ev.bind (may_ev n x.f0 x.f1) ?_
    by_cases h : mayS n ⟨x.f0, x.f1⟩ = true
    · rw [if_pos (show mayS n x = true from h)]; exact Ev.pos h (ih _)
    · rw [if_neg (show ¬ mayS n x = true from h)]; exact Ev.neg h (Ev.now _)

theorem check_ev (l : List In) : Ev (fun k => code_Check.f k l) (checkS l) := by
  unfold code_Check.f checkS
  by_cases h1 : l.length < 1
  · rw [if_pos (.inl h1)]; exact Ev.pos h1 (Ev.now _)
  refine Ev.neg h1 ?_
  by_cases h2 : 1024 < l.length
  · rw [if_pos (.inr h2)]; exact Ev.pos h2 (Ev.now _)
  refine Ev.neg h2 ?_
  rw [if_neg (fun h => h.elim h1 h2)]
  refine Ev.bind (bad_ev _ l 0) ?_
  cases badS l.length l 0 <;> exact Ev.now _

theorem check13_loop (l : List In) (hl : l.length ≤ 1024) : ∀ (g i : Nat), i + g = l.length → Ev (fun k => cloisterref13_Check.l0 k l (i : Int)) (outS (badS l.length (l.drop i) i)) := by
  intro g
  induction g with
  | zero =>
    intro i hi
    obtain rfl : i = l.length := by omega
    rw [List.drop_length]
    refine Ev.step (fun k => by rw [cloisterref13_Check.l0]) ?_
    exact Ev.neg (by omega) (Ev.now _)
  | succ g ih =>
    intro i hi
    have hlt : i < l.length := by omega
    have hel : rd_T85 l (i : Int) = l[i] := by simp [rd_T85, List.getD_eq_getElem?_getD, hlt]
    rw [List.drop_eq_getElem_cons hlt, badS]
    refine Ev.step (fun k => by rw [cloisterref13_Check.l0]) ?_
    refine Ev.pos (by omega) (Ev.pos (by omega) ?_)
    rw [hel]
    refine Ev.bind (may13_ev _ _ _) ?_
    by_cases h : mayS l.length ⟨l[i].f0, l[i].f1⟩ = true
    · rw [if_pos (show mayS l.length l[i] = true from h)]
      refine Ev.pos h ?_
      rw [wr_succ i (by omega)]
      have := ih (i + 1) (by omega)
      simpa using this
    · rw [if_neg (show ¬ mayS l.length l[i] = true from h)]
      exact Ev.neg h (Ev.now _)

theorem check13_ev (l : List In) : Ev (fun k => cloisterref13_Check.f k l) (checkS l) := by
  unfold cloisterref13_Check.f checkS
  by_cases h1 : l.length < 1
  · rw [if_pos (.inl h1)]
    exact Ev.pos (by omega) (Ev.step (fun k => by rw [cloisterref13_Check.j0, if_pos rfl]) (Ev.now _))
  refine Ev.neg (by omega) ?_
  by_cases h2 : 1024 < l.length
  · rw [if_pos (.inr h2)]
    have d : decide ((l.length : Int) > 1024) = true := decide_eq_true (by omega)
    rw [d]
    exact Ev.step (fun k => by rw [cloisterref13_Check.j0, if_pos rfl]) (Ev.now _)
  rw [if_neg (fun h => h.elim h1 h2)]
  have d : decide ((l.length : Int) > 1024) = false := decide_eq_false (by omega)
  rw [d]
  refine Ev.step (fun k => by rw [cloisterref13_Check.j0, if_neg (by decide)]) ?_
  have := check13_loop l (by omega) l.length 0 (by omega)
  simpa using this

theorem badS_some (n : Int) : ∀ (l : List In) (i j : Int), badS n l i = some j → ∃ m : Nat, j = i + m ∧ m < l.length := by
  intro l
  induction l with
  | nil => intro i j h; cases h
  | cons x l ih =>
    intro i j h
    rw [badS] at h
    split at h
    · obtain ⟨m, hm, hl⟩ := ih _ _ h
      exact ⟨m + 1, by rw [hm]; push_cast; omega, by simpa using hl⟩
    · cases h; exact ⟨0, by simp, by simp⟩
theorem badS_none (n : Int) : ∀ (l : List In) (i : Int), badS n l i = none ↔ ∀ x ∈ l, mayS n x = true := by
  intro l
  induction l with
  | nil => intro i; simp [badS]
  | cons x l ih =>
    intro i
    rw [badS]
    by_cases h : mayS n x = true
    · rw [if_pos h, ih]; simp [h]
    · rw [if_neg h]; simp [h]
theorem checkS_ok (l : List In) : (checkS l).1 = 0 ↔ 1 ≤ l.length ∧ l.length ≤ 1024 ∧ ∀ x ∈ l, mayS l.length x = true := by
  unfold checkS
  by_cases h1 : l.length < 1 ∨ 1024 < l.length
  · rw [if_pos h1]; constructor
    · intro h; cases h
    · intro h; omega
  rw [if_neg h1]
  rw [← badS_none _ l 0]
  cases h : badS (l.length) l 0 with
  | none => simp [outS]; omega
  | some i => simp [outS]
theorem checkS_snd {l : List In} (h : (checkS l).1 = 0) : (checkS l).2 = 0 := by
  unfold checkS at h ⊢
  split at h
  · cases h
  · rename_i h1
    rw [if_neg h1]
    revert h
    cases badS (l.length) l 0 <;> simp [outS]
theorem mayS_op {n : Int} {x : In} (h : mayS n x = true) : 1 ≤ x.f0 ∧ x.f0 ≤ 25 := by
  unfold mayS at h
  split at h
  · omega
  split at h
  · omega
  split at h
  · omega
  split at h
  · omega
  · have := of_decide_eq_true h; omega

/-! ### Name, takes -/
def namesS : List ByteArray := [(⟨#[112, 117, 115, 104]⟩ : ByteArray), (⟨#[112, 111, 112]⟩ : ByteArray), (⟨#[100, 117, 112]⟩ : ByteArray), (⟨#[115, 119, 97, 112]⟩ : ByteArray), (⟨#[97, 100, 100]⟩ : ByteArray), (⟨#[115, 117, 98]⟩ : ByteArray), (⟨#[109, 117, 108]⟩ : ByteArray), (⟨#[100, 105, 118]⟩ : ByteArray), (⟨#[114, 101, 109]⟩ : ByteArray), (⟨#[97, 110, 100]⟩ : ByteArray), (⟨#[111, 114]⟩ : ByteArray), (⟨#[120, 111, 114]⟩ : ByteArray), (⟨#[115, 104, 108]⟩ : ByteArray), (⟨#[115, 104, 114]⟩ : ByteArray), (⟨#[101, 113]⟩ : ByteArray), (⟨#[108, 101, 115, 115]⟩ : ByteArray), (⟨#[110, 111, 116]⟩ : ByteArray), (⟨#[108, 111, 97, 100]⟩ : ByteArray), (⟨#[115, 116, 111, 114, 101]⟩ : ByteArray), (⟨#[106, 117, 109, 112]⟩ : ByteArray), (⟨#[105, 102]⟩ : ByteArray), (⟨#[99, 97, 108, 108]⟩ : ByteArray), (⟨#[114, 101, 116]⟩ : ByteArray), (⟨#[116, 114, 97, 112]⟩ : ByteArray), (⟨#[104, 97, 108, 116]⟩ : ByteArray)]
theorem names_eq : code_names.f = some namesS := rfl
def nameB (op : Int) : ByteArray := namesS.getD (op - 1).toNat ByteArray.empty
def nameS (op : Int) : Bs := bytes (nameB op)
def nameE (op : Int) : ByteArray × Int := if op < 1 ∨ op > 25 then (⟨#[]⟩, 3) else (nameB op, 0)

theorem name_eq (op : Int) : code_Name.f op = some (nameE op) := by
  unfold code_Name.f nameE
  by_cases h1 : op < 1
  · rw [if_pos h1, if_pos (.inl h1)]
  by_cases h2 : op > 25
  · rw [if_neg h1, if_pos h2, if_pos (.inr h2)]
  rw [if_neg h1, if_neg h2, if_neg (fun h => h.elim h1 h2), names_eq, Option.bind_some, wr_id (by omega) (by omega), if_pos (by omega), if_pos (show op - 1 < (namesS.length : Int) by have : namesS.length = 25 := rfl; omega)]
  rfl
theorem name13_eq (op : Int) : cloisterref13_Name.f op = some (nameE op) := by
  rw [← name_eq op]
  unfold cloisterref13_Name.f code_Name.f
  rw [names_eq]
  rfl
theorem nameE_ok {op : Int} (h : 1 ≤ op ∧ op ≤ 25) : nameE op = (nameB op, 0) := by unfold nameE; rw [if_neg (by omega)]
theorem nameB_size (op : Int) : (nameB op).size ≤ 5 := by
  unfold nameB
  rw [List.getD_eq_getElem?_getD]
  cases h : namesS[(op - 1).toNat]? with
  | none => simp
  | some s =>
    have hm := List.mem_of_getElem? h
    have : ∀ s ∈ namesS, s.size ≤ 5 := by decide
    exact this s hm

def hasS (op : Int) : Bool := decide (op = 1 ∨ op = 3 ∨ op = 20 ∨ op = 21 ∨ op = 22 ∨ op = 24)
theorem takes_ev (op : Int) : Ev (fun k => code_takes.f k op) (hasS op) := by
  refine ⟨7, fun k hk => ?_⟩
  obtain ⟨k, rfl⟩ : ∃ j, k = j + 7 := ⟨k - 7, by omega⟩
  simp only [code_takes.f, slices_Contains_int_int.f, slices_Index_int_int.f, slices_Index_int_int.l0, hasS]
  have w0 : wrap64 (0 + 1) = 1 := by rw [wr_id (by omega) (by omega)]; rfl
  have w1 : wrap64 (1 + 1) = 2 := by rw [wr_id (by omega) (by omega)]; rfl
  have w2 : wrap64 (2 + 1) = 3 := by rw [wr_id (by omega) (by omega)]; rfl
  have w3 : wrap64 (3 + 1) = 4 := by rw [wr_id (by omega) (by omega)]; rfl
  have w4 : wrap64 (4 + 1) = 5 := by rw [wr_id (by omega) (by omega)]; rfl
  have w5 : wrap64 (5 + 1) = 6 := by rw [wr_id (by omega) (by omega)]; rfl
  simp only [w0, w1, w2, w3, w4, w5, List.length_cons, List.length_nil, rdOf]
  have r0 : rd ([1, 3, 20, 21, 22, 24] : List Int) 0 = 1 := rfl
  have r1 : rd ([1, 3, 20, 21, 22, 24] : List Int) 1 = 3 := rfl
  have r2 : rd ([1, 3, 20, 21, 22, 24] : List Int) 2 = 20 := rfl
  have r3 : rd ([1, 3, 20, 21, 22, 24] : List Int) 3 = 21 := rfl
  have r4 : rd ([1, 3, 20, 21, 22, 24] : List Int) 4 = 22 := rfl
  have r5 : rd ([1, 3, 20, 21, 22, 24] : List Int) 5 = 24 := rfl
  simp only [r0, r1, r2, r3, r4, r5]
  by_cases h1 : op = 1
  · simp [h1]
  by_cases h3 : op = 3
  · simp [h3]
  by_cases h20 : op = 20
  · simp [h20]
  by_cases h21 : op = 21
  · simp [h21]
  by_cases h22 : op = 22
  · simp [h22]
  by_cases h24 : op = 24
  · simp [h24]
  simp [h1, h3, h20, h21, h22, h24]
theorem hasA_eq (op : Int) : cloisterref13_hasA.f op = some (hasS op) := by
  unfold cloisterref13_hasA.f hasS
  by_cases h1 : op = 1
  · simp [h1]
  by_cases h3 : op = 3
  · simp [h3]
  by_cases h20 : op = 20
  · simp [h20]
  by_cases h21 : op = 21
  · simp [h21]
  by_cases h22 : op = 22
  · simp [h22]
  by_cases h24 : op = 24
  · simp [h24]
  simp [h1, h3, h20, h21, h22, h24]

/-! ### Print -/
def lineS (x : In) : Bs := nameS x.f0 ++ (if hasS x.f0 = true then 32 :: itoaL x.f1 else [])
def printS : List In → Bs
  | [] => []
  | x :: l => lineS x ++ 10 :: printS l
def printE (l : List In) : ByteArray × Int := if (checkS l).1 = 0 then (⟨(printS l).toArray⟩, 0) else (⟨#[]⟩, (checkS l).1)
theorem printS_append (a b : List In) : printS (a ++ b) = printS a ++ printS b := by
  induction a with
  | nil => rfl
  | cons x a ih => simp [printS, ih]
theorem itoa_ok {n : Int} (h : i64ok n) : strconv_Itoa.f n = some ⟨(itoaL n).toArray⟩ := by unfold strconv_Itoa.f; exact if_pos h
theorem itoaF_length : ∀ (f u : Nat), (itoaF f u).length ≤ f := by
  intro f
  induction f with
  | zero => intro u; simp [itoaF]
  | succ f ih =>
    intro u
    rw [itoaF]
    split
    · simp
    · have := ih (u / 10)
      simp
      omega
theorem itoaL_length {n : Int} (_h : i64ok n) : (itoaL n).length ≤ 21 := by
  unfold itoaL
  split
  · have := itoaF_length 20 n.natAbs
    simp
    omega
  · have := itoaF_length 20 n.toNat
    omega
theorem lineS_length {x : In} (h : i64ok x.f1) : (lineS x).length ≤ 27 := by
  have h1 : (nameS x.f0).length ≤ 5 := by have := nameB_size x.f0; rw [size_bytes] at this; exact this
  have h2 := itoaL_length h
  unfold lineS
  split <;> simp <;> omega
theorem printS_length : ∀ (l : List In), (∀ x ∈ l, i64ok x.f1) → (printS l).length ≤ 28 * l.length := by
  intro l
  induction l with
  | nil => intro _; simp [printS]
  | cons x l ih =>
    intro h
    have h1 := lineS_length (h x (by simp))
    have h2 := ih (fun y hy => h y (by simp [hy]))
    simp [printS]
    omega

theorem text_ev : ∀ (l : List In) (acc : Bs), (∀ x ∈ l, i64ok x.f1 ∧ 1 ≤ x.f0 ∧ x.f0 ≤ 25) → acc.length + 28 * l.length ≤ bigLen → Ev (fun k => code_text k l acc) (acc ++ printS l) := by
  intro l
  induction l with
  | nil => intro acc _ _; simp only [code_text, printS, List.append_nil]; exact Ev.now _
  | cons x l ih =>
    intro acc h hb
    obtain ⟨hx, hop⟩ := h x (by simp)
    have hl := fun y hy => h y (List.mem_cons_of_mem x hy)
    have hn : (nameB x.f0).size ≤ 5 := nameB_size x.f0
    have hn' : (bytes (nameB x.f0)).length ≤ 5 := by rw [← size_bytes]; exact hn
    have hi := itoaL_length hx
    simp only [List.length_cons] at hb
    simp only [code_text]
    refine Ev.bindC (name_eq x.f0) ?_
    rw [nameE_ok hop]
    refine Ev.bind (takes_ev x.f0) ?_
    by_cases ht : hasS x.f0 = true
    · refine Ev.pos ht ?_
      refine Ev.bindC (itoa_ok hx) ?_
      have hz : (⟨(itoaL x.f1).toArray⟩ : ByteArray).size = (itoaL x.f1).length := by simp [ByteArray.size]
      refine Ev.pos (by rw [hz]; show acc.length + (nameB x.f0).size + 1 + _ + 1 ≤ bigLen; omega) ?_
      have := ih (acc ++ (nameB x.f0).data.toList ++ (32 :: itoaL x.f1) ++ [10]) hl (by simp only [List.length_append, List.length_cons, List.length_nil]; have : (nameB x.f0).data.toList.length ≤ 5 := hn'; omega)
      refine Ev.congr (fun k => rfl) ?_
      have e : acc ++ printS (x :: l) = acc ++ (nameB x.f0).data.toList ++ (32 :: itoaL x.f1) ++ [10] ++ printS l := by
        simp [printS, lineS, ht, nameS, bytes]
      rw [e]
      exact this
    · refine Ev.neg ht ?_
      refine Ev.pos (by show acc.length + (nameB x.f0).size + 1 ≤ bigLen; omega) ?_
      have := ih (acc ++ (nameB x.f0).data.toList ++ [10]) hl (by simp only [List.length_append, List.length_cons, List.length_nil]; have : (nameB x.f0).data.toList.length ≤ 5 := hn'; omega)
      have e : acc ++ printS (x :: l) = acc ++ (nameB x.f0).data.toList ++ [10] ++ printS l := by
        simp [printS, lineS, ht, nameS, bytes]
      rw [e]
      exact this

theorem print_ev (l : List In) (h : ∀ x ∈ l, inOk x) : Ev (fun k => code_Print.f k l) (printE l) := by
  unfold code_Print.f printE
  refine Ev.bind (check_ev l) ?_
  by_cases h0 : (checkS l).1 = 0
  · rw [if_pos h0]
    refine Ev.pos h0 ?_
    obtain ⟨h1, h2, h3⟩ := (checkS_ok l).1 h0
    refine Ev.bind (text_ev l [] (fun x hx => ⟨(h x hx).2, mayS_op (h3 x hx)⟩) (by unfold bigLen; simp; omega)) ?_
    exact Ev.now _
  · rw [if_neg h0]
    exact Ev.neg h0 (Ev.now _)

theorem print13_loop (l : List In) (hl : l.length ≤ 1024) (h : ∀ x ∈ l, i64ok x.f1 ∧ 1 ≤ x.f0 ∧ x.f0 ≤ 25) : ∀ (g i : Nat) (acc : ByteArray), i + g = l.length → acc.size ≤ 28 * i →
    Ev (fun k => cloisterref13_Print.l0 k l acc (i : Int)) (⟨(bytes acc ++ printS (l.drop i)).toArray⟩, 0) := by
  intro g
  induction g with
  | zero =>
    intro i acc hi _
    obtain rfl : i = l.length := by omega
    rw [List.drop_length]
    refine Ev.step (fun k => by rw [cloisterref13_Print.l0]) ?_
    refine Ev.neg (by omega) ?_
    simp only [printS, List.append_nil, mk_bytes]
    exact Ev.now _
  | succ g ih =>
    intro i acc hi ha
    have hlt : i < l.length := by omega
    have hel : rd_T85 l (i : Int) = l[i] := by simp [rd_T85, List.getD_eq_getElem?_getD, hlt]
    rw [List.drop_eq_getElem_cons hlt]
    obtain ⟨hx, hop⟩ := h l[i] (List.getElem_mem hlt)
    have hn : (nameB l[i].f0).size ≤ 5 := nameB_size _
    have hz : (⟨(itoaL l[i].f1).toArray⟩ : ByteArray).size = (itoaL l[i].f1).length := by simp [ByteArray.size]
    have hiL := itoaL_length hx
    refine Ev.step (fun k => by rw [cloisterref13_Print.l0]) ?_
    refine Ev.pos (by omega) (Ev.pos (by omega) ?_)
    rw [hel]
    refine Ev.bindC (name13_eq _) ?_
    rw [nameE_ok hop]
    refine Ev.pos (by show acc.size + (nameB l[i].f0).size ≤ _; omega) ?_
    refine Ev.bindC (hasA_eq _) ?_
    have c1 : (⟨#[32]⟩ : ByteArray).size = 1 := rfl
    have c2 : (⟨#[10]⟩ : ByteArray).size = 1 := rfl
    by_cases ht : hasS l[i].f0 = true
    · refine Ev.pos ht ?_
      refine Ev.pos (by rw [ByteArray.size_append]; show acc.size + (nameB l[i].f0).size + 1 ≤ _; omega) ?_
      refine Ev.bindC (itoa_ok hx) ?_
      refine Ev.pos (by rw [ByteArray.size_append, ByteArray.size_append, hz, c1]; show acc.size + (nameB l[i].f0).size + 1 + _ ≤ _; omega) ?_
      refine Ev.pos (by rw [ByteArray.size_append, ByteArray.size_append, ByteArray.size_append, hz, c1]; show acc.size + (nameB l[i].f0).size + 1 + _ + 1 ≤ _; omega) ?_
      rw [wr_succ i (by omega)]
      have := ih (i + 1) (acc ++ nameB l[i].f0 ++ (⟨#[32]⟩ : ByteArray) ++ ⟨(itoaL l[i].f1).toArray⟩ ++ (⟨#[10]⟩ : ByteArray)) (by omega)
        (by rw [ByteArray.size_append, ByteArray.size_append, ByteArray.size_append, ByteArray.size_append, hz, c1, c2]; omega)
      refine Ev.congr (fun k => rfl) ?_
      have e : bytes acc ++ printS (l[i] :: l.drop (i + 1)) = bytes (acc ++ nameB l[i].f0 ++ (⟨#[32]⟩ : ByteArray) ++ ⟨(itoaL l[i].f1).toArray⟩ ++ (⟨#[10]⟩ : ByteArray)) ++ printS (l.drop (i + 1)) := by
        simp only [bytes_append, printS, lineS, if_pos ht, nameS, bytes_mk]
        simp [bytes]
      rw [e]
      exact this
    · refine Ev.neg ht ?_
      refine Ev.pos (by rw [ByteArray.size_append]; show acc.size + (nameB l[i].f0).size + 1 ≤ _; omega) ?_
      rw [wr_succ i (by omega)]
      have := ih (i + 1) (acc ++ nameB l[i].f0 ++ (⟨#[10]⟩ : ByteArray)) (by omega)
        (by rw [ByteArray.size_append, ByteArray.size_append, c2]; omega)
      refine Ev.congr (fun k => rfl) ?_
      have e : bytes acc ++ printS (l[i] :: l.drop (i + 1)) = bytes (acc ++ nameB l[i].f0 ++ (⟨#[10]⟩ : ByteArray)) ++ printS (l.drop (i + 1)) := by
        simp only [bytes_append, printS, lineS, if_neg ht, nameS]
        simp [bytes]
      rw [e]
      exact this

theorem print13_ev (l : List In) (h : ∀ x ∈ l, inOk x) : Ev (fun k => cloisterref13_Print.f k l) (printE l) := by
  unfold cloisterref13_Print.f printE
  refine Ev.bind (check13_ev l) ?_
  by_cases h0 : (checkS l).1 = 0
  · rw [if_pos h0]
    refine Ev.pos h0 ?_
    obtain ⟨h1, h2, h3⟩ := (checkS_ok l).1 h0
    have := print13_loop l h2 (fun x hx => ⟨(h x hx).2, mayS_op (h3 x hx)⟩) l.length 0 ⟨#[]⟩ (by omega) (by simp [ByteArray.size])
    exact this
  · rw [if_neg h0]
    exact Ev.neg h0 (Ev.now _)
end Go.Proofs.YtlpmifofgacgiaaDoor.Q
