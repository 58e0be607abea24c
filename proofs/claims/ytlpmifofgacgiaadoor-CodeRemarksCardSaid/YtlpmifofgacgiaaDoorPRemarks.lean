/- CodeRemarks: the plain law. -/
import Derived.Test.YtlpmifofgacgiaaDoorPB
import Derived.Test.YtlpmifofgacgiaaDoorPM
import Derived.Test.YtlpmifofgacgiaaDoorPAwake
import Derived.Test.YtlpmifofgacgiaaDoorQ25
namespace Go.Proofs.YtlpmifofgacgiaaDoor.Q
open Go.RowKit Go.Proofs.YtlpmifofgacgiaaDoorW.PrintWords

/-- The text with a remark behind each line. -/
def remS (r : Bs) : Bs → Bs
  | [] => []
  | c :: s => if c = 10 then [32, 9, 59] ++ r ++ [10, 32, 9] ++ remS r s else c :: remS r s
theorem remS_app (r a b : Bs) : remS r (a ++ b) = remS r a ++ remS r b := by
  induction a with
  | nil => rfl
  | cons c a ih =>
    rw [List.cons_append, remS, remS, ih]
    split <;> simp
theorem remS_line (r : Bs) : ∀ a : Bs, (10 : UInt8) ∉ a → remS r a = a := by
  intro a
  induction a with
  | nil => intro _; rfl
  | cons c a ih =>
    intro h
    simp only [List.mem_cons, not_or] at h
    rw [remS, if_neg (fun e => h.1 e.symm), ih h.2]
theorem blanks2 : ∀ x ∈ ([32, 9] : Bs), blank x = true := by decide
theorem rem_says (r : Bs) (hr : (10 : UInt8) ∉ r) : ∀ (l : List In) (lead2 : Bs), lead2 = [] ∨ lead2 = [32, 9] → (∀ x ∈ l, i64ok x.f1 ∧ 1 ≤ x.f0 ∧ x.f0 ≤ 25) → Says (linesOf 10 (lead2 ++ remS r (printS l))) l := by
  intro l
  induction l with
  | nil =>
    intro p hp _
    have hn : (10 : UInt8) ∉ p := by rcases hp with rfl | rfl <;> decide
    rw [show remS r (printS []) = [] from rfl, List.append_nil, linesOf_one 10 p hn]
    refine Says.skip ?_ Says.nil
    rcases hp with rfl | rfl
    · rfl
    · exact trim_blank blanks2
  | cons x l ih =>
    intro p hp h
    obtain ⟨hi, hop⟩ := h x (by simp)
    have hb := line_bytes hop hi
    have hn : (10 : UInt8) ∉ p := by rcases hp with rfl | rfl <;> decide
    have h59 : (59 : UInt8) ∉ p := by rcases hp with rfl | rfl <;> decide
    have hpb : ∀ x ∈ p, blank x = true := by
      rcases hp with rfl | rfl
      · intro x hx; cases hx
      · exact blanks2
    have hl10 : (10 : UInt8) ∉ lineS x := fun hm => (hb 10 hm).1 rfl
    have hl59 : (59 : UInt8) ∉ lineS x := fun hm => (hb 59 hm).2 rfl
    have e : p ++ remS r (printS (x :: l)) = (p ++ (lineS x ++ ([32, 9] ++ 59 :: r))) ++ 10 :: ([32, 9] ++ remS r (printS l)) := by
      rw [printS, remS_app, remS_line r _ hl10, remS, if_pos rfl]
      simp
    rw [e, linesOf_app 10 _ _ (by
      simp only [List.mem_append, List.mem_cons, not_or]
      exact ⟨hn, hl10, ⟨by decide, by decide, by simp⟩, by decide, hr⟩)]
    refine Says.say ?_ (ih [32, 9] (.inr rfl) (fun y hy => h y (by simp [hy])))
    have eu : upto 59 (p ++ (lineS x ++ ([32, 9] ++ 59 :: r))) = p ++ (lineS x ++ [32, 9]) := by
      rw [upto_app 59 p _ h59, upto_app 59 _ _ hl59]
      congr 2
    rw [eu]
    obtain ⟨h0, h1, h2⟩ := line_ends hop hi
    exact trim_around p (lineS x) [32, 9] hpb blanks2 h0 h1 h2
theorem rem_parse {l : List In} {r : Bs} (hr : (10 : UInt8) ∉ r) (hi : ∀ x ∈ l, inOk x) (hc : (checkS l).1 = 0) (hsz : (59 :: r ++ [10, 10] ++ remS r (printS l)).length ≤ 262144) :
    parseS (59 :: r ++ [10, 10] ++ remS r (printS l)) = (l, 0, 0) := by
  obtain ⟨_, h2, hm⟩ := (checkS_ok l).1 hc
  refine says_parse hsz ?_ hi hc
  have e : 59 :: r ++ [10, 10] ++ remS r (printS l) = (59 :: r) ++ 10 :: (([] : Bs) ++ 10 :: ([] ++ remS r (printS l))) := by simp
  rw [e, linesOf_app 10 _ _ (by simp only [List.mem_cons, not_or]; exact ⟨by decide, hr⟩), linesOf_app 10 _ _ (by simp)]
  refine Says.skip ?_ (Says.skip rfl (rem_says r hr l [] (.inl rfl) (fun x hx => ⟨(hi x hx).2, mayS_op (hm x hx)⟩)))
  rfl
theorem remP_length (r : Bs) : ∀ l : List In, (∀ x ∈ l, i64ok x.f1 ∧ 1 ≤ x.f0 ∧ x.f0 ≤ 25) → (remS r (printS l)).length ≤ (r.length + 33) * l.length := by
  intro l
  induction l with
  | nil => intro _; simp [printS, remS]
  | cons x l ih =>
    intro h
    obtain ⟨hi, hop⟩ := h x (by simp)
    have hb := line_bytes hop hi
    have h1 := lineS_length hi
    have h2 := ih (fun y hy => h y (by simp [hy]))
    rw [printS, remS_app, remS_line r _ (fun hm => (hb 10 hm).1 rfl), remS, if_pos rfl, List.length_cons, Nat.mul_succ]
    simp only [List.length_append, List.length_cons, List.length_nil]
    omega

theorem done13 : Ev (fun k => (cloisterlaw13_awake.f k).bind fun t406 => (some t406)) true := Ev.bind awake13_ev (Ev.now true)
theorem rem_build (l : List In) (r s : ByteArray) (hr : r.size ≤ 40) (hs : s.size ≤ 65536) (R : Bool)
    (h : ∀ x : ByteArray, bytes x = 59 :: bytes r ++ [10, 10] ++ remS (bytes r) (bytes s) → Ev (fun k => (code_Parse.f k x).bind fun bt436 => (if bt436.2.1 = 0 then (if bt436.2.2 = 0 then ((cloisterref13_Same.f k bt436.1 l).bind fun t441 => (if t441 = true then ((cloisterlaw13_awake.f k).bind fun t442 => (some t442)) else (some false))) else (some false)) else (some false))) R) :
    ∀ (rest pre : Bs) (x : ByteArray), bytes s = pre ++ rest → bytes x = 59 :: bytes r ++ [10, 10] ++ remS (bytes r) pre → x.size ≤ 43 + 46 * pre.length → Ev (fun k => cloisterlaw13_CodeRemarks.l1 k l r s x (pre.length : Int)) R := by
  have hss := size_bytes s
  intro rest
  induction rest with
  | nil =>
    intro pre x hp hx _
    rw [List.append_nil] at hp
    refine Ev.step (fun k => by rw [cloisterlaw13_CodeRemarks.l1]) ?_
    refine Ev.neg (by rw [hss, hp]; omega) ?_
    exact h x (by rw [hp]; exact hx)
  | cons c q ih =>
    intro pre x hp hx hxs
    have hl : s.size = pre.length + (q.length + 1) := by rw [hss, hp, List.length_append, List.length_cons]
    have hb : bt s (pre.length : Int) = (c.toNat : Int) := bt_mid hp
    have c1 : (⟨#[32, 9, 59]⟩ : ByteArray).size = 3 := rfl
    have c2 : (⟨#[10, 32, 9]⟩ : ByteArray).size = 3 := rfl
    have el : (pre ++ [c]).length = pre.length + 1 := by rw [List.length_append]; rfl
    refine Ev.step (fun k => by rw [cloisterlaw13_CodeRemarks.l1]) ?_
    refine Ev.pos (by omega) (Ev.pos (by omega) ?_)
    rw [hb, wr_succ pre.length (by omega)]
    by_cases hc : c.toNat = 10
    · have hc' : c = 10 := u8_eq hc
      subst hc'
      refine Ev.pos (by omega) (Ev.pos (by omega) (Ev.pos (by rw [ByteArray.size_append, c1]; omega) (Ev.pos (by rw [ByteArray.size_append, ByteArray.size_append, c1]; omega) ?_)))
      have := ih (pre ++ [10]) (((x ++ (⟨#[32, 9, 59]⟩ : ByteArray)) ++ r) ++ (⟨#[10, 32, 9]⟩ : ByteArray)) (by rw [hp]; simp)
        (by rw [bytes_append, bytes_append, bytes_append, hx, remS_app]; simp [remS, bytes])
        (by rw [ByteArray.size_append, ByteArray.size_append, ByteArray.size_append, c1, c2, el]; omega)
      rw [el] at this
      exact this
    · have hex : bytes (s.extract ((pre.length : Int)).toNat (((pre.length + 1 : Nat) : Int)).toNat) = [c] := by
        rw [Int.toNat_natCast, Int.toNat_natCast, bytes_extract, hp, List.drop_left' rfl]
        have : pre.length + 1 - pre.length = 1 := by omega
        rw [this]
        rfl
      have hes : (s.extract ((pre.length : Int)).toNat (((pre.length + 1 : Nat) : Int)).toNat).size = 1 := by rw [size_bytes, hex]; rfl
      refine Ev.neg (by omega) (Ev.pos (by omega) (Ev.pos (by omega) (Ev.pos (by rw [hes]; omega) ?_)))
      have := ih (pre ++ [c]) (x ++ s.extract ((pre.length : Int)).toNat (((pre.length + 1 : Nat) : Int)).toNat) (by rw [hp]; simp)
        (by rw [bytes_append, hex, hx, remS_app, remS, if_neg (fun e => hc (by rw [e]; rfl))]; simp [remS])
        (by rw [ByteArray.size_append, hes, el]; omega)
      rw [el] at this
      exact this

theorem codeRemarks_pure (l : List In) (r : ByteArray) (hl : ∀ x ∈ l, inOk x) : ∃ k, cloisterlaw13_CodeRemarks.f k l r = some true := by
  apply Ev.rounds
  unfold cloisterlaw13_CodeRemarks.f
  have stop : ∀ (s : ByteArray) (e : Int), e = (checkS l).1 → Ev (fun k => cloisterlaw13_CodeRemarks.j0 k l r s e true) true := by
    intro s e he
    refine Ev.step (fun k => by rw [cloisterlaw13_CodeRemarks.j0, if_pos rfl]) ?_
    refine Ev.bind (check13_ev l) ?_
    exact Ev.pos he done13
  refine Ev.bind (print_ev l hl) ?_
  by_cases h0 : (checkS l).1 = 0
  · have e : printE l = (⟨(printS l).toArray⟩, 0) := if_pos h0
    rw [e]
    refine Ev.pos rfl ?_
    by_cases h40 : (r.size : Int) > 40
    · have d : decide ((r.size : Int) > 40) = true := decide_eq_true h40
      rw [d]
      exact stop _ _ h0.symm
    · have d : decide ((r.size : Int) > 40) = false := decide_eq_false h40
      rw [d]
      refine Ev.step (fun k => by rw [cloisterlaw13_CodeRemarks.j0, if_neg (by decide)]) ?_
      obtain ⟨_, h2, hm⟩ := (checkS_ok l).1 h0
      have hx : ∀ x ∈ l, i64ok x.f1 ∧ 1 ≤ x.f0 ∧ x.f0 ≤ 25 := fun x hx => ⟨(hl x hx).2, mayS_op (hm x hx)⟩
      have hpl := printS_length l (fun x hx => (hl x hx).2)
      have hsz : (⟨(printS l).toArray⟩ : ByteArray).size ≤ 65536 := by rw [size_mk]; omega
      have hrs := size_bytes r
      have hr40 : r.size ≤ 40 := by omega
      have loop : ∀ (rest pre : Bs), bytes r = pre ++ rest → (10 : UInt8) ∉ pre → Ev (fun k => cloisterlaw13_CodeRemarks.l0 k l r ⟨(printS l).toArray⟩ (pre.length : Int)) true := by
        intro rest
        induction rest with
        | nil =>
          intro pre hp h10
          rw [List.append_nil] at hp
          have c1 : (⟨#[59]⟩ : ByteArray).size = 1 := rfl
          refine Ev.step (fun k => by rw [cloisterlaw13_CodeRemarks.l0]) ?_
          refine Ev.neg (by rw [hrs, hp]; omega) (Ev.pos (by omega) (Ev.pos (by rw [ByteArray.size_append, c1]; omega) ?_))
          refine rem_build l r ⟨(printS l).toArray⟩ hr40 hsz true ?_ (printS l) [] _ rfl ?_ ?_
          · intro x hxb
            have hp2 := parse_ev x
            have hlen := remP_length (bytes r) l hx
            have hmul : ((bytes r).length + 33) * l.length ≤ 73 * 1024 := Nat.mul_le_mul (by omega) h2
            rw [hxb, bytes_mk (printS l), rem_parse (by rw [hp]; exact h10) hl h0 (by
              simp only [List.length_append, List.length_cons, List.length_nil]
              omega)] at hp2
            refine Ev.bind hp2 (Ev.pos rfl (Ev.pos rfl ?_))
            refine Ev.bind (same_ev l (Nat.lt_of_le_of_lt h2 (by decide))) ?_
            exact Ev.pos rfl done13
          · rw [bytes_append, bytes_append]
            simp [remS, bytes]
          · have c2 : (⟨#[10, 10]⟩ : ByteArray).size = 2 := rfl
            rw [ByteArray.size_append, ByteArray.size_append, c1, c2]
            simp
            omega
        | cons c q ih =>
          intro pre hp h10
          have hl2 : r.size = pre.length + (q.length + 1) := by rw [hrs, hp, List.length_append, List.length_cons]
          have hb : bt r (pre.length : Int) = (c.toNat : Int) := bt_mid hp
          refine Ev.step (fun k => by rw [cloisterlaw13_CodeRemarks.l0]) ?_
          refine Ev.pos (by omega) (Ev.pos (by omega) ?_)
          rw [hb, wr_succ pre.length (by omega)]
          by_cases hc : c.toNat = 10
          · exact Ev.pos (by omega) done13
          · refine Ev.neg (by omega) ?_
            have := ih (pre ++ [c]) (by rw [hp]; simp) (by
              rw [List.mem_append, List.mem_singleton]
              rintro (h | h)
              · exact h10 h
              · exact hc (by rw [← h]; rfl))
            rw [List.length_append] at this
            exact this
      exact loop (bytes r) [] rfl (by simp)
  · have e : printE l = (⟨#[]⟩, (checkS l).1) := if_neg h0
    rw [e]
    exact Ev.neg h0 (stop _ _ rfl)
end Go.Proofs.YtlpmifofgacgiaaDoor.Q
