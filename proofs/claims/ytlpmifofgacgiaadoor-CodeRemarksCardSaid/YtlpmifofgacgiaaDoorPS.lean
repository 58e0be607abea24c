/- The plain law of one line's reading: code.read and the reference's one answer alike (no program). -/
import Derived.Test.YtlpmifofgacgiaaDoorPR
namespace Go.Proofs.YtlpmifofgacgiaaDoor.Q
open Go.RowKit Go.Proofs.YtlpmifofgacgiaaDoorW.PrintWords

/-! ### texts without blanks at their ends -/
theorem mem_drop_blank {l : Bs} {x : UInt8} (h : x ∈ l) (hx : blank x = false) : x ∈ l.dropWhile blank := by
  induction l with
  | nil => cases h
  | cons b l ih =>
    rw [List.dropWhile_cons]
    cases hb : blank b with
    | true =>
      simp only [if_true]
      rcases List.mem_cons.1 h with rfl | h
      · rw [hx] at hb; cases hb
      · exact ih h
    | false => simpa using h
theorem mem_trimW {l : Bs} {x : UInt8} (h : x ∈ l) (hx : blank x = false) : x ∈ trimW l := by
  unfold trimW Lib.trimS
  rw [trimLeft_eq, trimRight_eq]
  exact mem_drop_blank (by rw [List.mem_reverse]; exact mem_drop_blank (by rw [List.mem_reverse]; exact h) hx) hx
theorem trimW_len (l : Bs) : (trimW l).length ≤ (Lib.trimRightS l [32, 9]).length := by
  unfold trimW Lib.trimS
  rw [trimLeft_eq]
  exact (List.dropWhile_sublist _).length_le
theorem trimRight_len (l : Bs) : (Lib.trimRightS l [32, 9]).length ≤ l.length := by
  rw [trimRight_eq, List.length_reverse]
  have := (List.dropWhile_sublist blank (l := l.reverse)).length_le
  rwa [List.length_reverse] at this
theorem Trim.last {l : Bs} {c : UInt8} (h : Trim (l ++ [c])) : blank c = false := by
  cases hc : blank c with
  | false => rfl
  | true =>
    exfalso
    have h1 := trimW_len (l ++ [c])
    rw [show trimW (l ++ [c]) = l ++ [c] from h] at h1
    have h2 : Lib.trimRightS (l ++ [c]) [32, 9] = Lib.trimRightS l [32, 9] := by
      rw [trimRight_eq, trimRight_eq, List.reverse_append, List.reverse_singleton, List.singleton_append, List.dropWhile_cons, hc]
      rfl
    rw [h2] at h1
    have h3 := trimRight_len l
    rw [List.length_append, List.length_singleton] at h1
    omega
theorem trim_behind {t : Bs} (h : Trim t) : trimW (behind t) = [] ↔ behind t = [] := by
  constructor
  · intro hb
    cases hl : (behind t).reverse with
    | nil => exact List.reverse_eq_nil_iff.1 hl
    | cons c r =>
      exfalso
      have e : behind t = r.reverse ++ [c] := by rw [← List.reverse_reverse (behind t), hl, List.reverse_cons]
      have ht : t = (word t ++ r.reverse) ++ [c] := by rw [List.append_assoc, ← e, word_behind]
      have hc := Trim.last (l := word t ++ r.reverse) (c := c) (by rw [← ht]; exact h)
      have := mem_trimW (l := behind t) (by rw [e]; simp) hc
      rw [hb] at this
      cases this
  · intro hb
    rw [hb]
    rfl

/-! ### what one line says -/
def findN (w : Bs) : List ByteArray → Nat → Option Nat
  | [], _ => none
  | n :: r, i => if bytes n = w then some i else findN w r (i + 1)
theorem findN_some {w : Bs} : ∀ {l : List ByteArray} {i j : Nat}, findN w l i = some j → i ≤ j ∧ j < i + l.length := by
  intro l
  induction l with
  | nil => intro i j h; cases h
  | cons n r ih =>
    intro i j h
    rw [findN] at h
    split at h
    · cases h; simp
    · have := ih h; simp only [List.length_cons]; omega
def readS (t : Bs) : Option In :=
  match findN (word t) namesS 1 with
  | none => none
  | some op => if hasS (op : Int) = true then (match numR (trimW (behind t)) with | some v => some ⟨(op : Int), v⟩ | none => none) else if behind t = [] then some ⟨(op : Int), 0⟩ else none
def Agr (r : Int × Int × Bool) : Option In → Prop
  | some x => r = (x.f0, x.f1, true)
  | none => r.2.2 = false

/-! ### the reference's one -/
theorem one_ops (s : ByteArray) (hs : s.size < 4294967296) : ∀ (g i : Nat), i + g = 25 →
    ∃ r, Ev (fun k => cloisterref13_one.l1 k s ((word (bytes s)).length : Int) ((i + 1 : Nat) : Int)) r ∧ Agr r (match findN (word (bytes s)) (namesS.drop i) (i + 1) with
      | none => none
      | some op => if hasS (op : Int) = true then (match numR (trimW (behind (bytes s))) with | some v => some ⟨(op : Int), v⟩ | none => none) else if behind (bytes s) = [] then some ⟨(op : Int), 0⟩ else none) := by
  have hsz := size_bytes s
  have hwb : (word (bytes s)).length + (behind (bytes s)).length = (bytes s).length := by rw [← List.length_append, word_behind]
  have hn25 : namesS.length = 25 := rfl
  intro g
  induction g with
  | zero =>
    intro i hi
    obtain rfl : i = 25 := by omega
    refine ⟨(0, 0, false), ?_, ?_⟩
    · refine Ev.step (fun k => by rw [cloisterref13_one.l1]) ?_
      exact Ev.neg (by omega) (Ev.now _)
    · rfl
  | succ g ih =>
    intro i hi
    have hlt : i < namesS.length := by omega
    rw [List.drop_eq_getElem_cons hlt, findN]
    have hname : nameE ((i + 1 : Nat) : Int) = (namesS[i], 0) := by
      rw [nameE_ok (by omega)]
      unfold nameB
      have e : (((i + 1 : Nat) : Int) - 1).toNat = i := by omega
      rw [e, List.getD_eq_getElem?_getD, List.getElem?_eq_getElem hlt]
      rfl
    have hword : (s.extract 0 (((word (bytes s)).length : Int)).toNat).toList = word (bytes s) := by
      rw [toList_bytes, bytes_upto]
      have e : (((word (bytes s)).length : Int)).toNat = (word (bytes s)).length := by omega
      rw [e]
      conv => lhs; arg 2; rw [← word_behind (bytes s)]
      exact List.take_left' rfl
    have hbeh : bytes (s.extract (((word (bytes s)).length : Int)).toNat s.size) = behind (bytes s) := by
      rw [bytes_from]
      have e : (((word (bytes s)).length : Int)).toNat = (word (bytes s)).length := by omega
      rw [e]
      conv => lhs; arg 2; rw [← word_behind (bytes s)]
      exact List.drop_left' rfl
    by_cases hw : bytes namesS[i] = word (bytes s)
    · rw [if_pos hw]
      simp only
      have start : ∀ r, Ev (fun k => ((cloisterref13_hasA.f ((i + 1 : Nat) : Int)).bind fun t366 => (if t366 = true then ((cloisterref06_Trim.f k (s.extract ((((word (bytes s)).length : Int))).toNat s.size)).bind fun t367 => ((cloisterref13_Number.f k t367).bind fun bt368 => (if bt368.2 = true then (some (((i + 1 : Nat) : Int), bt368.1, decide (((word (bytes s)).length : Int) < (s.size : Int)))) else (some (((i + 1 : Nat) : Int), bt368.1, false))))) else (some (((i + 1 : Nat) : Int), (0 : Int), (((word (bytes s)).length : Int) == (s.size : Int))))))) r →
          Ev (fun k => cloisterref13_one.l1 k s ((word (bytes s)).length : Int) ((i + 1 : Nat) : Int)) r := by
        intro r h
        refine Ev.step (fun k => by rw [cloisterref13_one.l1]) ?_
        refine Ev.pos (by omega) (Ev.bindC (name13_eq _) ?_)
        refine Ev.pos (by omega) (Ev.pos (by omega) ?_)
        refine Ev.pos (by rw [hname, hword, toList_bytes]; exact hw) ?_
        exact h
      cases hh : hasS ((i + 1 : Nat) : Int) with
      | true =>
        rw [if_pos rfl]
        have hx : (s.extract (((word (bytes s)).length : Int)).toNat s.size).size < 4294967296 := by rw [size_bytes, hbeh]; omega
        have ht := trim06_ev _ hx
        rw [hbeh] at ht
        have hsmall : (⟨(trimW (behind (bytes s))).toArray⟩ : ByteArray).size < 4294967296 := by
          rw [size_bytes, bytes_mk (trimW (behind (bytes s)))]
          have h1 := trimW_len (behind (bytes s))
          have h2 := trimRight_len (behind (bytes s))
          omega
        have hnum := number_ev _ hsmall
        rw [bytes_mk (trimW (behind (bytes s)))] at hnum
        cases hv : numR (trimW (behind (bytes s))) with
        | none =>
          rw [hv] at hnum
          refine ⟨(((i + 1 : Nat) : Int), 0, false), start _ ?_, rfl⟩
          refine Ev.bindC (hasA_eq _) ?_
          rw [hh]
          refine Ev.pos rfl (Ev.bind ht (Ev.bind hnum ?_))
          exact Ev.neg (by simp [outR]) (Ev.now _)
        | some v =>
          rw [hv] at hnum
          have hne : behind (bytes s) ≠ [] := by
            intro e
            rw [e] at hv
            cases hv
          have hpos := List.length_pos_iff.2 hne
          refine ⟨(((i + 1 : Nat) : Int), v, true), start _ ?_, rfl⟩
          refine Ev.bindC (hasA_eq _) ?_
          rw [hh]
          refine Ev.pos rfl (Ev.bind ht (Ev.bind hnum ?_))
          have hd : decide (((word (bytes s)).length : Int) < (s.size : Int)) = true := decide_eq_true (by omega)
          rw [hd]
          exact Ev.pos rfl (Ev.now _)
      | false =>
        rw [if_neg (by decide)]
        refine ⟨(((i + 1 : Nat) : Int), 0, (((word (bytes s)).length : Int) == (s.size : Int))), start _ ?_, ?_⟩
        · refine Ev.bindC (hasA_eq _) ?_
          rw [hh]
          exact Ev.neg (by decide) (Ev.now _)
        · by_cases hb : behind (bytes s) = []
          · rw [if_pos hb]
            rw [hb, List.length_nil] at hwb
            have : (((word (bytes s)).length : Int) == (s.size : Int)) = true := by rw [beq_iff_eq]; omega
            rw [this]
            rfl
          · rw [if_neg hb]
            have hpos := List.length_pos_iff.2 hb
            have : (((word (bytes s)).length : Int) == (s.size : Int)) = false := by rw [beq_eq_false_iff_ne]; omega
            rw [this]
            rfl
    · rw [if_neg hw]
      obtain ⟨r, h1, h2⟩ := ih (i + 1) (by omega)
      refine ⟨r, ?_, h2⟩
      refine Ev.step (fun k => by rw [cloisterref13_one.l1]) ?_
      refine Ev.pos (by omega) (Ev.bindC (name13_eq _) ?_)
      refine Ev.pos (by omega) (Ev.pos (by omega) ?_)
      refine Ev.neg (by rw [hname, hword, toList_bytes]; exact hw) ?_
      rw [wr_succ (i + 1) (by omega)]
      exact h1
theorem one_ev (s : ByteArray) (hs : s.size < 4294967296) : ∃ r, Ev (fun k => cloisterref13_one.f k s) r ∧ Agr r (readS (bytes s)) := by
  have hsz := size_bytes s
  obtain ⟨r, h1, h2⟩ := one_ops s hs 25 0 (by omega)
  refine ⟨r, ?_, h2⟩
  have hwb : (word (bytes s)).length + (behind (bytes s)).length = (bytes s).length := by rw [← List.length_append, word_behind]
  have stop : Ev (fun k => cloisterref13_one.j1 k s ((word (bytes s)).length : Int)) r := by
    refine Ev.step (fun k => by rw [cloisterref13_one.j1]) ?_
    exact h1
  have loop : ∀ (g i : Nat), i + g = (word (bytes s)).length → Ev (fun k => cloisterref13_one.l0 k s (i : Int)) r := by
    intro g
    induction g with
    | zero =>
      intro i hi
      obtain rfl : i = (word (bytes s)).length := by omega
      refine Ev.step (fun k => by rw [cloisterref13_one.l0]) ?_
      rcases behind_cases (bytes s) with hb | ⟨b, q, hb, hbl⟩
      · rw [hb, List.length_nil] at hwb
        exact Ev.neg (by omega) stop
      · rw [hb, List.length_cons] at hwb
        have hlt : (word (bytes s)).length < (bytes s).length := by omega
        refine Ev.pos (by omega) (Ev.pos (by omega) (Ev.blank hlt ?_ stop))
        have e : (bytes s)[(word (bytes s)).length]? = some b := by
          conv => lhs; arg 1; rw [← word_behind (bytes s), hb]
          rw [List.getElem?_append_right (Nat.le_refl _)]
          simp
        rw [List.getElem?_eq_getElem hlt] at e
        rw [Option.some.inj e]
        exact hbl
    | succ g ih =>
      intro i hi
      have hlt : i < (bytes s).length := by omega
      refine Ev.step (fun k => by rw [cloisterref13_one.l0]) ?_
      refine Ev.pos (by omega) (Ev.pos (by omega) (Ev.solid hlt ?_ ?_))
      · have hm : (bytes s)[i] ∈ word (bytes s) := by
          have hiw : i < (word (bytes s)).length := by omega
          have e : (bytes s)[i]? = (word (bytes s))[i]? := by
            conv => lhs; arg 1; rw [← word_behind (bytes s)]
            exact List.getElem?_append_left hiw
          rw [List.getElem?_eq_getElem hlt, List.getElem?_eq_getElem hiw] at e
          rw [Option.some.inj e]
          exact List.getElem_mem hiw
        exact word_not _ _ hm
      · rw [wr_succ i (by omega)]
        exact ih (i + 1) (by omega)
  have := loop (word (bytes s)).length 0 (by omega)
  exact this
end Go.Proofs.YtlpmifofgacgiaaDoor.Q
