/- The plain law of the reference's Parse (no program): it answers as 'parseS' says. -/
import Derived.Test.YtlpmifofgacgiaaDoorPP
import Derived.Test.YtlpmifofgacgiaaDoorQ23
namespace Go.Proofs.YtlpmifofgacgiaaDoor.Q
open Go.RowKit Go.Proofs.YtlpmifofgacgiaaDoorW.PrintWords

theorem lead_blank (l : Bs) : ∀ b ∈ lead l, blank b = true := by
  induction l with
  | nil => intro b hb; simp [lead] at hb
  | cons x l ih =>
    intro b hb
    unfold lead at ih hb
    rw [List.takeWhile_cons] at hb
    cases hx : blank x with
    | false => rw [hx] at hb; simp at hb
    | true =>
      rw [hx] at hb
      simp only [if_true, List.mem_cons] at hb
      rcases hb with rfl | hb
      · exact hx
      · exact ih b hb
theorem lead_cases (l : Bs) : lead l = l ∨ ∃ b r, l = lead l ++ b :: r ∧ blank b = false := by
  have hl : lead l ++ l.dropWhile blank = l := List.takeWhile_append_dropWhile
  cases h : l.dropWhile blank with
  | nil => left; rw [h, List.append_nil] at hl; exact hl
  | cons b r =>
    right
    have hn : l.dropWhile blank ≠ [] := by rw [h]; simp
    have := List.head_dropWhile_not blank hn
    simp only [h, List.head_cons] at this
    exact ⟨b, r, by rw [h] at hl; exact hl.symm, this⟩

theorem cut13 (s : ByteArray) (out : List In) (pl : List Int) (fr i : Int) (R : List In × Int × Int) : ∀ (rest pre : Bs) (x : ByteArray), bytes x = pre ++ rest → (59 : UInt8) ∉ pre → x.size < 4294967296 →
    Ev (fun k => cloisterref13_Parse.l2 k s out pl fr i ⟨(upto 59 (bytes x)).toArray⟩ fr) R → Ev (fun k => cloisterref13_Parse.l1 k s out pl fr i x (pre.length : Int)) R := by
  intro rest
  induction rest with
  | nil =>
    intro pre x hx hp hs h
    have hsz : x.size = pre.length := by rw [size_bytes, hx, List.append_nil]
    rw [hx, List.append_nil, upto_all 59 pre hp] at h
    have e : (⟨pre.toArray⟩ : ByteArray) = x := by rw [← mk_bytes x, hx, List.append_nil]
    rw [e] at h
    refine Ev.step (fun k => by rw [cloisterref13_Parse.l1]) ?_
    exact Ev.neg (by omega) h
  | cons c r ih =>
    intro pre x hx hp hs h
    have hsz : x.size = pre.length + (r.length + 1) := by rw [size_bytes, hx, List.length_append, List.length_cons]
    have hb : bt x (pre.length : Int) = (c.toNat : Int) := bt_mid hx
    refine Ev.step (fun k => by rw [cloisterref13_Parse.l1]) ?_
    refine Ev.pos (by omega) (Ev.pos (by omega) ?_)
    rw [hb, wr_succ pre.length (by omega)]
    by_cases hc : c.toNat = 59
    · have hc' : c = 59 := u8_eq hc
      subst hc'
      have hu : upto 59 (bytes x) = pre := by rw [hx, upto_app 59 pre _ hp]; simp [upto]
      rw [hu] at h
      refine Ev.pos (by omega) (Ev.pos (by omega) ?_)
      have e : x.extract 0 ((pre.length : Int)).toNat = ⟨pre.toArray⟩ := by
        apply bytes_inj
        rw [bytes_upto, Int.toNat_natCast, hx, bytes_mk pre]
        exact List.take_left' rfl
      rw [e]
      refine Ev.step (fun k => by rw [cloisterref13_Parse.l1]) ?_
      exact Ev.neg (by rw [size_mk]; omega) h
    · refine Ev.neg (by omega) ?_
      have := ih (pre ++ [c]) x (by rw [hx]; simp) (by
        rw [List.mem_append, List.mem_singleton]
        rintro (h | h)
        · exact hp h
        · exact hc (by rw [← h]; rfl)) hs h
      rw [List.length_append, List.length_singleton] at this
      exact this

theorem lead13 (s : ByteArray) (hs : s.size < 4294967296) (out : List In) (pl : List Int) (done rest u : Bs) (x : ByteArray) (i : Int) (hx : bytes x = u) (hS : bytes s = done ++ (u ++ rest)) (R : List In × Int × Int)
    (h : Ev (fun k => cloisterref13_Parse.j4 k s out pl i x ((done.length + (lead u).length : Nat) : Int)) R) : ∀ (g j : Nat), j + g = (lead u).length → Ev (fun k => cloisterref13_Parse.l2 k s out pl (done.length : Int) i x ((done.length + j : Nat) : Int)) R := by
  have hxs : x.size = u.length := by rw [size_bytes, hx]
  have hss : s.size = done.length + (u.length + rest.length) := by rw [size_bytes, hS, List.length_append, List.length_append]
  have hll := lead_len u
  have hend : wrap64 ((done.length : Int) + (x.size : Int)) = ((done.length + u.length : Nat) : Int) := by rw [hxs, wr_add _ _ (by omega)]
  intro g
  induction g with
  | zero =>
    intro j hj
    obtain rfl : j = (lead u).length := by omega
    refine Ev.step (fun k => by rw [cloisterref13_Parse.l2]) ?_
    rw [hend]
    rcases lead_cases u with e | ⟨b, r, e, hb⟩
    · exact Ev.neg (by rw [e]; omega) h
    · have hul : u.length = (lead u).length + (r.length + 1) := by
        have := congrArg List.length e
        rwa [List.length_append, List.length_cons] at this
      have hlt : done.length + (lead u).length < (bytes s).length := by rw [← size_bytes]; omega
      have hget : (bytes s)[done.length + (lead u).length] = b := by
        have h1 : (bytes s)[done.length + (lead u).length]? = some b := by
          rw [hS, List.getElem?_append_right (by omega), Nat.add_sub_cancel_left]
          conv => lhs; arg 1; rw [e]
          rw [List.append_assoc, List.getElem?_append_right (Nat.le_refl _), Nat.sub_self]
          rfl
        rw [List.getElem?_eq_getElem hlt] at h1
        exact Option.some.inj h1
      refine Ev.pos (by omega) (Ev.pos (by omega) (Ev.pos (by omega) ?_))
      exact Ev.solid hlt (by rw [hget]; exact hb) h
  | succ g ih =>
    intro j hj
    have hjl : j < (lead u).length := by omega
    have hju : j < u.length := by omega
    have hlt : done.length + j < (bytes s).length := by rw [← size_bytes]; omega
    have hget : (bytes s)[done.length + j] = (lead u)[j] := by
      have h1 : (bytes s)[done.length + j]? = some (lead u)[j] := by
        rw [hS, List.getElem?_append_right (by omega), Nat.add_sub_cancel_left, List.getElem?_append_left hju]
        have hl : lead u ++ u.dropWhile blank = u := List.takeWhile_append_dropWhile
        have h2 : (lead u ++ u.dropWhile blank)[j]? = some (lead u)[j] := by rw [List.getElem?_append_left hjl, List.getElem?_eq_getElem hjl]
        rwa [hl] at h2
      rw [List.getElem?_eq_getElem hlt] at h1
      exact Option.some.inj h1
    refine Ev.step (fun k => by rw [cloisterref13_Parse.l2]) ?_
    rw [hend]
    refine Ev.pos (by omega) (Ev.pos (by omega) (Ev.pos (by omega) ?_))
    refine Ev.blank hlt (by rw [hget]; exact lead_blank u _ (List.getElem_mem hjl)) ?_
    rw [wr_succ (done.length + j) (by omega)]
    exact ih (j + 1) (by omega)

theorem line13 (s : ByteArray) (hs : s.size < 262145) (out : List In) (pl : List Int) (done cur rest : Bs) (tl : List Bs) (x : ByteArray) (hx : bytes x = cur) (hS : bytes s = done ++ (cur ++ rest)) (hop : out.length = pl.length) (hod : out.length ≤ done.length)
    (K : ∀ (out' : List In) (pl' : List Int), out'.length = pl'.length → out'.length ≤ done.length + cur.length + 1 → Ev (fun k => cloisterref13_Parse.l0 k s out' pl' ((done.length + cur.length + 1 : Nat) : Int) ((done.length + cur.length + 1 : Nat) : Int)) (runS tl (done.length + cur.length + 1) out' pl')) :
    Ev (fun k => cloisterref13_Parse.l1 k s out pl (done.length : Int) ((done.length + cur.length : Nat) : Int) x 0) (runS (cur :: tl) done.length out pl) := by
  have hss : s.size = done.length + (cur.length + rest.length) := by rw [size_bytes, hS, List.length_append, List.length_append]
  have hxs : x.size < 4294967296 := by rw [size_bytes, hx]; omega
  have n1 : out.length ≤ done.length + cur.length + 1 := by omega
  have n2 : out.length + 1 ≤ done.length + cur.length + 1 := by omega
  have n3 : out.length < 8796093022208 := by omega
  have n4 : pl.length < 17592186044416 := by omega
  have n5 : cur.length < 4294967281 := by omega
  have n6 := wr_succ (done.length + cur.length) (by omega)
  have hs' : s.size < 4294967296 := by omega
  clear hss
  have b4 : (upto 59 cur).length < 4294967296 := Nat.lt_of_le_of_lt (upto_len 59 cur) (Nat.lt_of_lt_of_le n5 (by decide))
  have b5 : (trimW (upto 59 cur)).length < 4294967296 := Nat.lt_of_le_of_lt (trim_len _) b4
  have hu : ∃ q, cur = upto 59 cur ++ q := ⟨_, (List.takeWhile_append_dropWhile (p := fun b => b != (59 : UInt8)) (l := cur)).symm⟩
  obtain ⟨q, hq⟩ := hu
  have start : ∀ R, Ev (fun k => cloisterref13_Parse.j4 k s out pl ((done.length + cur.length : Nat) : Int) ⟨(upto 59 cur).toArray⟩ ((done.length + (lead (upto 59 cur)).length : Nat) : Int)) R → Ev (fun k => cloisterref13_Parse.l1 k s out pl (done.length : Int) ((done.length + cur.length : Nat) : Int) x 0) R := by
    intro R h
    have h2 := lead13 s hs' out pl done (q ++ rest) (upto 59 cur) ⟨(upto 59 cur).toArray⟩ _ (bytes_mk _) (by
      rw [hS]
      conv => lhs; rw [hq]
      rw [List.append_assoc]) R h (lead (upto 59 cur)).length 0 (Nat.zero_add _)
    have h3 := cut13 s out pl (done.length : Int) ((done.length + cur.length : Nat) : Int) R cur [] x (by rw [hx]; rfl) (by simp) hxs (by rw [hx]; exact h2)
    exact h3
  rw [runS]
  have hT := trim06_ev ⟨(upto 59 cur).toArray⟩ (by rw [size_mk]; exact b4)
  rw [bytes_mk (upto 59 cur)] at hT
  have hz : (⟨(trimW (upto 59 cur)).toArray⟩ : ByteArray).toList = trimW (upto 59 cur) := toList_bytes _
  by_cases h0 : trimW (upto 59 cur) = []
  · rw [if_pos h0]
    refine start _ ?_
    refine Ev.step (fun k => by rw [cloisterref13_Parse.j4]) ?_
    refine Ev.bind hT (Ev.pos (hz.trans h0) ?_)
    rw [n6]
    exact K out pl hop n1
  · rw [if_neg h0]
    obtain ⟨r, hr, ha⟩ := one_ev ⟨(trimW (upto 59 cur)).toArray⟩ (by rw [size_mk]; exact b5)
    rw [bytes_mk (trimW (upto 59 cur))] at ha
    cases hrs : readS (trimW (upto 59 cur)) with
    | none =>
      rw [hrs] at ha
      have hf : r.2.2 = false := ha
      refine start _ ?_
      refine Ev.step (fun k => by rw [cloisterref13_Parse.j4]) ?_
      refine Ev.bind hT (Ev.neg (by rw [hz]; exact h0) (Ev.bind hr ?_))
      exact Ev.neg (by rw [hf]; decide) (Ev.now _)
    | some y =>
      rw [hrs] at ha
      have hry : r = (y.f0, y.f1, true) := ha
      subst hry
      refine start _ ?_
      refine Ev.step (fun k => by rw [cloisterref13_Parse.j4]) ?_
      refine Ev.bind hT (Ev.neg (by rw [hz]; exact h0) (Ev.bind hr ?_))
      refine Ev.pos rfl (Ev.pos n3 (Ev.pos n4 ?_))
      rw [n6]
      exact K (out ++ [y]) _ (by rw [List.length_append, List.length_append, hop]; rfl) (by rw [List.length_append]; exact n2)

theorem finish13_ev (out : List In) (pl : List Int) (h : out.length = pl.length) :
    Ev (fun k => (cloisterref13_Check.f k out).bind fun bt381 => (if bt381.1 = 130 then (if 0 ≤ bt381.2 then (if bt381.2 < (pl.length : Int) then (some (([] : List In), bt381.1, rd pl bt381.2)) else (none)) else (none)) else (if bt381.1 = 0 then (some (out, 0, 0)) else (some (([] : List In), bt381.1, 0))))) (finS out pl) := by
  refine Ev.bind (check13_ev out) ?_
  by_cases h0 : (checkS out).1 = 0
  · have e : finS out pl = (out, 0, 0) := if_pos h0
    rw [e]
    exact Ev.neg (by omega) (Ev.pos h0 (Ev.now _))
  · by_cases h1 : (checkS out).1 = 130
    · have e : finS out pl = ([], 130, rd pl (checkS out).2) := (if_neg h0).trans (if_pos h1)
      rw [e]
      obtain ⟨a, b⟩ := checkS_bad h1
      refine Ev.pos h1 (Ev.pos a (Ev.pos (by omega) ?_))
      rw [h1]
      exact Ev.now _
    · have e : finS out pl = ([], (checkS out).1, 0) := (if_neg h0).trans (if_neg h1)
      rw [e]
      exact Ev.neg h1 (Ev.neg h0 (Ev.now _))

theorem parse13_loop (s : ByteArray) (hs : s.size < 262145) : ∀ (n : Nat) (rest done cur : Bs) (out : List In) (pl : List Int), rest.length = n → bytes s = done ++ (cur ++ rest) → (10 : UInt8) ∉ cur → out.length = pl.length → out.length ≤ done.length →
    Ev (fun k => cloisterref13_Parse.l0 k s out pl (done.length : Int) ((done.length + cur.length : Nat) : Int)) (runS (linesOf 10 (cur ++ rest)) done.length out pl) := by
  intro n
  induction n with
  | zero =>
    intro rest done cur out pl hr hS hc hop hod
    obtain rfl : rest = [] := List.length_eq_zero_iff.1 hr
    have hss : s.size = done.length + cur.length := by rw [size_bytes, hS, List.append_nil, List.length_append]
    rw [List.append_nil, linesOf_one 10 cur hc]
    refine Ev.step (fun k => by rw [cloisterref13_Parse.l0]) ?_
    refine Ev.pos (by omega) (Ev.neg (by omega) ?_)
    refine Ev.step (fun k => by rw [cloisterref13_Parse.j1, if_neg (by decide)]) ?_
    refine Ev.pos (by omega) (Ev.pos (by omega) (Ev.pos (by omega) ?_))
    refine line13 s hs out pl done cur [] [] _ ?_ hS hop hod ?_
    · rw [bytes_sub _ _ _ (by omega), hS, List.append_nil, Int.toNat_natCast, Int.toNat_natCast, List.take_of_length_le (by rw [List.length_append]; omega)]
      exact List.drop_left' rfl
    · intro out' pl' h1 h2
      refine Ev.step (fun k => by rw [cloisterref13_Parse.l0]) ?_
      refine Ev.neg (by omega) ?_
      exact finish13_ev out' pl' h1
  | succ n ih =>
    intro rest done cur out pl hr hS hc hop hod
    obtain ⟨b, r, rfl⟩ : ∃ b r, rest = b :: r := by cases rest with
      | nil => cases hr
      | cons b r => exact ⟨b, r, rfl⟩
    have hrl : r.length = n := by simpa using hr
    have hss : s.size = done.length + (cur.length + (r.length + 1)) := by rw [size_bytes, hS, List.length_append, List.length_append, List.length_cons]
    have hb : bt s ((done.length + cur.length : Nat) : Int) = (b.toNat : Int) := by
      have := bt_mid (s := s) (pre := done ++ cur) (rest := r) (c := b) (by rw [hS, List.append_assoc])
      rwa [List.length_append] at this
    refine Ev.step (fun k => by rw [cloisterref13_Parse.l0]) ?_
    refine Ev.pos (by omega) (Ev.pos (by omega) (Ev.pos (by omega) ?_))
    rw [hb]
    by_cases h10 : b.toNat = 10
    · have hb10 : b = 10 := u8_eq h10
      subst hb10
      have e : ((((10 : UInt8).toNat : Nat) : Int) != 10) = false := rfl
      rw [e, linesOf_app 10 r cur hc]
      refine Ev.step (fun k => by rw [cloisterref13_Parse.j1, if_neg (by decide)]) ?_
      refine Ev.pos (by omega) (Ev.pos (by omega) (Ev.pos (by omega) ?_))
      refine line13 s hs out pl done cur (10 :: r) (linesOf 10 r) _ ?_ hS hop hod ?_
      · rw [bytes_sub _ _ _ (by omega), hS, Int.toNat_natCast, Int.toNat_natCast, ← List.append_assoc, List.take_left' (by rw [List.length_append])]
        exact List.drop_left' rfl
      · intro out' pl' h1 h2
        have := ih r (done ++ (cur ++ [10])) [] out' pl' hrl (by rw [hS]; simp) (by simp) h1 (by simp; omega)
        have el : (done ++ (cur ++ [(10 : UInt8)])).length = done.length + cur.length + 1 := by rw [List.length_append, List.length_append]; rfl
        rw [el, List.nil_append, List.length_nil, Nat.add_zero] at this
        exact this
    · have e : ((b.toNat : Int) != 10) = true := by rw [bne_iff_ne]; omega
      rw [e]
      refine Ev.step (fun k => by rw [cloisterref13_Parse.j1, if_pos rfl]) ?_
      rw [wr_succ (done.length + cur.length) (by omega)]
      have := ih r done (cur ++ [b]) out pl hrl (by rw [hS]; simp) (by
        rw [List.mem_append, List.mem_singleton]
        rintro (h | h)
        · exact hc h
        · exact h10 (by rw [← h]; rfl)) hop hod
      have el : done.length + (cur ++ [b]).length = done.length + cur.length + 1 := by rw [List.length_append]; rfl
      have ea : cur ++ [b] ++ r = cur ++ b :: r := by simp
      rw [el, ea] at this
      exact this

theorem parse13_ev (s : ByteArray) : Ev (fun k => cloisterref13_Parse.f k s) (parseS (bytes s)) := by
  have hsz := size_bytes s
  unfold cloisterref13_Parse.f parseS
  by_cases h : (bytes s).length > 262144
  · rw [if_pos h]
    exact Ev.pos (by omega) (Ev.now _)
  · rw [if_neg h]
    refine Ev.neg (by omega) ?_
    have := parse13_loop s (by omega) (bytes s).length (bytes s) [] [] [] [] rfl rfl (by simp) rfl (by simp)
    exact this

end Go.Proofs.YtlpmifofgacgiaaDoor.Q
