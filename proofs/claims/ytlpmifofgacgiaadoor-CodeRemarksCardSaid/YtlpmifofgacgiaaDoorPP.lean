/- The plain law of code.Parse and of its reference: both answer as 'parseS' says (no program). -/
import Derived.Test.YtlpmifofgacgiaaDoorPV
import Derived.Test.YtlpmifofgacgiaaDoorQ20
namespace Go.Proofs.YtlpmifofgacgiaaDoor.Q
open Go.RowKit Go.Proofs.YtlpmifofgacgiaaDoorW.PrintWords

/-! ### what the text says -/
def finS (out : List In) (pl : List Int) : List In × Int × Int := if (checkS out).1 = 0 then (out, 0, 0) else if (checkS out).1 = 130 then ([], 130, rd pl (checkS out).2) else ([], (checkS out).1, 0)
def runS : List Bs → Nat → List In → List Int → List In × Int × Int
  | [], _, out, pl => finS out pl
  | line :: r, at_, out, pl =>
    if trimW (upto 59 line) = [] then runS r (at_ + line.length + 1) out pl
    else match readS (trimW (upto 59 line)) with
      | none => ([], 130, ((at_ + (lead (upto 59 line)).length : Nat) : Int))
      | some x => runS r (at_ + line.length + 1) (out ++ [x]) (pl ++ [((at_ + (lead (upto 59 line)).length : Nat) : Int)])
def parseS (s : Bs) : List In × Int × Int := if s.length > 262144 then ([], 4, 0) else runS (linesOf 10 s) 0 [] []

theorem checkS_bad {l : List In} (h : (checkS l).1 = 130) : 0 ≤ (checkS l).2 ∧ (checkS l).2 < l.length := by
  unfold checkS at h ⊢
  split at h
  · cases h
  · rename_i h1
    rw [if_neg h1]
    cases hb : badS l.length l 0 with
    | none => rw [hb] at h; cases h
    | some j =>
      obtain ⟨m, hm, hl⟩ := badS_some _ _ _ _ hb
      simp only [outS]
      omega
theorem upto_len (c : UInt8) (l : Bs) : (upto c l).length ≤ l.length := (List.takeWhile_sublist _).length_le
theorem lead_len (l : Bs) : (lead l).length ≤ l.length := (List.takeWhile_sublist _).length_le
theorem trim_len (l : Bs) : (trimW l).length ≤ l.length := Nat.le_trans (trimW_len l) (trimRight_len l)
theorem trim_ends (m : Bs) (h1 : ∀ x, m.head? = some x → blank x = false) (h2 : ∀ x, m.getLast? = some x → blank x = false) : trimW m = m := by
  unfold trimW Lib.trimS
  rw [trimRight_eq]
  have e1 : m.reverse.dropWhile blank = m.reverse := by
    cases hr : m.reverse with
    | nil => rfl
    | cons c r =>
      have hm : m = r.reverse ++ [c] := by rw [← List.reverse_reverse m, hr, List.reverse_cons]
      have := h2 c (by rw [hm]; simp)
      rw [List.dropWhile_cons, this]
      rfl
  rw [e1, List.reverse_reverse, trimLeft_eq]
  cases m with
  | nil => rfl
  | cons c r =>
    have := h1 c rfl
    rw [List.dropWhile_cons, this]
    rfl
theorem trim_twice (l : Bs) : Trim (trimW l) := by
  apply trim_ends
  · intro x hx
    unfold trimW Lib.trimS at hx
    rw [trimLeft_eq] at hx
    generalize Lib.trimRightS l [32, 9] = q at hx
    cases hd : q.dropWhile blank with
    | nil => rw [hd] at hx; cases hx
    | cons c r =>
      have hn : q.dropWhile blank ≠ [] := by rw [hd]; simp
      have := List.head_dropWhile_not blank hn
      simp only [hd, List.head_cons] at this
      rw [hd] at hx
      cases hx
      exact this
  · intro x hx
    unfold trimW Lib.trimS at hx
    rw [trimLeft_eq, trimRight_eq] at hx
    have hsuf : ∀ q : Bs, (q.dropWhile blank).getLast? = some x → q.getLast? = some x := by
      intro q hq
      obtain ⟨t, ht⟩ := List.dropWhile_suffix (l := q) blank
      rw [← ht, List.getLast?_append, hq]
      rfl
    have hx2 := hsuf _ hx
    rw [List.getLast?_reverse] at hx2
    cases hd : l.reverse.dropWhile blank with
    | nil => rw [hd] at hx2; cases hx2
    | cons c r =>
      have hn : l.reverse.dropWhile blank ≠ [] := by rw [hd]; simp
      have := List.head_dropWhile_not blank hn
      simp only [hd, List.head_cons] at this
      rw [hd] at hx2
      cases hx2
      exact this

/-! ### code.Parse -/
def spanS : List Bs → Nat
  | [] => 0
  | l :: r => l.length + 1 + spanS r
theorem span_lines (c : UInt8) : ∀ l : Bs, spanS (linesOf c l) = l.length + 1 := by
  intro l
  induction l with
  | nil => rfl
  | cons b r ih =>
    rw [linesOf]
    split
    · simp only [spanS, ih, List.length_nil, List.length_cons]; omega
    · split
      · rename_i h; exact absurd h (linesOf_ne c r)
      · rename_i h t hh
        rw [hh] at ih
        simp only [spanS, List.length_cons] at ih ⊢
        omega

theorem finish_ev (out : List In) (pl : List Int) (h : out.length = pl.length) :
    Ev (fun k => (code_Check.f k out).bind fun bt335 => (if bt335.1 = 0 then (some (out, 0, 0)) else (if bt335.1 = 130 then (if 0 ≤ bt335.2 then (if bt335.2 < (pl.length : Int) then (some (([] : List In), bt335.1, rd pl bt335.2)) else (none)) else (none)) else (some (([] : List In), bt335.1, 0))))) (finS out pl) := by
  refine Ev.bind (check_ev out) ?_
  by_cases h0 : (checkS out).1 = 0
  · have e : finS out pl = (out, 0, 0) := if_pos h0
    rw [e]
    exact Ev.pos h0 (Ev.now _)
  · by_cases h1 : (checkS out).1 = 130
    · have e : finS out pl = ([], 130, rd pl (checkS out).2) := (if_neg h0).trans (if_pos h1)
      rw [e]
      obtain ⟨a, b⟩ := checkS_bad h1
      refine Ev.neg h0 (Ev.pos h1 (Ev.pos a (Ev.pos (by omega) ?_)))
      rw [h1]
      exact Ev.now _
    · have e : finS out pl = ([], (checkS out).1, 0) := (if_neg h0).trans (if_neg h1)
      rw [e]
      exact Ev.neg h0 (Ev.neg h1 (Ev.now _))

theorem size_mk (l : Bs) : (⟨l.toArray⟩ : ByteArray).size = l.length := by rw [size_bytes, bytes_mk l]
theorem place_eq (a b c d : Nat) (h : c + d = b) (hb : a + b ≤ 9223372036854775807) : wrap64 (wrap64 ((a : Int) + (b : Int)) - (d : Int)) = ((a + c : Nat) : Int) := by
  rw [wr_add a b hb, wr_id (by omega) (by omega)]
  omega
theorem at_eq (a b : Nat) (hb : a + b < 9223372036854775807) : wrap64 ((a : Int) + wrap64 ((b : Int) + 1)) = ((a + b + 1 : Nat) : Int) := by
  rw [wr_succ b (by omega), wr_add a (b + 1) (by omega)]
  omega
theorem cut_f (s : ByteArray) (hs : s.size < 4294967281) : ∃ y z, strings_Cut.f s (⟨#[59]⟩ : ByteArray) = some (⟨(upto 59 (bytes s)).toArray⟩, y, z) := by
  unfold strings_Cut.f
  rw [if_pos hs]
  refine ⟨_, _, congrArg some (Prod.ext ?_ (Prod.ext rfl rfl))⟩
  show (⟨(Lib.cut s.data.toList [59]).1.toArray⟩ : ByteArray) = _
  rw [cut_one]
  rfl
theorem trimLeft_f (s : ByteArray) : strings_TrimLeft.f s (⟨#[32, 9]⟩ : ByteArray) = some ⟨((bytes s).dropWhile blank).toArray⟩ := by
  unfold strings_TrimLeft.f
  rw [if_pos blanks_ascii]
  show some (⟨(Lib.trimLeftS s.data.toList [32, 9]).toArray⟩ : ByteArray) = _
  rw [trimLeft_eq]
  rfl

theorem parse_loop (lines : List ByteArray) (hn : lines.length < 4294967296) : ∀ (g i at_ : Nat) (out : List In) (pl : List Int), i + g = lines.length → out.length = pl.length → out.length ≤ at_ → at_ + spanS ((lines.drop i).map bytes) ≤ 262145 →
    Ev (fun k => code_Parse.l0 k out pl (at_ : Int) lines (lines.length : Int) (i : Int)) (runS ((lines.drop i).map bytes) at_ out pl) := by
  intro g
  induction g with
  | zero =>
    intro i at_ out pl hi hop _ _
    obtain rfl : i = lines.length := by omega
    rw [List.drop_length]
    refine Ev.step (fun k => by rw [code_Parse.l0]) ?_
    refine Ev.neg (by omega) ?_
    exact finish_ev out pl hop
  | succ g ih =>
    intro i at_ out pl hi hop hoa hsp
    have hlt : i < lines.length := by omega
    rw [List.drop_eq_getElem_cons hlt, List.map_cons] at hsp ⊢
    generalize hL : lines[i] = L at hsp ⊢
    have hrd : rdOf ByteArray.empty lines (i : Int) = L := by
      unfold rdOf
      rw [Int.toNat_natCast, List.getD_eq_getElem?_getD, List.getElem?_eq_getElem hlt, hL]
      rfl
    have hLs := size_bytes L
    simp only [spanS] at hsp
    have b1 : at_ + (bytes L).length ≤ 9223372036854775806 := by omega
    have b2 : (bytes L).length < 4294967281 := by omega
    have n1 : i + 1 + g = lines.length := by omega
    have n2 : out.length ≤ at_ + (bytes L).length + 1 := by omega
    have n3 : at_ + (bytes L).length + 1 + spanS ((lines.drop (i + 1)).map bytes) ≤ 262145 := by omega
    have n4 : out.length < 8796093022208 := by omega
    have n5 : pl.length < 17592186044416 := by omega
    have n6 : i < 9223372036854775807 := by omega
    have n7 : out.length + 1 ≤ at_ + (bytes L).length + 1 := by omega
    refine Ev.step (fun k => by rw [code_Parse.l0]) ?_
    refine Ev.pos (by omega) (Ev.pos (by omega) (Ev.pos (by omega) ?_))
    rw [hrd]
    obtain ⟨y, z, hcut⟩ := cut_f L (by rw [hLs]; exact b2)
    have b3 : at_ + (upto 59 (bytes L)).length ≤ 9223372036854775807 := Nat.le_trans (Nat.add_le_add_left (upto_len 59 (bytes L)) at_) (Nat.le_succ_of_le b1)
    have b4 : (upto 59 (bytes L)).length ≤ 9223372036854775807 := Nat.le_trans (Nat.le_add_left _ _) b3
    have b5 : (trimW (upto 59 (bytes L))).length < 4294967281 := Nat.lt_of_le_of_lt (Nat.le_trans (trim_len _) (upto_len 59 (bytes L))) b2
    have hat : wrap64 ((at_ : Int) + wrap64 ((L.size : Int) + 1)) = ((at_ + (bytes L).length + 1 : Nat) : Int) := by
      rw [hLs]
      exact at_eq _ _ (Nat.lt_of_le_of_lt b1 (by decide))
    have hpl : wrap64 (wrap64 ((at_ : Int) + ((⟨(upto 59 (bytes L)).toArray⟩ : ByteArray).size : Int)) - ((⟨((upto 59 (bytes L)).dropWhile blank).toArray⟩ : ByteArray).size : Int)) = ((at_ + (lead (upto 59 (bytes L))).length : Nat) : Int) := by
      rw [size_mk, size_mk]
      exact place_eq at_ (upto 59 (bytes L)).length (lead (upto 59 (bytes L))).length ((upto 59 (bytes L)).dropWhile blank).length (lead_drop _) b3
    have hT := trimLeft_f ⟨(upto 59 (bytes L)).toArray⟩
    have hW := trim_f ⟨(upto 59 (bytes L)).toArray⟩ (by rw [size_mk]; exact b4)
    rw [bytes_mk (upto 59 (bytes L))] at hT hW
    refine Ev.bindC hcut (Ev.bindC hT (Ev.bindC hW ?_))
    rw [hat, hpl, wr_succ i n6, runS]
    have hz : (⟨(trimW (upto 59 (bytes L))).toArray⟩ : ByteArray).toList = trimW (upto 59 (bytes L)) := toList_bytes _
    by_cases h0 : trimW (upto 59 (bytes L)) = []
    · rw [if_pos h0]
      refine Ev.pos (hz.trans h0) ?_
      exact ih (i + 1) _ out pl n1 hop n2 n3
    · rw [if_neg h0]
      refine Ev.neg (by rw [hz]; exact h0) ?_
      obtain ⟨r, hr, ha⟩ := read_ev ⟨(trimW (upto 59 (bytes L))).toArray⟩ (trim_twice _) (by rw [size_mk]; exact b5)
      rw [bytes_mk (trimW (upto 59 (bytes L)))] at ha
      refine Ev.bind hr ?_
      cases hrs : readS (trimW (upto 59 (bytes L))) with
      | none =>
        rw [hrs] at ha
        have : r.2.2 = false := ha
        exact Ev.neg (by rw [this]; decide) (Ev.now _)
      | some x =>
        rw [hrs] at ha
        have hrx : r = (x.f0, x.f1, true) := ha
        subst hrx
        refine Ev.pos rfl (Ev.pos n4 (Ev.pos n5 ?_))
        exact ih (i + 1) _ (out ++ [x]) _ n1 (by rw [List.length_append, List.length_append, hop]; rfl) (by rw [List.length_append]; exact n7) n3

theorem split_f (s : ByteArray) (hs : s.size < 4294967281) : ∃ ls : List ByteArray, strings_Split.f s (⟨#[10]⟩ : ByteArray) = some ls ∧ ls.map bytes = linesOf 10 (bytes s) := by
  unfold strings_Split.f
  rw [if_pos ⟨hs, by decide⟩]
  refine ⟨_, rfl, ?_⟩
  have h1 := Lib.splitB_data (⟨#[10]⟩ : ByteArray) 0 (Lib.countB s ⟨#[10]⟩) s
  have h2 : Lib.countB s ⟨#[10]⟩ = (bytes s).count 10 := by
    rw [← Lib.count_one]
    rfl
  rw [h2] at h1 ⊢
  exact h1.trans (splitK_lines 10 _ (bytes s) rfl)

theorem parse_ev (s : ByteArray) : Ev (fun k => code_Parse.f k s) (parseS (bytes s)) := by
  have hsz := size_bytes s
  unfold code_Parse.f parseS
  by_cases h : (bytes s).length > 262144
  · rw [if_pos h]
    exact Ev.pos (by omega) (Ev.now _)
  · rw [if_neg h]
    refine Ev.neg (by omega) ?_
    obtain ⟨ls, h1, h2⟩ := split_f s (by omega)
    refine Ev.bindC h1 ?_
    have hsp := span_lines 10 (bytes s)
    rw [← h2] at hsp ⊢
    have hlen : ∀ l : List Bs, l.length ≤ spanS l := by
      intro l
      induction l with
      | nil => exact Nat.le_refl _
      | cons a l ih => simp only [spanS, List.length_cons]; omega
    have hl := hlen (ls.map bytes)
    rw [List.length_map] at hl
    exact parse_loop ls (by omega) ls.length 0 0 [] [] (by omega) rfl (by simp) (by rw [List.drop_zero]; omega)
end Go.Proofs.YtlpmifofgacgiaaDoor.Q
