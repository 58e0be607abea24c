/- The plain law of code.read (no program): it answers as 'readS' says. -/
import Derived.Test.YtlpmifofgacgiaaDoorPS
namespace Go.Proofs.YtlpmifofgacgiaaDoor.Q
open Go.RowKit Go.Proofs.YtlpmifofgacgiaaDoorW.PrintWords

theorem atoi_ok {s : ByteArray} {v : Int} (hs : s.size ≤ 281474976710656) (h : Lib.atoiAll (bytes s) = .ok v) : strconv_Atoi.f s = some (v, none) := by
  unfold strconv_Atoi.f
  rw [if_pos hs, show Lib.atoiAll s.data.toList = .ok v from h]
theorem atoi_bad {s : ByteArray} (hs : s.size ≤ 281474976710656) (h : ∀ v, Lib.atoiAll (bytes s) ≠ .ok v) : ∃ z, strconv_Atoi.f s = some (z, some 0) := by
  unfold strconv_Atoi.f
  rw [if_pos hs]
  rcases hx : Lib.atoiAll s.data.toList with v | _ | _
  · exact absurd hx (h v)
  · exact ⟨_, rfl⟩
  · exact ⟨_, rfl⟩
theorem numR_atoi {t : Bs} {v : Int} (h : numR t = some v) : Lib.atoiAll t = .ok v := by
  obtain ⟨h0, h1, rfl⟩ := (numR_iff t v).1 h
  exact atoi_itoa h0 h1

def idxS : Option Nat → Int
  | none => -1
  | some j => (j : Int) - 1
theorem index_names (w : ByteArray) : ∀ (g i : Nat), i + g = 25 → Ev (fun k => slices_Index_string_string.l0 k namesS w 25 (i : Int)) (idxS (findN (bytes w) (namesS.drop i) (i + 1))) := by
  have hn25 : namesS.length = 25 := rfl
  intro g
  induction g with
  | zero =>
    intro i hi
    obtain rfl : i = 25 := by omega
    refine Ev.step (fun k => by rw [slices_Index_string_string.l0]) ?_
    exact Ev.neg (by omega) (Ev.now _)
  | succ g ih =>
    intro i hi
    have hlt : i < namesS.length := by omega
    rw [List.drop_eq_getElem_cons hlt, findN]
    have hrd : rdOf ByteArray.empty namesS (i : Int) = namesS[i] := by
      unfold rdOf
      rw [Int.toNat_natCast, List.getD_eq_getElem?_getD, List.getElem?_eq_getElem hlt]
      rfl
    refine Ev.step (fun k => by rw [slices_Index_string_string.l0]) ?_
    refine Ev.pos (by omega) (Ev.pos (by omega) (Ev.pos (by omega) ?_))
    rw [hrd, toList_bytes, toList_bytes]
    by_cases hw : bytes namesS[i] = bytes w
    · rw [if_pos hw]
      refine Ev.pos hw.symm ?_
      have e : idxS (some (i + 1)) = (i : Int) := by show ((i + 1 : Nat) : Int) - 1 = _; omega
      rw [e]
      exact Ev.now _
    · rw [if_neg hw, wr_succ i (by omega)]
      exact Ev.neg (fun e => hw e.symm) (ih (i + 1) (by omega))

theorem read_tail (t : Bs) (ht : Trim t) (hs : t.length < 4294967281) (w x : ByteArray) (hw : bytes w = word t) (hx : bytes x = trimW (behind t)) :
    ∃ r, Ev (fun k => code_read.j0 k w x) r ∧ Agr r (readS t) := by
  have hxs : x.size ≤ 281474976710656 := by
    rw [size_bytes, hx]
    have h1 := trimW_len (behind t)
    have h2 := trimRight_len (behind t)
    have hwb : (word t).length + (behind t).length = t.length := by rw [← List.length_append, word_behind]
    omega
  have hidx : Ev (fun k => slices_Index_string_string.f k namesS w) (idxS (findN (word t) namesS 1)) := by
    have := index_names w 25 0 (by omega)
    rw [hw] at this
    exact this
  have j1t : ∀ a b : Int, Ev (fun k => code_read.j1 k x true a b) (a, b, false) := by
    intro a b
    refine Ev.step (fun k => by rw [code_read.j1, if_pos rfl]) ?_
    exact Ev.now _
  unfold readS
  cases hf : findN (word t) namesS 1 with
  | none =>
    rw [hf] at hidx
    refine ⟨(wrap64 (idxS none + 1), 0, false), ?_, rfl⟩
    refine Ev.step (fun k => by rw [code_read.j0]) ?_
    refine Ev.bindC names_eq (Ev.bind hidx ?_)
    exact Ev.pos (by decide) (j1t _ _)
  | some op =>
    rw [hf] at hidx
    have hop := findN_some hf
    have hn25 : namesS.length = 25 := rfl
    have hwr : wrap64 (idxS (some op) + 1) = (op : Int) := by
      show wrap64 ((op : Int) - 1 + 1) = _
      rw [wr_id (by omega) (by omega)]
      omega
    have start : ∀ r, Ev (fun k => code_read.j1 k x (hasS (op : Int) != (x.toList != ([] : List UInt8))) (op : Int) 0) r → Ev (fun k => code_read.j0 k w x) r := by
      intro r h
      refine Ev.step (fun k => by rw [code_read.j0]) ?_
      refine Ev.bindC names_eq (Ev.bind hidx ?_)
      refine Ev.neg (by show ¬ ((op : Int) - 1 < 0); omega) ?_
      rw [hwr]
      exact Ev.bind (takes_ev _) h
    simp only
    have hxl : x.toList = trimW (behind t) := by rw [toList_bytes, hx]
    cases hh : hasS (op : Int) with
    | false =>
      rw [if_neg (by decide)]
      by_cases hb : behind t = []
      · rw [if_pos hb]
        have h0 : x.toList = [] := by rw [hxl, hb]; rfl
        refine ⟨((op : Int), 0, true), start _ ?_, rfl⟩
        rw [hh, h0]
        refine Ev.step (fun k => by rw [code_read.j1]) ?_
        exact Ev.neg (by decide) (Ev.pos h0 (Ev.now _))
      · rw [if_neg hb]
        have h0 : x.toList ≠ [] := by rw [hxl]; exact fun e => hb ((trim_behind ht).1 e)
        refine ⟨((op : Int), 0, false), start _ ?_, rfl⟩
        rw [hh, bne_iff_ne.2 h0]
        exact j1t _ _
    | true =>
      rw [if_pos rfl]
      by_cases hb : trimW (behind t) = []
      · have h0 : x.toList = [] := by rw [hxl, hb]
        rw [hb]
        refine ⟨((op : Int), 0, false), start _ ?_, rfl⟩
        rw [hh, h0]
        exact j1t _ _
      · have h0 : x.toList ≠ [] := by rw [hxl]; exact hb
        have go : ∀ r, Ev (fun _ => ((strconv_Atoi.f x).bind fun bt312 => (if bt312.2.isNone = true then ((strconv_Itoa.f bt312.1).bind fun t315 => (some ((op : Int), bt312.1, (t315.toList == x.toList)))) else (some ((op : Int), bt312.1, false))))) r → Ev (fun k => code_read.j0 k w x) r := by
          intro r h
          refine start _ ?_
          rw [hh, bne_iff_ne.2 h0]
          refine Ev.step (fun k => by rw [code_read.j1]) ?_
          exact Ev.neg (by decide) (Ev.neg h0 h)
        by_cases hok : ∃ v, Lib.atoiAll (bytes x) = .ok v
        · obtain ⟨v, hv⟩ := hok
          have hbd := Lib.atoiAll_bounds hv
          refine ⟨((op : Int), v, (itoaL v == trimW (behind t))), go _ ?_, ?_⟩
          · refine Ev.bindC (atoi_ok hxs hv) ?_
            refine Ev.pos rfl ?_
            refine Ev.bindC (itoa_ok hbd) ?_
            rw [toList_bytes, hxl, bytes_mk (itoaL v)]
            exact Ev.now _
          · rw [hx] at hv
            rw [itoaL_eq hbd.1 hbd.2]
            cases hn : numR (trimW (behind t)) with
            | some u =>
              have := numR_atoi hn
              rw [hv] at this
              cases this
              rw [beq_iff_eq.2 ((numR_iff _ _).1 hn).2.2]
              rfl
            | none =>
              have : (Lib.itoa v == trimW (behind t)) = false := by
                rw [beq_eq_false_iff_ne]
                intro e
                have := (numR_iff _ v).2 ⟨hbd.1, hbd.2, e⟩
                rw [hn] at this
                cases this
              rw [this]
              rfl
        · have hbad : ∀ v, Lib.atoiAll (bytes x) ≠ .ok v := fun v e => hok ⟨v, e⟩
          obtain ⟨z, hz⟩ := atoi_bad hxs hbad
          refine ⟨((op : Int), z, false), go _ ?_, ?_⟩
          · refine Ev.bindC hz ?_
            exact Ev.neg (by show ¬ (false = true); decide) (Ev.now _)
          · cases hn : numR (trimW (behind t)) with
            | some u =>
              have := numR_atoi hn
              rw [← hx] at this
              exact absurd this (hbad u)
            | none => rfl

theorem blanks_ascii : asciiSet (⟨#[32, 9]⟩ : ByteArray) = true := by decide +kernel
theorem trim_f (s : ByteArray) (hs : s.size ≤ 9223372036854775807) : strings_Trim.f s (⟨#[32, 9]⟩ : ByteArray) = some ⟨(trimW (bytes s)).toArray⟩ := by
  unfold strings_Trim.f
  rw [if_pos ⟨hs, blanks_ascii⟩]
  rfl
theorem read_ev (s : ByteArray) (ht : Trim (bytes s)) (hs : s.size < 4294967281) : ∃ r, Ev (fun k => code_read.f k s) r ∧ Agr r (readS (bytes s)) := by
  have hsz := size_bytes s
  have hwb : (word (bytes s)).length + (behind (bytes s)).length = (bytes s).length := by rw [← List.length_append, word_behind]
  have hia : strings_IndexAny.f s (⟨#[32, 9]⟩ : ByteArray) = some (if behind (bytes s) = [] then -1 else ((word (bytes s)).length : Int)) := by
    unfold strings_IndexAny.f
    rw [if_pos ⟨hs, rfl⟩, ← indexAny_word]
    rfl
  by_cases hb : behind (bytes s) = []
  · have hw : bytes s = word (bytes s) := by
      conv => lhs; rw [← word_behind (bytes s), hb, List.append_nil]
    obtain ⟨r, h1, h2⟩ := read_tail (bytes s) ht (by omega) s ⟨#[]⟩ hw (by rw [hb]; rfl)
    refine ⟨r, ?_, h2⟩
    unfold code_read.f
    refine Ev.bindC hia ?_
    rw [if_pos hb]
    exact Ev.neg (by decide) h1
  · have e : (((word (bytes s)).length : Int)).toNat = (word (bytes s)).length := by omega
    have hw : bytes (s.extract 0 (((word (bytes s)).length : Int)).toNat) = word (bytes s) := by
      rw [bytes_upto, e]
      conv => lhs; arg 2; rw [← word_behind (bytes s)]
      exact List.take_left' rfl
    have hbeh : bytes (s.extract (((word (bytes s)).length : Int)).toNat s.size) = behind (bytes s) := by
      rw [bytes_from, e]
      conv => lhs; arg 2; rw [← word_behind (bytes s)]
      exact List.drop_left' rfl
    have hx := trim_f (s.extract (((word (bytes s)).length : Int)).toNat s.size) (by rw [size_bytes, hbeh]; omega)
    rw [hbeh] at hx
    obtain ⟨r, h1, h2⟩ := read_tail (bytes s) ht (by omega) _ ⟨(trimW (behind (bytes s))).toArray⟩ hw rfl
    refine ⟨r, ?_, h2⟩
    unfold code_read.f
    refine Ev.bindC hia ?_
    rw [if_neg hb]
    refine Ev.pos (by omega) (Ev.pos (by omega) (Ev.pos (by omega) ?_))
    exact Ev.bindC hx h1
end Go.Proofs.YtlpmifofgacgiaaDoor.Q
