/- ReplyLine: the plain law. -/
import Derived.Test.YtlpmifofgacgiaaDoorPX
import Derived.Test.YtlpmifofgacgiaaDoorQ8
namespace Go.Proofs.YtlpmifofgacgiaaDoor.Q
open Go.RowKit Go.Proofs.YtlpmifofgacgiaaDoorW.PrintWords

abbrev Re := S28
set_option maxRecDepth 100000 in
theorem awake09 : cloisterlaw09_awake.f 40 = some true := by decide +kernel
theorem awake09_ev : Ev (fun k => cloisterlaw09_awake.f k) true := Ev.of cloisterlaw09_awake.mono awake09
theorem same06_ev (l : List Pr) (hl : l.length < 4294967296) : Ev (fun k => cloisterref06_Same.f k l l) true := by
  unfold cloisterref06_Same.f
  refine Ev.pos rfl ?_
  have loop : ∀ (g i : Nat), i + g = l.length → Ev (fun k => cloisterref06_Same.l0 k l l (i : Int)) true := by
    intro g
    induction g with
    | zero =>
      intro i hi
      refine Ev.step (fun k => by rw [cloisterref06_Same.l0]) ?_
      exact Ev.neg (by omega) (Ev.now _)
    | succ g ih =>
      intro i hi
      refine Ev.step (fun k => by rw [cloisterref06_Same.l0]) ?_
      refine Ev.pos (by omega) (Ev.pos (by omega) (Ev.pos (by omega) (Ev.neg (by simp) ?_)))
      rw [wr_succ i (by omega)]
      exact ih (i + 1) (by omega)
  exact loop l.length 0 (by omega)

def mayE (r : Re) : Bool := mayR r.f0 r.f1 r.f2
def textE (r : Re) : Bs := printR r.f0 r.f1 r.f2 r.f3
def flatE : List Re → Bs
  | [] => []
  | r :: l => textE r ++ flatE l
theorem flatE_app (a b : List Re) : flatE (a ++ b) = flatE a ++ flatE b := by
  induction a with
  | nil => rfl
  | cons r a ih => simp [flatE, ih]
def totE : List Re → Nat
  | [] => 0
  | r :: l => hdrLen r.f1 + r.f2.size + 200 + totE l
theorem textE_len {r : Re} (h : mayE r = true) : 1 ≤ (textE r).length ∧ (textE r).length ≤ hdrLen r.f1 + r.f2.size + 200 := by
  unfold mayE mayR at h
  simp only [Bool.and_eq_true, decide_eq_true_eq] at h
  obtain ⟨⟨⟨h1, h2⟩, h3⟩, _⟩ := h
  have l1 := itoaL_length (n := r.f0) ⟨by omega, by omega⟩
  have l2 := itoaL_length (n := (r.f2.size : Int)) ⟨by omega, by omega⟩
  have l3 : (endS r.f3).length ≤ 10 := by cases r.f3 <;> decide
  have l4 : (bytes (wordsOf (findR r.f0 reasonsS))).length ≤ 40 := by rw [← size_bytes]; exact findR_len _
  have l5 := hdrS_len r.f1
  have l6 := size_bytes r.f2
  have c1 : clB.length = 14 := rfl
  have c2 : coB.length = 10 := rfl
  unfold textE printR headS footS
  simp only [List.length_append, List.length_cons, List.length_nil, c1, c2]
  omega
theorem tot_le {r : Re} : ∀ {l : List Re}, r ∈ l → hdrLen r.f1 + r.f2.size + 200 ≤ totE l := by
  intro l
  induction l with
  | nil => intro h; cases h
  | cons x l ih =>
    intro h
    rw [totE]
    rcases List.mem_cons.1 h with rfl | h
    · omega
    · have := ih h; omega
theorem tot_len : ∀ l : List Re, 200 * l.length ≤ totE l := by
  intro l
  induction l with
  | nil => simp [totE]
  | cons x l ih => rw [totE, List.length_cons]; omega
theorem flat_len : ∀ l : List Re, (∀ r ∈ l, mayE r = true) → (flatE l).length ≤ totE l := by
  intro l
  induction l with
  | nil => intro _; simp [flatE]
  | cons x l ih =>
    intro h
    have h1 := (textE_len (h x (by simp))).2
    have h2 := ih (fun y hy => h y (by simp [hy]))
    rw [flatE, totE, List.length_append]
    omega

theorem line_read (good : List Re) (hg : ∀ r ∈ good, mayE r = true) (hlen : good.length < 4294967296) : ∀ (g i : Nat) (x : ByteArray), i + g = good.length → bytes x = flatE (good.drop i) → x.size < 4294967281 → Ev (fun k => cloisterlaw09_ReplyLine.l1 k x good (i : Int)) true := by
  intro g
  induction g with
  | zero =>
    intro i x hi hx _
    obtain rfl : i = good.length := by omega
    rw [List.drop_length] at hx
    refine Ev.step (fun k => by rw [cloisterlaw09_ReplyLine.l1]) ?_
    refine Ev.neg (by omega) (Ev.pos (by rw [toList_bytes, hx]; rfl) ?_)
    exact Ev.bind awake09_ev (Ev.now true)
  | succ g ih =>
    intro i x hi hx hs
    have hlt : i < good.length := by omega
    have hel : rd_T28 good (i : Int) = good[i] := by simp [rd_T28, List.getD_eq_getElem?_getD, hlt]
    rw [List.drop_eq_getElem_cons hlt, flatE] at hx
    have hm := hg good[i] (List.getElem_mem hlt)
    have hp := parse_back good[i].f0 good[i].f1 good[i].f2 good[i].f3 (flatE (good.drop (i + 1))) x hm hx hs
    have hl1 := (textE_len hm).1
    have hxs := size_bytes x
    rw [hx, List.length_append] at hxs
    have hfl : good[i].f1.length < 4294967296 := by
      have := hm
      unfold mayE mayR at this
      simp only [Bool.and_eq_true, decide_eq_true_eq] at this
      omega
    refine Ev.step (fun k => by rw [cloisterlaw09_ReplyLine.l1]) ?_
    refine Ev.pos (by omega) (Ev.bind hp (Ev.pos rfl ?_))
    show Ev (fun k => if ((textE good[i]).length : Int) < 1 then some false else _) true
    refine Ev.neg (by omega) ?_
    refine Ev.neg (by show ¬ (((textE good[i]).length : Int) > (x.size : Int)); omega) (Ev.pos (by omega) ?_)
    rw [hel]
    have hsame : Ev (fun k => cloisterref09_Same.f k good[i].f0 good[i].f1 good[i].f2 good[i].f3 good[i].f0 good[i].f1 good[i].f2 good[i].f3) true := by
      unfold cloisterref09_Same.f
      refine Ev.pos rfl (Ev.bind (same06_ev _ hfl) (Ev.pos rfl (Ev.pos rfl ?_)))
      rw [beq_self_eq_true]
      exact Ev.now _
    refine Ev.bind hsame (Ev.pos rfl ?_)
    refine Ev.pos (by show (0 : Int) ≤ ((textE good[i]).length : Int); omega) (Ev.pos (by show ((textE good[i]).length : Int) ≤ (x.size : Int); omega) ?_)
    rw [wr_succ i (by omega)]
    have hex : bytes (x.extract (((textE good[i]).length : Int)).toNat x.size) = flatE (good.drop (i + 1)) := by
      rw [bytes_from, hx, Int.toNat_natCast]
      exact List.drop_left' rfl
    have hex2 : (x.extract (((textE good[i]).length : Int)).toNat x.size).size < 4294967281 := by rw [size_bytes, hex]; omega
    exact ih (i + 1) _ (by omega) hex hex2

theorem replyLine_pure (l : List Re) (ht : totE l ≤ 1000000000) : ∃ k, cloisterlaw09_ReplyLine.f k l = some true := by
  apply Ev.rounds
  unfold cloisterlaw09_ReplyLine.f
  have hlen := tot_len l
  have loop : ∀ (g i : Nat) (x : ByteArray) (good : List Re), i + g = l.length → bytes x = flatE good → (∀ r ∈ good, mayE r = true) → good.length ≤ i → (flatE good).length + totE (l.drop i) ≤ 1000000000 → Ev (fun k => cloisterlaw09_ReplyLine.l0 k l x good (i : Int)) true := by
    intro g
    induction g with
    | zero =>
      intro i x good hi hx hg hgi hb
      obtain rfl : i = l.length := by omega
      have hxs := size_bytes x
      rw [hx] at hxs
      refine Ev.step (fun k => by rw [cloisterlaw09_ReplyLine.l0]) ?_
      refine Ev.neg (by omega) ?_
      exact line_read good hg (by omega) good.length 0 x (by omega) hx (by omega)
    | succ g ih =>
      intro i x good hi hx hg hgi hb
      have hlt : i < l.length := by omega
      have hel : rd_T28 l (i : Int) = l[i] := by simp [rd_T28, List.getD_eq_getElem?_getD, hlt]
      have hmem := tot_le (List.getElem_mem hlt)
      have hxs := size_bytes x
      rw [hx] at hxs
      rw [List.drop_eq_getElem_cons hlt, totE] at hb
      have hp := print_ev9 l[i].f0 l[i].f1 l[i].f2 l[i].f3 (by omega) (by omega)
      refine Ev.step (fun k => by rw [cloisterlaw09_ReplyLine.l0]) ?_
      refine Ev.pos (by omega) (Ev.pos (by omega) ?_)
      rw [hel, wr_succ i (by omega)]
      cases hm : mayE l[i] with
      | true =>
        have hm2 : mayR l[i].f0 l[i].f1 l[i].f2 = true := hm
        rw [if_pos hm2] at hp
        have htl := textE_len hm
        have hts : (⟨(textE l[i]).toArray⟩ : ByteArray).size = (textE l[i]).length := size_mk _
        refine Ev.bind hp (Ev.pos rfl (Ev.pos (by omega) ?_))
        refine Ev.pos (by show x.size + (⟨(textE l[i]).toArray⟩ : ByteArray).size ≤ _; rw [hts]; omega) ?_
        refine ih (i + 1) (x ++ (⟨(textE l[i]).toArray⟩ : ByteArray)) (good ++ [l[i]]) (by omega) ?_ ?_ ?_ ?_
        · rw [bytes_append, hx, flatE_app, bytes_mk (textE l[i])]
          simp [flatE]
        · intro r hr
          rcases List.mem_append.1 hr with hr | hr
          · exact hg r hr
          · rw [List.mem_singleton] at hr
            rw [hr]
            exact hm
        · rw [List.length_append, List.length_singleton]
          omega
        · rw [flatE_app, List.length_append]
          simp only [flatE, List.append_nil]
          omega
      | false =>
        have hm2 : ¬ mayR l[i].f0 l[i].f1 l[i].f2 = true := by
          show ¬ mayE l[i] = true
          rw [hm]
          decide
        rw [if_neg hm2] at hp
        refine Ev.bind hp (Ev.neg (by decide) ?_)
        exact ih (i + 1) x good (by omega) hx hg (by omega) (by omega)
  exact loop l.length 0 ⟨#[]⟩ [] (by omega) rfl (fun r hr => by cases hr) (by simp) (by rw [List.drop_zero]; show 0 + totE l ≤ _; omega)
end Go.Proofs.YtlpmifofgacgiaaDoor.Q
