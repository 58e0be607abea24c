/- The plain law of reply's names, values, may, Reason and Print (no program). -/
import Derived.Test.YtlpmifofgacgiaaDoorPE
import Derived.Test.YtlpmifofgacgiaaDoorGivenC
namespace Go.Proofs.YtlpmifofgacgiaaDoor.Q
open Go.RowKit Go.Proofs.YtlpmifofgacgiaaDoorW.PrintWords

/-! ### names -/
def symL : Bs := [33, 35, 36, 37, 38, 39, 42, 43, 45, 46, 94, 95, 96, 124, 126]
def tokB (c : UInt8) : Bool := if c.toNat < 97 ∨ 122 < c.toNat then (if c.toNat < 48 ∨ 57 < c.toNat then decide (0 ≤ Lib.indexByte symL c) else true) else true
def clB : Bs := [99, 111, 110, 116, 101, 110, 116, 45, 108, 101, 110, 103, 116, 104]
def coB : Bs := [99, 111, 110, 110, 101, 99, 116, 105, 111, 110]
def nameEnd (s : Bs) : Bool := if s = [] then false else if s = clB then false else s != coB
def nameOk (s : Bs) : Bool := s.all tokB && nameEnd s
theorem name_ev (s : ByteArray) (hs : s.size < 9223372036854775807) : Ev (fun k => reply_name.f k s) (nameOk (bytes s)) := by
  have hsz := size_bytes s
  have loop : ∀ (rest pre : Bs), bytes s = pre ++ rest → pre.all tokB = true → Ev (fun k => reply_name.l0 k s (s.size : Int) (pre.length : Int)) (nameOk (bytes s)) := by
    intro rest
    induction rest with
    | nil =>
      intro pre hp ha
      rw [List.append_nil] at hp
      have hl : pre.length = s.size := by rw [hsz, hp]
      refine Ev.step (fun k => by rw [reply_name.l0]) ?_
      refine Ev.neg (by omega) ?_
      unfold nameOk
      rw [hp, ha, ← hp, toList_bytes, Bool.true_and]
      by_cases h1 : bytes s = []
      · have e : nameEnd (bytes s) = false := if_pos h1
        rw [e]
        exact Ev.pos h1 (Ev.now _)
      · refine Ev.neg h1 ?_
        by_cases h2 : bytes s = clB
        · have e : nameEnd (bytes s) = false := (if_neg h1).trans (if_pos h2)
          rw [e]
          exact Ev.pos h2 (Ev.now _)
        · have e : nameEnd (bytes s) = (bytes s != coB) := (if_neg h1).trans (if_neg h2)
          rw [e]
          exact Ev.neg h2 (Ev.now _)
    | cons c r ih =>
      intro pre hp ha
      have hl : pre.length < s.size := by rw [hsz, hp]; simp
      have hc := UInt8.toNat_lt c
      have hb : bt s (pre.length : Int) = (c.toNat : Int) := bt_mid hp
      have next : tokB c = true → Ev (fun k => reply_name.l0 k s (s.size : Int) (wrap64 ((pre.length : Int) + 1))) (nameOk (bytes s)) := by
        intro ht
        rw [wr_succ pre.length (by omega)]
        have := ih (pre ++ [c]) (by rw [hp]; simp) (by rw [List.all_append, ha]; simp [ht])
        rw [List.length_append] at this
        exact this
      have stop : tokB c = false → nameOk (bytes s) = false := by
        intro ht
        unfold nameOk
        rw [hp, List.all_append, List.all_cons, ht]
        simp
      have hib : strings_IndexByte.f (⟨#[33, 35, 36, 37, 38, 39, 42, 43, 45, 46, 94, 95, 96, 124, 126]⟩ : ByteArray) (c.toNat : Int) = some (Lib.indexByte symL c) := by
        unfold strings_IndexByte.f
        have e : ((c.toNat : Int)).toNat.toUInt8 = c := by rw [Int.toNat_natCast]; exact UInt8.ofNat_toNat
        rw [e]
        rfl
      have ask : ((c.toNat < 97 ∨ 122 < c.toNat) ∧ (c.toNat < 48 ∨ 57 < c.toNat)) → Ev (fun k => (strings_IndexByte.f (⟨#[33, 35, 36, 37, 38, 39, 42, 43, 45, 46, 94, 95, 96, 124, 126]⟩ : ByteArray) (c.toNat : Int)).bind fun t101 => (if t101 < 0 then (some false) else (reply_name.l0 k s (s.size : Int) (wrap64 ((pre.length : Int) + 1))))) (nameOk (bytes s)) := by
        rintro ⟨h1, h2⟩
        refine Ev.bindC hib ?_
        have et : tokB c = decide (0 ≤ Lib.indexByte symL c) := by unfold tokB; rw [if_pos h1, if_pos h2]
        by_cases h3 : Lib.indexByte symL c < 0
        · rw [stop (by rw [et]; exact decide_eq_false (by omega))]
          exact Ev.pos h3 (Ev.now _)
        · exact Ev.neg h3 (next (by rw [et]; exact decide_eq_true (by omega)))
      have fine : ¬ ((c.toNat < 97 ∨ 122 < c.toNat) ∧ (c.toNat < 48 ∨ 57 < c.toNat)) → tokB c = true := by
        intro h
        unfold tokB
        by_cases h1 : c.toNat < 97 ∨ 122 < c.toNat
        · rw [if_pos h1, if_neg (fun h2 => h ⟨h1, h2⟩)]
        · rw [if_neg h1]
      refine Ev.step (fun k => by rw [reply_name.l0]) ?_
      refine Ev.pos (by omega) (Ev.pos (by omega) (Ev.pos (by omega) ?_))
      rw [hb]
      by_cases h97 : (c.toNat : Int) < 97
      · refine Ev.pos h97 ?_
        by_cases h48 : (c.toNat : Int) < 48
        · exact Ev.pos h48 (ask ⟨by omega, by omega⟩)
        · refine Ev.neg h48 ?_
          by_cases h57 : (c.toNat : Int) > 57
          · exact Ev.pos h57 (ask ⟨by omega, by omega⟩)
          · exact Ev.neg h57 (next (fine (by omega)))
      · refine Ev.neg h97 ?_
        by_cases h122 : (c.toNat : Int) > 122
        · refine Ev.pos h122 ?_
          by_cases h48 : (c.toNat : Int) < 48
          · exact Ev.pos h48 (ask ⟨by omega, by omega⟩)
          · refine Ev.neg h48 ?_
            by_cases h57 : (c.toNat : Int) > 57
            · exact Ev.pos h57 (ask ⟨by omega, by omega⟩)
            · exact Ev.neg h57 (next (fine (by omega)))
        · exact Ev.neg h122 (next (fine (by omega)))
  exact loop (bytes s) [] rfl rfl

/-! ### values -/
def valB (c : UInt8) : Bool := decide (c.toNat = 9 ∨ (32 ≤ c.toNat ∧ c.toNat ≤ 126))
def valueOk (s : Bs) : Bool := s.all valB && (trimW s == s)
theorem value_ev (s : ByteArray) (hs : s.size < 9223372036854775807) : Ev (fun k => reply_value.f k s) (valueOk (bytes s)) := by
  have hsz := size_bytes s
  have loop : ∀ (rest pre : Bs), bytes s = pre ++ rest → pre.all valB = true → Ev (fun k => reply_value.l0 k s (s.size : Int) (pre.length : Int)) (valueOk (bytes s)) := by
    intro rest
    induction rest with
    | nil =>
      intro pre hp ha
      rw [List.append_nil] at hp
      have hl : pre.length = s.size := by rw [hsz, hp]
      refine Ev.step (fun k => by rw [reply_value.l0]) ?_
      refine Ev.neg (by omega) ?_
      refine Ev.bindC (trim_f s (by omega)) ?_
      unfold valueOk
      rw [hp, ha, ← hp, toList_bytes, toList_bytes, bytes_mk (trimW (bytes s)), Bool.true_and]
      exact Ev.now _
    | cons c r ih =>
      intro pre hp ha
      have hl : pre.length < s.size := by rw [hsz, hp]; simp
      have hc := UInt8.toNat_lt c
      have hb : bt s (pre.length : Int) = (c.toNat : Int) := bt_mid hp
      have next : valB c = true → Ev (fun k => reply_value.l0 k s (s.size : Int) (wrap64 ((pre.length : Int) + 1))) (valueOk (bytes s)) := by
        intro ht
        rw [wr_succ pre.length (by omega)]
        have := ih (pre ++ [c]) (by rw [hp]; simp) (by rw [List.all_append, ha]; simp [ht])
        rw [List.length_append] at this
        exact this
      have stop : valB c = false → valueOk (bytes s) = false := by
        intro ht
        unfold valueOk
        rw [hp, List.all_append, List.all_cons, ht]
        simp
      refine Ev.step (fun k => by rw [reply_value.l0]) ?_
      refine Ev.pos (by omega) (Ev.pos (by omega) (Ev.pos (by omega) ?_))
      rw [hb]
      by_cases h9 : (c.toNat : Int) = 9
      · exact Ev.pos h9 (next (decide_eq_true (by omega)))
      refine Ev.neg h9 ?_
      by_cases h32 : (c.toNat : Int) < 32
      · rw [stop (decide_eq_false (by omega))]
        exact Ev.pos h32 (Ev.now _)
      refine Ev.neg h32 ?_
      by_cases h126 : (c.toNat : Int) > 126
      · rw [stop (decide_eq_false (by omega))]
        exact Ev.pos h126 (Ev.now _)
      · exact Ev.neg h126 (next (decide_eq_true (by omega)))
  exact loop (bytes s) [] rfl rfl

/-! ### may -/
def fieldOk (x : Pr) : Bool := nameOk (bytes x.f0) && valueOk (bytes x.f1)
def mayR (st : Int) (l : List Pr) (body : ByteArray) : Bool := decide (200 ≤ st ∧ st ≤ 599) && decide (l.length ≤ 32) && decide (body.size ≤ 1048576) && l.all fieldOk
def pairSmall (x : Pr) : Prop := x.f0.size < 9223372036854775807 ∧ x.f1.size < 9223372036854775807
theorem may_ev9 (st : Int) (l : List Pr) (body : ByteArray) (cl : Bool) (hl : ∀ x ∈ l, pairSmall x) : Ev (fun k => reply_may.f k st l body cl) (mayR st l body) := by
  have stop : Ev (fun k => reply_may.j0 k true st l body cl) false := by
    refine Ev.step (fun k => by rw [reply_may.j0, if_pos rfl]) ?_
    exact Ev.now _
  unfold reply_may.f
  by_cases h1 : st < 200
  · have e : mayR st l body = false := by unfold mayR; rw [decide_eq_false (show ¬ (200 ≤ st ∧ st ≤ 599) by omega)]; rfl
    rw [e]; exact Ev.pos h1 stop
  refine Ev.neg h1 ?_
  by_cases h2 : st > 599
  · have e : mayR st l body = false := by unfold mayR; rw [decide_eq_false (show ¬ (200 ≤ st ∧ st ≤ 599) by omega)]; rfl
    rw [e]; exact Ev.pos h2 stop
  refine Ev.neg h2 ?_
  by_cases h3 : (l.length : Int) > 32
  · have e : mayR st l body = false := by unfold mayR; rw [decide_eq_false (show ¬ l.length ≤ 32 by omega), Bool.and_false, Bool.false_and, Bool.false_and]
    rw [e]; exact Ev.pos h3 stop
  refine Ev.neg h3 ?_
  by_cases h4 : (body.size : Int) > 1048576
  · have e : mayR st l body = false := by unfold mayR; rw [decide_eq_false (show ¬ body.size ≤ 1048576 by omega), Bool.and_false, Bool.false_and]
    rw [e, decide_eq_true h4]; exact stop
  rw [decide_eq_false h4]
  have e : mayR st l body = l.all fieldOk := by
    unfold mayR
    rw [decide_eq_true (show 200 ≤ st ∧ st ≤ 599 by omega), decide_eq_true (show l.length ≤ 32 by omega), decide_eq_true (show body.size ≤ 1048576 by omega)]
    simp
  rw [e]
  refine Ev.step (fun k => by rw [reply_may.j0, if_neg (by decide)]) ?_
  have loop : ∀ (g i : Nat), i + g = l.length → (l.take i).all fieldOk = true → Ev (fun k => reply_may.l0 k l (l.length : Int) (i : Int)) (l.all fieldOk) := by
    intro g
    induction g with
    | zero =>
      intro i hi ha
      obtain rfl : i = l.length := by omega
      rw [List.take_length] at ha
      rw [ha]
      refine Ev.step (fun k => by rw [reply_may.l0]) ?_
      exact Ev.neg (by omega) (Ev.now _)
    | succ g ih =>
      intro i hi ha
      have hlt : i < l.length := by omega
      have hel : rd_T61 l (i : Int) = l[i] := by simp [rd_T61, List.getD_eq_getElem?_getD, hlt]
      obtain ⟨hs1, hs2⟩ := hl l[i] (List.getElem_mem hlt)
      have bad : fieldOk l[i] = false → l.all fieldOk = false := by
        intro h
        cases h2 : l.all fieldOk with
        | false => rfl
        | true =>
          have := List.all_eq_true.1 h2 l[i] (List.getElem_mem hlt)
          rw [h] at this
          cases this
      refine Ev.step (fun k => by rw [reply_may.l0]) ?_
      refine Ev.pos (by omega) (Ev.pos (by omega) (Ev.pos (by omega) ?_))
      rw [hel]
      refine Ev.bind (name_ev l[i].f0 hs1) ?_
      cases hn : nameOk (bytes l[i].f0) with
      | false =>
        rw [bad (by unfold fieldOk; rw [hn]; rfl)]
        first
        | exact Ev.neg (by decide) (Ev.now _)
        | exact Ev.pos (by decide) (Ev.now _)
      | true =>
        refine Ev.pos rfl (Ev.bind (value_ev l[i].f1 hs2) ?_)
        cases hv : valueOk (bytes l[i].f1) with
        | false =>
          rw [bad (by unfold fieldOk; rw [hn, hv]; rfl)]
          exact Ev.neg (by decide) (Ev.now _)
        | true =>
          refine Ev.pos rfl ?_
          rw [wr_succ i (by omega)]
          refine ih (i + 1) (by omega) ?_
          rw [List.take_add_one, List.getElem?_eq_getElem hlt, List.all_append, ha]
          simp [fieldOk, hn, hv]
  exact loop l.length 0 (by omega) rfl

/-! ### Reason, Print -/
def reasonsS : List (Int × ByteArray) := [(200, ⟨#[79, 75]⟩), (201, ⟨#[67, 114, 101, 97, 116, 101, 100]⟩), (204, ⟨#[78, 111, 32, 67, 111, 110, 116, 101, 110, 116]⟩), (400, ⟨#[66, 97, 100, 32, 82, 101, 113, 117, 101, 115, 116]⟩), (401, ⟨#[85, 110, 97, 117, 116, 104, 111, 114, 105, 122, 101, 100]⟩), (403, ⟨#[70, 111, 114, 98, 105, 100, 100, 101, 110]⟩), (404, ⟨#[78, 111, 116, 32, 70, 111, 117, 110, 100]⟩), (409, ⟨#[67, 111, 110, 102, 108, 105, 99, 116]⟩), (413, ⟨#[67, 111, 110, 116, 101, 110, 116, 32, 84, 111, 111, 32, 76, 97, 114, 103, 101]⟩), (431, ⟨#[82, 101, 113, 117, 101, 115, 116, 32, 72, 101, 97, 100, 101, 114, 32, 70, 105, 101, 108, 100, 115, 32, 84, 111, 111, 32, 76, 97, 114, 103, 101]⟩), (500, ⟨#[73, 110, 116, 101, 114, 110, 97, 108, 32, 83, 101, 114, 118, 101, 114, 32, 69, 114, 114, 111, 114]⟩), (503, ⟨#[83, 101, 114, 118, 105, 99, 101, 32, 85, 110, 97, 118, 97, 105, 108, 97, 98, 108, 101]⟩), (505, ⟨#[72, 84, 84, 80, 32, 86, 101, 114, 115, 105, 111, 110, 32, 78, 111, 116, 32, 83, 117, 112, 112, 111, 114, 116, 101, 100]⟩)]
def findR (st : Int) : List (Int × ByteArray) → ByteArray × Int
  | [] => (⟨#[]⟩, 3)
  | x :: r => if x.1 = st then (x.2, 0) else findR st r
theorem reason_ev (st : Int) : Ev (fun k => reply_Reason.f k st) (findR st reasonsS) := by
  unfold reply_Reason.f
  have hr : ∃ L, reply_reasons.f = some L ∧ L.map (fun x => (x.f0, x.f1)) = reasonsS := ⟨_, rfl, rfl⟩
  obtain ⟨L, h1, h2⟩ := hr
  refine Ev.bindC h1 ?_
  have hlen : L.length = 13 := by
    have := congrArg List.length h2
    rw [List.length_map] at this
    exact this
  have loop : ∀ (g i : Nat), i + g = L.length → Ev (fun k => reply_Reason.l0 k st L (L.length : Int) (i : Int)) (findR st ((L.drop i).map (fun x => (x.f0, x.f1)))) := by
    intro g
    induction g with
    | zero =>
      intro i hi
      obtain rfl : i = L.length := by omega
      rw [List.drop_length]
      refine Ev.step (fun k => by rw [reply_Reason.l0]) ?_
      exact Ev.neg (by omega) (Ev.now _)
    | succ g ih =>
      intro i hi
      have hlt : i < L.length := by omega
      have hel : rd_T101 L (i : Int) = L[i] := by simp [rd_T101, List.getD_eq_getElem?_getD, hlt]
      rw [List.drop_eq_getElem_cons hlt, List.map_cons, findR]
      refine Ev.step (fun k => by rw [reply_Reason.l0]) ?_
      refine Ev.pos (by omega) (Ev.pos (by omega) (Ev.pos (by omega) ?_))
      rw [hel]
      by_cases h : L[i].f0 = st
      · rw [if_pos h]; exact Ev.pos h (Ev.now _)
      · rw [if_neg h]
        refine Ev.neg h ?_
        rw [wr_succ i (by omega)]
        exact ih (i + 1) (by omega)
  have := loop L.length 0 (by omega)
  rw [List.drop_zero, h2] at this
  exact this
theorem findR_words (st : Int) : ∀ b ∈ bytes (wordsOf (findR st reasonsS)), 32 ≤ b.toNat ∧ b.toNat ≤ 126 := by
  have hall : ∀ x ∈ reasonsS, ∀ b ∈ bytes x.2, 32 ≤ b.toNat ∧ b.toNat ≤ 126 := by decide +kernel
  have key : ∀ L : List (Int × ByteArray), (∀ x ∈ L, ∀ b ∈ bytes x.2, 32 ≤ b.toNat ∧ b.toNat ≤ 126) → ∀ b ∈ bytes (wordsOf (findR st L)), 32 ≤ b.toNat ∧ b.toNat ≤ 126 := by
    intro L
    induction L with
    | nil =>
      intro _
      show ∀ b ∈ bytes (⟨#[83, 116, 97, 116, 117, 115]⟩ : ByteArray), _
      decide +kernel
    | cons x L ih =>
      intro h
      rw [findR]
      by_cases hx : x.1 = st
      · rw [if_pos hx]
        exact h x (by simp)
      · rw [if_neg hx]
        exact ih (fun y hy => h y (by simp [hy]))
  exact key reasonsS hall
theorem findR_len (st : Int) : (wordsOf (findR st reasonsS)).size ≤ 40 := by
  have hall : ∀ x ∈ reasonsS, x.2.size ≤ 40 := by decide +kernel
  have key : ∀ L : List (Int × ByteArray), (∀ x ∈ L, x.2.size ≤ 40) → (wordsOf (findR st L)).size ≤ 40 := by
    intro L
    induction L with
    | nil => intro _; show (⟨#[83, 116, 97, 116, 117, 115]⟩ : ByteArray).size ≤ 40; decide
    | cons x L ih =>
      intro h
      rw [findR]
      by_cases hx : x.1 = st
      · rw [if_pos hx]
        exact h x (by simp)
      · rw [if_neg hx]
        exact ih (fun y hy => h y (by simp [hy]))
  exact key reasonsS hall

def hdrS : List Pr → Bs
  | [] => []
  | x :: l => bytes x.f0 ++ [58, 32] ++ bytes x.f1 ++ [13, 10] ++ hdrS l
def endS (cl : Bool) : Bs := if cl = true then [99, 108, 111, 115, 101] else [107, 101, 101, 112, 45, 97, 108, 105, 118, 101]
def headS (st : Int) : Bs := [72, 84, 84, 80, 47, 49, 46, 49, 32] ++ itoaL st ++ [32] ++ bytes (wordsOf (findR st reasonsS))
def footS (body : ByteArray) (cl : Bool) : Bs := clB ++ [58, 32] ++ itoaL (body.size : Int) ++ [13, 10] ++ (coB ++ [58, 32] ++ endS cl ++ [13, 10, 13, 10] ++ bytes body)
def printR (st : Int) (l : List Pr) (body : ByteArray) (cl : Bool) : Bs := headS st ++ [13, 10] ++ (hdrS l ++ footS body cl)
def hdrLen : List Pr → Nat
  | [] => 0
  | x :: l => x.f0.size + x.f1.size + 4 + hdrLen l
theorem size_mk' (l : Bs) : (⟨l.toArray⟩ : ByteArray).size = l.length := by rw [size_bytes, bytes_mk l]
theorem hdrS_len : ∀ l : List Pr, (hdrS l).length = hdrLen l := by
  intro l
  induction l with
  | nil => rfl
  | cons x l ih =>
    have h0 := size_bytes x.f0
    have h1 := size_bytes x.f1
    rw [hdrS, hdrLen]
    simp only [List.length_append, List.length_cons, List.length_nil]
    omega
theorem hdrText_ev : ∀ (l : List Pr) (acc : Bs), acc.length + hdrLen l ≤ bigLen → hdrText l acc = some (acc ++ hdrS l) := by
  intro l
  induction l with
  | nil => intro acc _; simp [hdrText, hdrS]
  | cons x l ih =>
    intro acc h
    rw [hdrLen] at h
    have h0 := size_bytes x.f0
    have h1 := size_bytes x.f1
    rw [hdrText, if_pos (by omega), ih _ (by
      show (acc ++ bytes x.f0 ++ [58, 32] ++ bytes x.f1 ++ [13, 10]).length + hdrLen l ≤ bigLen
      simp only [List.length_append, List.length_cons, List.length_nil]
      omega)]
    congr 1
    show acc ++ bytes x.f0 ++ [58, 32] ++ bytes x.f1 ++ [13, 10] ++ hdrS l = _
    simp [hdrS]
theorem print_ev9 (st : Int) (l : List Pr) (body : ByteArray) (cl : Bool) (hl : hdrLen l ≤ 1000000000000) (hb : body.size < 9223372036854775807) :
    Ev (fun k => reply_Print.f k st l body cl) (if mayR st l body = true then (⟨(printR st l body cl).toArray⟩, 0) else (⟨#[]⟩, 90)) := by
  have hsm : ∀ x ∈ l, pairSmall x := by
    have key : ∀ l : List Pr, hdrLen l ≤ 1000000000000 → ∀ x ∈ l, pairSmall x := by
      intro l
      induction l with
      | nil => intro _ x hx; cases hx
      | cons y l ih =>
        intro h x hx
        rw [hdrLen] at h
        rcases List.mem_cons.1 hx with rfl | hx
        · exact ⟨by omega, by omega⟩
        · exact ih (by omega) x hx
    exact key l hl
  unfold reply_Print.f
  refine Ev.bind (may_ev9 st l body cl hsm) ?_
  cases hm : mayR st l body with
  | false =>
    rw [if_neg (by decide)]
    exact Ev.neg (by decide) (Ev.now _)
  | true =>
    rw [if_pos rfl]
    refine Ev.pos rfl ?_
    have hmm := hm
    unfold mayR at hmm
    simp only [Bool.and_eq_true, decide_eq_true_eq] at hmm
    obtain ⟨⟨⟨h1, h2⟩, h3⟩, _⟩ := hmm
    refine Ev.bind (reason_ev st) ?_
    have hst : i64ok st := ⟨by omega, by omega⟩
    have hbs : i64ok (body.size : Int) := ⟨by omega, by omega⟩
    refine Ev.bindC (itoa_ok hst) (Ev.bindC (itoa_ok hbs) ?_)
    have he : reply_end.f cl = some ⟨(endS cl).toArray⟩ := by
      unfold reply_end.f endS
      cases cl <;> rfl
    refine Ev.bindC he ?_
    have l1 := itoaL_length hst
    have l2 := itoaL_length hbs
    have l3 : (endS cl).length ≤ 10 := by cases cl <;> decide
    have l4 := findR_len st
    have e1 := size_mk' (itoaL st)
    have e2 := size_mk' (itoaL (body.size : Int))
    have e3 := size_mk' (endS cl)
    refine Ev.pos (by rw [e1, e2, e3]; omega) ?_
    have l5 : (bytes (wordsOf (findR st reasonsS))).length ≤ 40 := by rw [← size_bytes]; exact l4
    refine Ev.bindC (hdrText_ev l _ ?_) ?_
    · show ([72, 84, 84, 80, 47, 49, 46, 49, 32] ++ itoaL st ++ [32] ++ bytes (wordsOf (findR st reasonsS)) ++ [13, 10]).length + hdrLen l ≤ bigLen
      simp only [List.length_append, List.length_cons, List.length_nil]
      unfold bigLen
      omega
    · have hh := hdrS_len l
      refine Ev.pos ?_ (Ev.const fun _ => ?_)
      · show ([72, 84, 84, 80, 47, 49, 46, 49, 32] ++ itoaL st ++ [32] ++ bytes (wordsOf (findR st reasonsS)) ++ [13, 10] ++ hdrS l).length + 2147483648 ≤ bigLen
        simp only [List.length_append, List.length_cons, List.length_nil]
        unfold bigLen
        omega
      · congr 2
        show (⟨([72, 84, 84, 80, 47, 49, 46, 49, 32] ++ itoaL st ++ [32] ++ bytes (wordsOf (findR st reasonsS)) ++ [13, 10] ++ hdrS l ++ [99, 111, 110, 116, 101, 110, 116, 45, 108, 101, 110, 103, 116, 104, 58, 32] ++ itoaL (body.size : Int) ++ [13, 10, 99, 111, 110, 110, 101, 99, 116, 105, 111, 110, 58, 32] ++ endS cl ++ [13, 10, 13, 10] ++ bytes body).toArray⟩ : ByteArray) = _
        congr 2
        unfold printR headS footS clB coB
        simp
end Go.Proofs.YtlpmifofgacgiaaDoor.Q
