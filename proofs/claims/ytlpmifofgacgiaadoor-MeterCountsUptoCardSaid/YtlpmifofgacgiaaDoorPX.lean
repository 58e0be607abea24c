/- The plain law of reply.Parse at a printed text: it reads the reply back (no program). -/
import Derived.Test.YtlpmifofgacgiaaDoorPR6
import Derived.Test.YtlpmifofgacgiaaDoorQ10
import Derived.Test.YtlpmifofgacgiaaDoorQ12
import Derived.Test.YtlpmifofgacgiaaDoorK
import Derived.Test.YtlpmifofgacgiaaDoorQ5
import Derived.Test.YtlpmifofgacgiaaDoorQ6
namespace Go.Proofs.YtlpmifofgacgiaaDoor.Q
open Go.RowKit Go.Proofs.YtlpmifofgacgiaaDoorW.PrintWords

def alB (c : UInt8) : Bool := decide ((97 ≤ c.toNat ∧ c.toNat ≤ 122) ∨ (65 ≤ c.toNat ∧ c.toNat ≤ 90) ∨ (48 ≤ c.toNat ∧ c.toNat ≤ 57))
def tok7 (c : UInt8) : Bool := alB c || symL.contains c
def symB : ByteArray := ⟨#[33, 35, 36, 37, 38, 39, 42, 43, 45, 46, 94, 95, 96, 124, 126]⟩
theorem signs_ev (s : ByteArray) (x4 : Int) (c : UInt8) (r : Bool) (hok : Ev (fun k => cloisterref07_Name.l0 k s symB (wrap64 (x4 + 1))) r) : ∀ (rest pre : Bs) (ok : Bool), symL = pre ++ rest →
    Ev (fun k => cloisterref07_Name.l1 k s symB x4 (c.toNat : Int) ok (pre.length : Int)) (if (ok || rest.contains c) = true then r else false) := by
  have hsz : symB.size = 15 := rfl
  have hlen : symL.length = 15 := rfl
  intro rest
  induction rest with
  | nil =>
    intro pre ok hp
    have hl : pre.length = 15 := by rw [← hlen, hp, List.append_nil]
    refine Ev.step (fun k => by rw [cloisterref07_Name.l1]) ?_
    refine Ev.neg (by omega) ?_
    cases ok with
    | true => exact Ev.pos rfl hok
    | false => exact Ev.neg (by decide) (Ev.now _)
  | cons d rest ih =>
    intro pre ok hp
    have hl : pre.length + (rest.length + 1) = 15 := by
      have := congrArg List.length hp
      rw [List.length_append, List.length_cons] at this
      omega
    have hb : bt symB (pre.length : Int) = (d.toNat : Int) := bt_mid (s := symB) (show bytes symB = pre ++ d :: rest from hp)
    have e1 : (pre ++ [d]).length = pre.length + 1 := by rw [List.length_append]; rfl
    refine Ev.step (fun k => by rw [cloisterref07_Name.l1]) ?_
    refine Ev.pos (by omega) ?_
    rw [wr_succ pre.length (by omega)]
    cases ok with
    | true =>
      refine Ev.pos rfl ?_
      have := ih (pre ++ [d]) true (by rw [hp]; simp)
      rw [e1] at this
      simpa using this
    | false =>
      refine Ev.neg (by decide) (Ev.pos (by omega) ?_)
      rw [hb]
      have := ih (pre ++ [d]) ((c.toNat : Int) == (d.toNat : Int)) (by rw [hp]; simp)
      rw [e1] at this
      have e2 : (((c.toNat : Int) == (d.toNat : Int)) || rest.contains c) = (false || (d :: rest).contains c) := by
        rw [List.contains_cons, Bool.false_or]
        congr 1
        by_cases h : c = d
        · subst h; simp
        · rw [beq_eq_false_iff_ne.2 h, beq_eq_false_iff_ne]
          intro e
          exact h (u8_eq (by omega))
      rw [e2] at this
      exact this
theorem name7_ev (s : ByteArray) (hs : s.size < 9223372036854775807) : Ev (fun k => cloisterref07_Name.f k s) ((bytes s).all tok7 && decide (1 ≤ (bytes s).length)) := by
  have hsz := size_bytes s
  have loop : ∀ (rest pre : Bs), bytes s = pre ++ rest → Ev (fun k => cloisterref07_Name.l0 k s symB (pre.length : Int)) (rest.all tok7 && decide (1 ≤ (bytes s).length)) := by
    intro rest
    induction rest with
    | nil =>
      intro pre hp
      have hl : pre.length = s.size := by rw [hsz, hp, List.append_nil]
      refine Ev.step (fun k => by rw [cloisterref07_Name.l0]) ?_
      refine Ev.neg (by omega) ?_
      have e : decide ((s.size : Int) ≥ 1) = (([] : Bs).all tok7 && decide (1 ≤ (bytes s).length)) := by
        rw [List.all_nil, Bool.true_and]
        exact decide_eq_decide.2 (by omega)
      rw [e]
      exact Ev.now _
    | cons c r ih =>
      intro pre hp
      have hl : s.size = pre.length + (r.length + 1) := by rw [hsz, hp]; simp
      have hc := UInt8.toNat_lt c
      have hb : bt s (pre.length : Int) = (c.toNat : Int) := bt_mid hp
      have hnext : Ev (fun k => cloisterref07_Name.l0 k s symB (wrap64 ((pre.length : Int) + 1))) (r.all tok7 && decide (1 ≤ (bytes s).length)) := by
        rw [wr_succ pre.length (by omega)]
        have := ih (pre ++ [c]) (by rw [hp]; simp)
        rw [List.length_append] at this
        exact this
      have ask : ∀ ok : Bool, ok = alB c → Ev (fun k => cloisterref07_Name.l1 k s symB (pre.length : Int) (c.toNat : Int) ok 0) ((c :: r).all tok7 && decide (1 ≤ (bytes s).length)) := by
        intro ok hk
        have := signs_ev s (pre.length : Int) c _ hnext symL [] ok rfl
        have e : (if (ok || symL.contains c) = true then (r.all tok7 && decide (1 ≤ (bytes s).length)) else false) = ((c :: r).all tok7 && decide (1 ≤ (bytes s).length)) := by
          rw [List.all_cons, hk]
          show (if tok7 c = true then _ else false) = _
          cases tok7 c <;> simp
        rw [e] at this
        exact this
      refine Ev.step (fun k => by rw [cloisterref07_Name.l0]) ?_
      refine Ev.pos (by omega) (Ev.pos (by omega) ?_)
      rw [hb]
      have low : Ev (fun k => if (c.toNat : Int) ≥ 65 then (if (c.toNat : Int) ≤ 90 then (cloisterref07_Name.l1 k s symB (pre.length : Int) (c.toNat : Int) true 0) else (if (c.toNat : Int) ≥ 48 then (cloisterref07_Name.l1 k s symB (pre.length : Int) (c.toNat : Int) (decide ((c.toNat : Int) ≤ 57)) 0) else (cloisterref07_Name.l1 k s symB (pre.length : Int) (c.toNat : Int) false 0))) else (if (c.toNat : Int) ≥ 48 then (cloisterref07_Name.l1 k s symB (pre.length : Int) (c.toNat : Int) (decide ((c.toNat : Int) ≤ 57)) 0) else (cloisterref07_Name.l1 k s symB (pre.length : Int) (c.toNat : Int) false 0))) ((c :: r).all tok7 && decide (1 ≤ (bytes s).length)) ∨ (97 ≤ c.toNat ∧ c.toNat ≤ 122) := by
        by_cases h9 : 97 ≤ c.toNat ∧ c.toNat ≤ 122
        · exact .inr h9
        left
        by_cases h65 : (c.toNat : Int) ≥ 65
        · refine Ev.pos h65 ?_
          by_cases h90 : (c.toNat : Int) ≤ 90
          · exact Ev.pos h90 (ask true (decide_eq_true (by omega)).symm)
          · refine Ev.neg h90 (Ev.pos (by omega) (ask _ ?_))
            rw [decide_eq_false (by omega)]
            exact (decide_eq_false (by omega)).symm
        · refine Ev.neg h65 ?_
          by_cases h48 : (c.toNat : Int) ≥ 48
          · refine Ev.pos h48 (ask _ ?_)
            exact decide_eq_decide.2 (by omega)
          · exact Ev.neg h48 (ask false (decide_eq_false (by omega)).symm)
      by_cases h97 : (c.toNat : Int) ≥ 97
      · refine Ev.pos h97 ?_
        by_cases h122 : (c.toNat : Int) ≤ 122
        · exact Ev.pos h122 (ask true (decide_eq_true (by omega)).symm)
        · refine Ev.neg h122 ?_
          rcases low with h | h
          · exact h
          · omega
      · refine Ev.neg h97 ?_
        rcases low with h | h
        · exact h
        · omega
  exact loop (bytes s) [] rfl

/-! ### Small -/
def smB (c : UInt8) : Nat := if 65 ≤ c.toNat ∧ c.toNat ≤ 90 then c.toNat + 32 else c.toNat
theorem small_ev (s : ByteArray) (hs : s.size < 4294967296) : Ev (fun k => cloisterref07_Small.f k s) (strOfNums ((bytes s).map fun c => (smB c : Int))) := by
  have hsz := size_bytes s
  have loop : ∀ (rest pre : Bs), bytes s = pre ++ rest → Ev (fun k => cloisterref07_Small.l0 k s (pre.map fun c => (smB c : Int)) (pre.length : Int)) (strOfNums ((bytes s).map fun c => (smB c : Int))) := by
    intro rest
    induction rest with
    | nil =>
      intro pre hp
      rw [List.append_nil] at hp
      have hl : pre.length = s.size := by rw [hsz, hp]
      refine Ev.step (fun k => by rw [cloisterref07_Small.l0]) ?_
      refine Ev.neg (by omega) ?_
      rw [hp]
      exact Ev.now _
    | cons c r ih =>
      intro pre hp
      have hl : s.size = pre.length + (r.length + 1) := by rw [hsz, hp]; simp
      have hc := UInt8.toNat_lt c
      have hb : bt s (pre.length : Int) = (c.toNat : Int) := bt_mid hp
      have next := ih (pre ++ [c]) (by rw [hp]; simp)
      rw [List.length_append, List.map_append] at next
      have room : (pre.map fun c => (smB c : Int)).length < 140737488355328 := by rw [List.length_map]; omega
      refine Ev.step (fun k => by rw [cloisterref07_Small.l0]) ?_
      refine Ev.pos (by omega) (Ev.pos (by omega) ?_)
      rw [hb, wr_succ pre.length (by omega)]
      by_cases h65 : (c.toNat : Int) ≥ 65
      · refine Ev.pos h65 ?_
        by_cases h90 : (c.toNat : Int) ≤ 90
        · refine Ev.pos h90 (Ev.pos room ?_)
          have e : ((c.toNat : Int) + 32) % 256 = (smB c : Int) := by
            unfold smB
            rw [if_pos (by omega)]
            omega
          rw [e]
          exact next
        · refine Ev.neg h90 (Ev.pos room ?_)
          have e : (c.toNat : Int) = (smB c : Int) := by unfold smB; rw [if_neg (by omega)]
          rw [e]
          exact next
      · refine Ev.neg h65 (Ev.pos room ?_)
        have e : (c.toNat : Int) = (smB c : Int) := by unfold smB; rw [if_neg (by omega)]
        rw [e]
        exact next
  exact loop (bytes s) [] rfl
theorem small_same (l : Bs) : (strOfNums (l.map fun c => (smB c : Int))).toList = l ↔ ∀ c ∈ l, smB c = c.toNat := by
  rw [toList_bytes]
  have e : bytes (strOfNums (l.map fun c => (smB c : Int))) = l.map fun c => UInt8.ofNat (smB c) := by
    unfold strOfNums
    rw [List.map_map]
    rfl
  rw [e]
  constructor
  · intro h c hc
    have hm : ∀ x ∈ l, UInt8.ofNat (smB x) = x := by
      intro x hx
      obtain ⟨i, hi, rfl⟩ := List.mem_iff_getElem.1 hx
      have h2 : (l.map fun c => UInt8.ofNat (smB c))[i]? = l[i]? := by rw [h]
      rw [List.getElem?_map, List.getElem?_eq_getElem hi] at h2
      exact Option.some.inj h2
    have h1 := congrArg UInt8.toNat (hm c hc)
    have hlt := UInt8.toNat_lt c
    have hs : smB c < 256 := by unfold smB; split <;> omega
    rw [UInt8.toNat_ofNat'] at h1
    omega
  · intro h
    have : (l.map fun c => UInt8.ofNat (smB c)) = l.map id := List.map_congr_left (fun c hc => by rw [h c hc]; exact UInt8.ofNat_toNat)
    rw [this, List.map_id]
theorem tok_same (c : UInt8) : (tok7 c = true ∧ smB c = c.toNat) ↔ tokB c = true := by
  have hall : ∀ n : Fin 256, (tok7 (UInt8.ofNat n.val) = true ∧ smB (UInt8.ofNat n.val) = (UInt8.ofNat n.val).toNat) ↔ tokB (UInt8.ofNat n.val) = true := by decide +kernel
  have := hall ⟨c.toNat, UInt8.toNat_lt c⟩
  rw [show UInt8.ofNat c.toNat = c from UInt8.ofNat_toNat] at this
  exact this

/-! ### value -/
theorem value13_ev (s : ByteArray) (hs : s.size < 4294967296) : Ev (fun k => cloisterref09_value.f k s) (valueOk (bytes s)) := by
  have hsz := size_bytes s
  have loop : ∀ (rest pre : Bs), bytes s = pre ++ rest → pre.all valB = true → Ev (fun k => cloisterref09_value.l0 k s (pre.length : Int)) (valueOk (bytes s)) := by
    intro rest
    induction rest with
    | nil =>
      intro pre hp ha
      rw [List.append_nil] at hp
      have hl : pre.length = s.size := by rw [hsz, hp]
      refine Ev.step (fun k => by rw [cloisterref09_value.l0]) ?_
      refine Ev.neg (by omega) ?_
      refine Ev.bind (trim06_ev s hs) ?_
      unfold valueOk
      rw [hp, ha, ← hp, toList_bytes, toList_bytes, bytes_mk (trimW (bytes s)), Bool.true_and]
      exact Ev.now _
    | cons c r ih =>
      intro pre hp ha
      have hl : pre.length < s.size := by rw [hsz, hp]; simp
      have hc := UInt8.toNat_lt c
      have hb : bt s (pre.length : Int) = (c.toNat : Int) := bt_mid hp
      have next : valB c = true → Ev (fun k => cloisterref09_value.l0 k s (wrap64 ((pre.length : Int) + 1))) (valueOk (bytes s)) := by
        intro ht
        rw [wr_succ pre.length (by omega)]
        have := ih (pre ++ [c]) (by rw [hp]; simp) (by rw [List.all_append, ha]; simp [ht])
        rw [List.length_append] at this
        exact this
      have stop : valB c = false → valueOk (bytes s) = false := by
        intro ht
        unfold valueOk
        rw [hp, List.all_append, List.all_cons, ht]
        simp
      refine Ev.step (fun k => by rw [cloisterref09_value.l0]) ?_
      refine Ev.pos (by omega) (Ev.pos (by omega) ?_)
      rw [hb]
      have two : Ev (fun k => if (c.toNat : Int) = 32 then (cloisterref09_value.l0 k s (wrap64 ((pre.length : Int) + 1))) else (if (c.toNat : Int) = 9 then (cloisterref09_value.l0 k s (wrap64 ((pre.length : Int) + 1))) else (some false))) (valueOk (bytes s)) ∨ (33 ≤ c.toNat ∧ c.toNat ≤ 126) := by
        by_cases hv : 33 ≤ c.toNat ∧ c.toNat ≤ 126
        · exact .inr hv
        left
        by_cases h32 : (c.toNat : Int) = 32
        · exact Ev.pos h32 (next (decide_eq_true (by omega)))
        refine Ev.neg h32 ?_
        by_cases h9 : (c.toNat : Int) = 9
        · exact Ev.pos h9 (next (decide_eq_true (by omega)))
        · rw [stop (decide_eq_false (by omega))]
          exact Ev.neg h9 (Ev.now _)
      by_cases h33 : (c.toNat : Int) < 33
      · refine Ev.pos h33 ?_
        rcases two with h | h
        · exact h
        · omega
      refine Ev.neg h33 ?_
      by_cases h126 : (c.toNat : Int) > 126
      · refine Ev.pos h126 ?_
        rcases two with h | h
        · exact h
        · omega
      · exact Ev.neg h126 (next (decide_eq_true (by omega)))
  exact loop (bytes s) [] rfl rfl

/-! ### May -/
theorem may13r_ev (st : Int) (l : List Pr) (body : ByteArray) (cl : Bool) (hl : ∀ x ∈ l, x.f0.size < 4294967296 ∧ x.f1.size < 4294967296) : Ev (fun k => cloisterref09_May.f k st l body cl) (mayR st l body) := by
  have stop : Ev (fun k => cloisterref09_May.j0 k true st l body cl) false := by
    refine Ev.step (fun k => by rw [cloisterref09_May.j0, if_pos rfl]) ?_
    exact Ev.now _
  unfold cloisterref09_May.f
  by_cases h1 : st < 200
  · have e : mayR st l body = false := by unfold mayR; rw [decide_eq_false (show ¬ (200 ≤ st ∧ st ≤ 599) by omega)]; rfl
    rw [e]; exact Ev.pos h1 stop
  refine Ev.neg h1 ?_
  by_cases h2 : st > 599
  · have e : mayR st l body = false := by unfold mayR; rw [decide_eq_false (show ¬ (200 ≤ st ∧ st ≤ 599) by omega)]; rfl
    rw [e]; exact Ev.pos h2 stop
  refine Ev.neg h2 ?_
  by_cases h3 : (l.length : Int) > 32
  · have e : mayR st l body = false := by unfold mayR; rw [decide_eq_false (show ¬ l.length ≤ 32 by omega), Bool.and_false, Bool.false_and, Bool.false_and]
    rw [e]; exact Ev.pos h3 stop
  refine Ev.neg h3 ?_
  by_cases h4 : (body.size : Int) > 1048576
  · have e : mayR st l body = false := by unfold mayR; rw [decide_eq_false (show ¬ body.size ≤ 1048576 by omega), Bool.and_false, Bool.false_and]
    rw [e, decide_eq_true h4]; exact stop
  rw [decide_eq_false h4]
  have e : mayR st l body = l.all fieldOk := by
    unfold mayR
    rw [decide_eq_true (show 200 ≤ st ∧ st ≤ 599 by omega), decide_eq_true (show l.length ≤ 32 by omega), decide_eq_true (show body.size ≤ 1048576 by omega)]
    simp
  rw [e]
  refine Ev.step (fun k => by rw [cloisterref09_May.j0, if_neg (by decide)]) ?_
  have loop : ∀ (g i : Nat), i + g = l.length → (l.take i).all fieldOk = true → Ev (fun k => cloisterref09_May.l0 k (i : Int) st l body cl) (l.all fieldOk) := by
    intro g
    induction g with
    | zero =>
      intro i hi ha
      obtain rfl : i = l.length := by omega
      rw [List.take_length] at ha
      rw [ha]
      refine Ev.step (fun k => by rw [cloisterref09_May.l0]) ?_
      exact Ev.neg (by omega) (Ev.now _)
    | succ g ih =>
      intro i hi ha
      have hlt : i < l.length := by omega
      have hel : rd_T61 l (i : Int) = l[i] := by simp [rd_T61, List.getD_eq_getElem?_getD, hlt]
      obtain ⟨hs1, hs2⟩ := hl l[i] (List.getElem_mem hlt)
      have bad : fieldOk l[i] = false → l.all fieldOk = false := by
        intro h
        cases h2 : l.all fieldOk with
        | false => rfl
        | true =>
          have := List.all_eq_true.1 h2 l[i] (List.getElem_mem hlt)
          rw [h] at this
          cases this
      have badN : nameOk (bytes l[i].f0) = false → l.all fieldOk = false := fun h => bad (by unfold fieldOk; rw [h]; rfl)
      refine Ev.step (fun k => by rw [cloisterref09_May.l0]) ?_
      refine Ev.pos (by omega) (Ev.pos (by omega) ?_)
      rw [hel]
      generalize hx : l[i] = x at *
      refine Ev.bind (name7_ev x.f0 (by omega)) ?_
      have all_of : (bytes x.f0).all tokB = true → (bytes x.f0).all tok7 = true ∧ ∀ c ∈ bytes x.f0, smB c = c.toNat := by
        intro h
        have hc : ∀ c ∈ bytes x.f0, tok7 c = true ∧ smB c = c.toNat := fun c hc => (tok_same c).2 (List.all_eq_true.1 h c hc)
        exact ⟨List.all_eq_true.2 (fun c h => (hc c h).1), fun c h => (hc c h).2⟩
      by_cases h7 : ((bytes x.f0).all tok7 && decide (1 ≤ (bytes x.f0).length)) = true
      · refine Ev.pos h7 (Ev.bind (small_ev x.f0 hs1) ?_)
        rw [Bool.and_eq_true, decide_eq_true_eq] at h7
        rw [toList_bytes x.f0]
        by_cases hsm : (strOfNums ((bytes x.f0).map fun c => (smB c : Int))).toList = bytes x.f0
        · refine Ev.pos hsm ?_
          have hsm2 := (small_same _).1 hsm
          have hall : (bytes x.f0).all tokB = true := List.all_eq_true.2 (fun c hc => (tok_same c).1 ⟨List.all_eq_true.1 h7.1 c hc, hsm2 c hc⟩)
          have hne : bytes x.f0 ≠ [] := fun e => by rw [e] at h7; exact absurd h7.2 (by decide)
          by_cases hcl : bytes x.f0 = clB
          · rw [badN (by unfold nameOk nameEnd; rw [if_neg hne, if_pos hcl, Bool.and_false])]
            exact Ev.pos hcl (Ev.now _)
          refine Ev.neg hcl ?_
          by_cases hco : bytes x.f0 = coB
          · rw [badN (by unfold nameOk nameEnd; rw [if_neg hne, if_neg hcl, hco]; decide)]
            exact Ev.pos hco (Ev.now _)
          refine Ev.neg hco ?_
          have hn : nameOk (bytes x.f0) = true := by unfold nameOk nameEnd; rw [if_neg hne, if_neg hcl, hall, bne_iff_ne.2 hco]; rfl
          refine Ev.bind (value13_ev x.f1 hs2) ?_
          cases hv : valueOk (bytes x.f1) with
          | false =>
            rw [bad (by unfold fieldOk; rw [hn, hv]; rfl)]
            exact Ev.neg (by decide) (Ev.now _)
          | true =>
            refine Ev.pos rfl ?_
            rw [wr_succ i (by omega)]
            refine ih (i + 1) (by omega) ?_
            rw [List.take_add_one, List.getElem?_eq_getElem hlt, List.all_append, ha, hx]
            simp [fieldOk, hn, hv]
        · rw [badN (by
            cases hk : (bytes x.f0).all tokB with
            | false => unfold nameOk; rw [hk]; rfl
            | true => exact absurd ((small_same _).2 (all_of hk).2) hsm)]
          exact Ev.neg hsm (Ev.now _)
      · rw [badN (by
          cases hk : (bytes x.f0).all tokB with
          | false => unfold nameOk; rw [hk]; rfl
          | true =>
            have ht := (all_of hk).1
            have h0 : bytes x.f0 = [] := by
              cases hb : bytes x.f0 with
              | nil => rfl
              | cons c r => exact absurd (by rw [ht, hb]; simp) h7
            unfold nameOk nameEnd
            rw [if_pos h0, Bool.and_false])]
        exact Ev.neg h7 (Ev.now _)
  exact loop l.length 0 (by omega) rfl
end Go.Proofs.YtlpmifofgacgiaaDoor.Q
namespace Go.Proofs.YtlpmifofgacgiaaDoor.Q
open Go.RowKit Go.Proofs.YtlpmifofgacgiaaDoorW.PrintWords Go.Proofs.YtlpmifofgacgiaaDoorW.PrintLast Go.Proofs.YtlpmifofgacgiaaDoorW.PrintMore
attribute [local go_sem] max2_int min2_int max_two min_two max_three min_three max_four min_four   -- for this text's walks alone
set_option linter.unusedVariables false
set_option linter.unusedSimpArgs false

/-! ### cloisterref09_Reason: function 85 -/
def cloisterref09_Reason.f (a0 : Int) : Option (ByteArray × Int) := if a0 = 200 then (some ((⟨#[79, 75]⟩ : ByteArray), 0)) else (if a0 = 201 then (some ((⟨#[67, 114, 101, 97, 116, 101, 100]⟩ : ByteArray), 0)) else (if a0 = 204 then (some ((⟨#[78, 111, 32, 67, 111, 110, 116, 101, 110, 116]⟩ : ByteArray), 0)) else (if a0 = 400 then (some ((⟨#[66, 97, 100, 32, 82, 101, 113, 117, 101, 115, 116]⟩ : ByteArray), 0)) else (if a0 = 401 then (some ((⟨#[85, 110, 97, 117, 116, 104, 111, 114, 105, 122, 101, 100]⟩ : ByteArray), 0)) else (if a0 = 403 then (some ((⟨#[70, 111, 114, 98, 105, 100, 100, 101, 110]⟩ : ByteArray), 0)) else (if a0 = 404 then (some ((⟨#[78, 111, 116, 32, 70, 111, 117, 110, 100]⟩ : ByteArray), 0)) else (if a0 = 409 then (some ((⟨#[67, 111, 110, 102, 108, 105, 99, 116]⟩ : ByteArray), 0)) else (if a0 = 413 then (some ((⟨#[67, 111, 110, 116, 101, 110, 116, 32, 84, 111, 111, 32, 76, 97, 114, 103, 101]⟩ : ByteArray), 0)) else (if a0 = 431 then (some ((⟨#[82, 101, 113, 117, 101, 115, 116, 32, 72, 101, 97, 100, 101, 114, 32, 70, 105, 101, 108, 100, 115, 32, 84, 111, 111, 32, 76, 97, 114, 103, 101]⟩ : ByteArray), 0)) else (if a0 = 500 then (some ((⟨#[73, 110, 116, 101, 114, 110, 97, 108, 32, 83, 101, 114, 118, 101, 114, 32, 69, 114, 114, 111, 114]⟩ : ByteArray), 0)) else (if a0 = 503 then (some ((⟨#[83, 101, 114, 118, 105, 99, 101, 32, 85, 110, 97, 118, 97, 105, 108, 97, 98, 108, 101]⟩ : ByteArray), 0)) else (if a0 = 505 then (some ((⟨#[72, 84, 84, 80, 32, 86, 101, 114, 115, 105, 111, 110, 32, 78, 111, 116, 32, 83, 117, 112, 112, 111, 114, 116, 101, 100]⟩ : ByteArray), 0)) else (some ((⟨#[]⟩ : ByteArray), 3))))))))))))))
set_option maxHeartbeats 8000000 in
set_option maxRecDepth 100000 in
theorem cloisterref09_Reason.calls (a0 : Int) (r1 : ByteArray) (r2 : Int) (w : World) (h : cloisterref09_Reason.f a0 = some (r1, r2)) :
  Calls Tryd.prog 85 #[.int .i64 a0] w fun e w' => e = .returned (.tuple #[.string r1, .int .i64 r2]) ∧ Drawn0 w w' := by
 have H : (if a0 = 200 then (some ((⟨#[79, 75]⟩ : ByteArray), 0)) else (if a0 = 201 then (some ((⟨#[67, 114, 101, 97, 116, 101, 100]⟩ : ByteArray), 0)) else (if a0 = 204 then (some ((⟨#[78, 111, 32, 67, 111, 110, 116, 101, 110, 116]⟩ : ByteArray), 0)) else (if a0 = 400 then (some ((⟨#[66, 97, 100, 32, 82, 101, 113, 117, 101, 115, 116]⟩ : ByteArray), 0)) else (if a0 = 401 then (some ((⟨#[85, 110, 97, 117, 116, 104, 111, 114, 105, 122, 101, 100]⟩ : ByteArray), 0)) else (if a0 = 403 then (some ((⟨#[70, 111, 114, 98, 105, 100, 100, 101, 110]⟩ : ByteArray), 0)) else (if a0 = 404 then (some ((⟨#[78, 111, 116, 32, 70, 111, 117, 110, 100]⟩ : ByteArray), 0)) else (if a0 = 409 then (some ((⟨#[67, 111, 110, 102, 108, 105, 99, 116]⟩ : ByteArray), 0)) else (if a0 = 413 then (some ((⟨#[67, 111, 110, 116, 101, 110, 116, 32, 84, 111, 111, 32, 76, 97, 114, 103, 101]⟩ : ByteArray), 0)) else (if a0 = 431 then (some ((⟨#[82, 101, 113, 117, 101, 115, 116, 32, 72, 101, 97, 100, 101, 114, 32, 70, 105, 101, 108, 100, 115, 32, 84, 111, 111, 32, 76, 97, 114, 103, 101]⟩ : ByteArray), 0)) else (if a0 = 500 then (some ((⟨#[73, 110, 116, 101, 114, 110, 97, 108, 32, 83, 101, 114, 118, 101, 114, 32, 69, 114, 114, 111, 114]⟩ : ByteArray), 0)) else (if a0 = 503 then (some ((⟨#[83, 101, 114, 118, 105, 99, 101, 32, 85, 110, 97, 118, 97, 105, 108, 97, 98, 108, 101]⟩ : ByteArray), 0)) else (if a0 = 505 then (some ((⟨#[72, 84, 84, 80, 32, 86, 101, 114, 115, 105, 111, 110, 32, 78, 111, 116, 32, 83, 117, 112, 112, 111, 114, 116, 101, 100]⟩ : ByteArray), 0)) else (some ((⟨#[]⟩ : ByteArray), 3))))))))))))))) = some (r1, r2) := h
 clear h
 by_cases c2 : a0 = 200
 ·rw [if_pos c2] at H
  have c2b0 : (a0 == 200) = true := beq_iff_eq.mpr c2
  have c2b1 : (a0 != 200) = false := bne_eq_false_iff_eq.mpr c2
  clear c2
  simp only [Option.some.injEq, Prod.mk.injEq] at H
  obtain ⟨rfl, rfl⟩ := H
  go_enter Tryd.func85, Tryd.ntmps85
  go_wp2
  go_ret2
  exact ⟨by first | rfl | (simp; done) | (simp [*]; done), by repeat (first | exact Drawn0.refl _ | apply Drawn0.step)⟩
 ·rw [if_neg c2] at H
  have c2b0 : (a0 == 200) = false := beq_eq_false_iff_ne.mpr c2
  have c2b1 : (a0 != 200) = true := bne_iff_ne.mpr c2
  by_cases c3 : a0 = 201
  ·rw [if_pos c3] at H
   have c3b0 : (a0 == 201) = true := beq_iff_eq.mpr c3
   have c3b1 : (a0 != 201) = false := bne_eq_false_iff_eq.mpr c3
   clear c3
   simp only [Option.some.injEq, Prod.mk.injEq] at H
   obtain ⟨rfl, rfl⟩ := H
   go_enter Tryd.func85, Tryd.ntmps85
   go_wp2
   go_ret2
   exact ⟨by first | rfl | (simp; done) | (simp [*]; done), by repeat (first | exact Drawn0.refl _ | apply Drawn0.step)⟩
  ·rw [if_neg c3] at H
   have c3b0 : (a0 == 201) = false := beq_eq_false_iff_ne.mpr c3
   have c3b1 : (a0 != 201) = true := bne_iff_ne.mpr c3
   by_cases c4 : a0 = 204
   ·rw [if_pos c4] at H
    have c4b0 : (a0 == 204) = true := beq_iff_eq.mpr c4
    have c4b1 : (a0 != 204) = false := bne_eq_false_iff_eq.mpr c4
    clear c4
    simp only [Option.some.injEq, Prod.mk.injEq] at H
    obtain ⟨rfl, rfl⟩ := H
    go_enter Tryd.func85, Tryd.ntmps85
    go_wp2
    go_ret2
    exact ⟨by first | rfl | (simp; done) | (simp [*]; done), by repeat (first | exact Drawn0.refl _ | apply Drawn0.step)⟩
   ·rw [if_neg c4] at H
    have c4b0 : (a0 == 204) = false := beq_eq_false_iff_ne.mpr c4
    have c4b1 : (a0 != 204) = true := bne_iff_ne.mpr c4
    by_cases c5 : a0 = 400
    ·rw [if_pos c5] at H
     have c5b0 : (a0 == 400) = true := beq_iff_eq.mpr c5
     have c5b1 : (a0 != 400) = false := bne_eq_false_iff_eq.mpr c5
     clear c5
     simp only [Option.some.injEq, Prod.mk.injEq] at H
     obtain ⟨rfl, rfl⟩ := H
     go_enter Tryd.func85, Tryd.ntmps85
     go_wp2
     go_ret2
     exact ⟨by first | rfl | (simp; done) | (simp [*]; done), by repeat (first | exact Drawn0.refl _ | apply Drawn0.step)⟩
    ·rw [if_neg c5] at H
     have c5b0 : (a0 == 400) = false := beq_eq_false_iff_ne.mpr c5
     have c5b1 : (a0 != 400) = true := bne_iff_ne.mpr c5
     by_cases c6 : a0 = 401
     ·rw [if_pos c6] at H
      have c6b0 : (a0 == 401) = true := beq_iff_eq.mpr c6
      have c6b1 : (a0 != 401) = false := bne_eq_false_iff_eq.mpr c6
      clear c6
      simp only [Option.some.injEq, Prod.mk.injEq] at H
      obtain ⟨rfl, rfl⟩ := H
      go_enter Tryd.func85, Tryd.ntmps85
      go_wp2
      go_ret2
      exact ⟨by first | rfl | (simp; done) | (simp [*]; done), by repeat (first | exact Drawn0.refl _ | apply Drawn0.step)⟩
     ·rw [if_neg c6] at H
      have c6b0 : (a0 == 401) = false := beq_eq_false_iff_ne.mpr c6
      have c6b1 : (a0 != 401) = true := bne_iff_ne.mpr c6
      by_cases c7 : a0 = 403
      ·rw [if_pos c7] at H
       have c7b0 : (a0 == 403) = true := beq_iff_eq.mpr c7
       have c7b1 : (a0 != 403) = false := bne_eq_false_iff_eq.mpr c7
       clear c7
       simp only [Option.some.injEq, Prod.mk.injEq] at H
       obtain ⟨rfl, rfl⟩ := H
       go_enter Tryd.func85, Tryd.ntmps85
       go_wp2
       go_ret2
       exact ⟨by first | rfl | (simp; done) | (simp [*]; done), by repeat (first | exact Drawn0.refl _ | apply Drawn0.step)⟩
      ·rw [if_neg c7] at H
       have c7b0 : (a0 == 403) = false := beq_eq_false_iff_ne.mpr c7
       have c7b1 : (a0 != 403) = true := bne_iff_ne.mpr c7
       by_cases c8 : a0 = 404
       ·rw [if_pos c8] at H
        have c8b0 : (a0 == 404) = true := beq_iff_eq.mpr c8
        have c8b1 : (a0 != 404) = false := bne_eq_false_iff_eq.mpr c8
        clear c8
        simp only [Option.some.injEq, Prod.mk.injEq] at H
        obtain ⟨rfl, rfl⟩ := H
        go_enter Tryd.func85, Tryd.ntmps85
        go_wp2
        go_ret2
        exact ⟨by first | rfl | (simp; done) | (simp [*]; done), by repeat (first | exact Drawn0.refl _ | apply Drawn0.step)⟩
       ·rw [if_neg c8] at H
        have c8b0 : (a0 == 404) = false := beq_eq_false_iff_ne.mpr c8
        have c8b1 : (a0 != 404) = true := bne_iff_ne.mpr c8
        by_cases c9 : a0 = 409
        ·rw [if_pos c9] at H
         have c9b0 : (a0 == 409) = true := beq_iff_eq.mpr c9
         have c9b1 : (a0 != 409) = false := bne_eq_false_iff_eq.mpr c9
         clear c9
         simp only [Option.some.injEq, Prod.mk.injEq] at H
         obtain ⟨rfl, rfl⟩ := H
         go_enter Tryd.func85, Tryd.ntmps85
         go_wp2
         go_ret2
         exact ⟨by first | rfl | (simp; done) | (simp [*]; done), by repeat (first | exact Drawn0.refl _ | apply Drawn0.step)⟩
        ·rw [if_neg c9] at H
         have c9b0 : (a0 == 409) = false := beq_eq_false_iff_ne.mpr c9
         have c9b1 : (a0 != 409) = true := bne_iff_ne.mpr c9
         by_cases c10 : a0 = 413
         ·rw [if_pos c10] at H
          have c10b0 : (a0 == 413) = true := beq_iff_eq.mpr c10
          have c10b1 : (a0 != 413) = false := bne_eq_false_iff_eq.mpr c10
          clear c10
          simp only [Option.some.injEq, Prod.mk.injEq] at H
          obtain ⟨rfl, rfl⟩ := H
          go_enter Tryd.func85, Tryd.ntmps85
          go_wp2
          go_ret2
          exact ⟨by first | rfl | (simp; done) | (simp [*]; done), by repeat (first | exact Drawn0.refl _ | apply Drawn0.step)⟩
         ·rw [if_neg c10] at H
          have c10b0 : (a0 == 413) = false := beq_eq_false_iff_ne.mpr c10
          have c10b1 : (a0 != 413) = true := bne_iff_ne.mpr c10
          by_cases c11 : a0 = 431
          ·rw [if_pos c11] at H
           have c11b0 : (a0 == 431) = true := beq_iff_eq.mpr c11
           have c11b1 : (a0 != 431) = false := bne_eq_false_iff_eq.mpr c11
           clear c11
           simp only [Option.some.injEq, Prod.mk.injEq] at H
           obtain ⟨rfl, rfl⟩ := H
           go_enter Tryd.func85, Tryd.ntmps85
           go_wp2
           go_ret2
           exact ⟨by first | rfl | (simp; done) | (simp [*]; done), by repeat (first | exact Drawn0.refl _ | apply Drawn0.step)⟩
          ·rw [if_neg c11] at H
           have c11b0 : (a0 == 431) = false := beq_eq_false_iff_ne.mpr c11
           have c11b1 : (a0 != 431) = true := bne_iff_ne.mpr c11
           by_cases c12 : a0 = 500
           ·rw [if_pos c12] at H
            have c12b0 : (a0 == 500) = true := beq_iff_eq.mpr c12
            have c12b1 : (a0 != 500) = false := bne_eq_false_iff_eq.mpr c12
            clear c12
            simp only [Option.some.injEq, Prod.mk.injEq] at H
            obtain ⟨rfl, rfl⟩ := H
            go_enter Tryd.func85, Tryd.ntmps85
            go_wp2
            go_ret2
            exact ⟨by first | rfl | (simp; done) | (simp [*]; done), by repeat (first | exact Drawn0.refl _ | apply Drawn0.step)⟩
           ·rw [if_neg c12] at H
            have c12b0 : (a0 == 500) = false := beq_eq_false_iff_ne.mpr c12
            have c12b1 : (a0 != 500) = true := bne_iff_ne.mpr c12
            by_cases c13 : a0 = 503
            ·rw [if_pos c13] at H
             have c13b0 : (a0 == 503) = true := beq_iff_eq.mpr c13
             have c13b1 : (a0 != 503) = false := bne_eq_false_iff_eq.mpr c13
             clear c13
             simp only [Option.some.injEq, Prod.mk.injEq] at H
             obtain ⟨rfl, rfl⟩ := H
             go_enter Tryd.func85, Tryd.ntmps85
             go_wp2
             go_ret2
             exact ⟨by first | rfl | (simp; done) | (simp [*]; done), by repeat (first | exact Drawn0.refl _ | apply Drawn0.step)⟩
            ·rw [if_neg c13] at H
             have c13b0 : (a0 == 503) = false := beq_eq_false_iff_ne.mpr c13
             have c13b1 : (a0 != 503) = true := bne_iff_ne.mpr c13
             by_cases c14 : a0 = 505
             ·rw [if_pos c14] at H
              have c14b0 : (a0 == 505) = true := beq_iff_eq.mpr c14
              have c14b1 : (a0 != 505) = false := bne_eq_false_iff_eq.mpr c14
              clear c14
              simp only [Option.some.injEq, Prod.mk.injEq] at H
              obtain ⟨rfl, rfl⟩ := H
              go_enter Tryd.func85, Tryd.ntmps85
              go_wp2
              go_ret2
              exact ⟨by first | rfl | (simp; done) | (simp [*]; done), by repeat (first | exact Drawn0.refl _ | apply Drawn0.step)⟩
             ·rw [if_neg c14] at H
              have c14b0 : (a0 == 505) = false := beq_eq_false_iff_ne.mpr c14
              have c14b1 : (a0 != 505) = true := bne_iff_ne.mpr c14
              simp only [Option.some.injEq, Prod.mk.injEq] at H
              obtain ⟨rfl, rfl⟩ := H
              go_enter Tryd.func85, Tryd.ntmps85
              go_wp2
              go_ret2
              exact ⟨by first | rfl | (simp; done) | (simp [*]; done), by repeat (first | exact Drawn0.refl _ | apply Drawn0.step)⟩

/-! ### cloisterref09_Print: function 64 -/
mutual
def cloisterref09_Print.j0 : Nat → ByteArray → Int → List (S61) → ByteArray → Bool → Option (ByteArray × Int)
 | 0, _, _, _, _, _ => none
 | k + 1, x4, x221000, x221001, x221002, x221003 => (strconv_Itoa.f x221000).bind fun t224 => (if 9 + t224.size ≤ 9223372036854775807 then (if ((⟨#[72, 84, 84, 80, 47, 49, 46, 49, 32]⟩ : ByteArray) ++ t224).size + 1 ≤ 9223372036854775807 then (if (((⟨#[72, 84, 84, 80, 47, 49, 46, 49, 32]⟩ : ByteArray) ++ t224) ++ (⟨#[32]⟩ : ByteArray)).size + x4.size ≤ 9223372036854775807 then (if ((((⟨#[72, 84, 84, 80, 47, 49, 46, 49, 32]⟩ : ByteArray) ++ t224) ++ (⟨#[32]⟩ : ByteArray)) ++ x4).size + 2 ≤ 9223372036854775807 then (cloisterref09_Print.l0 k (((((⟨#[72, 84, 84, 80, 47, 49, 46, 49, 32]⟩ : ByteArray) ++ t224) ++ (⟨#[32]⟩ : ByteArray)) ++ x4) ++ (⟨#[13, 10]⟩ : ByteArray)) 0 x221000 x221001 x221002 x221003) else (none)) else (none)) else (none)) else (none))
def cloisterref09_Print.l0 : Nat → ByteArray → Int → Int → List (S61) → ByteArray → Bool → Option (ByteArray × Int)
 | 0, _, _, _, _, _, _ => none
 | k + 1, x6, x7, x221000, x221001, x221002, x221003 => if x7 < (x221001.length : Int) then (if 0 ≤ x7 then (if x6.size + ((rd_T61 x221001 x7).f0).size ≤ 9223372036854775807 then (if (x6 ++ ((rd_T61 x221001 x7).f0)).size + 2 ≤ 9223372036854775807 then (if ((x6 ++ ((rd_T61 x221001 x7).f0)) ++ (⟨#[58, 32]⟩ : ByteArray)).size + ((rd_T61 x221001 x7).f1).size ≤ 9223372036854775807 then (if (((x6 ++ ((rd_T61 x221001 x7).f0)) ++ (⟨#[58, 32]⟩ : ByteArray)) ++ ((rd_T61 x221001 x7).f1)).size + 2 ≤ 9223372036854775807 then (cloisterref09_Print.l0 k ((((x6 ++ ((rd_T61 x221001 x7).f0)) ++ (⟨#[58, 32]⟩ : ByteArray)) ++ ((rd_T61 x221001 x7).f1)) ++ (⟨#[13, 10]⟩ : ByteArray)) (wrap64 (x7 + 1)) x221000 x221001 x221002 x221003) else (none)) else (none)) else (none)) else (none)) else (none)) else (if x6.size + 16 ≤ 9223372036854775807 then ((strconv_Itoa.f (x221002.size : Int)).bind fun t227 => (if (x6 ++ (⟨#[99, 111, 110, 116, 101, 110, 116, 45, 108, 101, 110, 103, 116, 104, 58, 32]⟩ : ByteArray)).size + t227.size ≤ 9223372036854775807 then (if ((x6 ++ (⟨#[99, 111, 110, 116, 101, 110, 116, 45, 108, 101, 110, 103, 116, 104, 58, 32]⟩ : ByteArray)) ++ t227).size + 14 ≤ 9223372036854775807 then (if x221003 = true then (if (((x6 ++ (⟨#[99, 111, 110, 116, 101, 110, 116, 45, 108, 101, 110, 103, 116, 104, 58, 32]⟩ : ByteArray)) ++ t227) ++ (⟨#[13, 10, 99, 111, 110, 110, 101, 99, 116, 105, 111, 110, 58, 32]⟩ : ByteArray)).size + 5 ≤ 9223372036854775807 then (if ((((x6 ++ (⟨#[99, 111, 110, 116, 101, 110, 116, 45, 108, 101, 110, 103, 116, 104, 58, 32]⟩ : ByteArray)) ++ t227) ++ (⟨#[13, 10, 99, 111, 110, 110, 101, 99, 116, 105, 111, 110, 58, 32]⟩ : ByteArray)) ++ (⟨#[99, 108, 111, 115, 101]⟩ : ByteArray)).size + 4 ≤ 9223372036854775807 then (if (((((x6 ++ (⟨#[99, 111, 110, 116, 101, 110, 116, 45, 108, 101, 110, 103, 116, 104, 58, 32]⟩ : ByteArray)) ++ t227) ++ (⟨#[13, 10, 99, 111, 110, 110, 101, 99, 116, 105, 111, 110, 58, 32]⟩ : ByteArray)) ++ (⟨#[99, 108, 111, 115, 101]⟩ : ByteArray)) ++ (⟨#[13, 10, 13, 10]⟩ : ByteArray)).size + x221002.size ≤ 9223372036854775807 then (some ((((((x6 ++ (⟨#[99, 111, 110, 116, 101, 110, 116, 45, 108, 101, 110, 103, 116, 104, 58, 32]⟩ : ByteArray)) ++ t227) ++ (⟨#[13, 10, 99, 111, 110, 110, 101, 99, 116, 105, 111, 110, 58, 32]⟩ : ByteArray)) ++ (⟨#[99, 108, 111, 115, 101]⟩ : ByteArray)) ++ (⟨#[13, 10, 13, 10]⟩ : ByteArray)) ++ x221002, 0)) else (none)) else (none)) else (none)) else (if (((x6 ++ (⟨#[99, 111, 110, 116, 101, 110, 116, 45, 108, 101, 110, 103, 116, 104, 58, 32]⟩ : ByteArray)) ++ t227) ++ (⟨#[13, 10, 99, 111, 110, 110, 101, 99, 116, 105, 111, 110, 58, 32]⟩ : ByteArray)).size + 10 ≤ 9223372036854775807 then (if ((((x6 ++ (⟨#[99, 111, 110, 116, 101, 110, 116, 45, 108, 101, 110, 103, 116, 104, 58, 32]⟩ : ByteArray)) ++ t227) ++ (⟨#[13, 10, 99, 111, 110, 110, 101, 99, 116, 105, 111, 110, 58, 32]⟩ : ByteArray)) ++ (⟨#[107, 101, 101, 112, 45, 97, 108, 105, 118, 101]⟩ : ByteArray)).size + 4 ≤ 9223372036854775807 then (if (((((x6 ++ (⟨#[99, 111, 110, 116, 101, 110, 116, 45, 108, 101, 110, 103, 116, 104, 58, 32]⟩ : ByteArray)) ++ t227) ++ (⟨#[13, 10, 99, 111, 110, 110, 101, 99, 116, 105, 111, 110, 58, 32]⟩ : ByteArray)) ++ (⟨#[107, 101, 101, 112, 45, 97, 108, 105, 118, 101]⟩ : ByteArray)) ++ (⟨#[13, 10, 13, 10]⟩ : ByteArray)).size + x221002.size ≤ 9223372036854775807 then (some ((((((x6 ++ (⟨#[99, 111, 110, 116, 101, 110, 116, 45, 108, 101, 110, 103, 116, 104, 58, 32]⟩ : ByteArray)) ++ t227) ++ (⟨#[13, 10, 99, 111, 110, 110, 101, 99, 116, 105, 111, 110, 58, 32]⟩ : ByteArray)) ++ (⟨#[107, 101, 101, 112, 45, 97, 108, 105, 118, 101]⟩ : ByteArray)) ++ (⟨#[13, 10, 13, 10]⟩ : ByteArray)) ++ x221002, 0)) else (none)) else (none)) else (none))) else (none)) else (none))) else (none))
end
def cloisterref09_Print.f (k : Nat) (a0_0 : Int) (l0_1 : List (S61)) (a0_2 : ByteArray) (a0_3 : Bool) : Option (ByteArray × Int) := (cloisterref09_May.f k a0_0 l0_1 a0_2 a0_3).bind fun t221 => (if t221 = true then ((cloisterref09_Reason.f a0_0).bind fun bt222 => (if bt222.2 = 0 then (cloisterref09_Print.j0 k bt222.1 a0_0 l0_1 a0_2 a0_3) else (cloisterref09_Print.j0 k (⟨#[83, 116, 97, 116, 117, 115]⟩ : ByteArray) a0_0 l0_1 a0_2 a0_3))) else (some ((⟨#[]⟩ : ByteArray), 90)))
theorem cloisterref09_Print.mono_l : ∀ k, (∀ y0 y1 y2 y3 y4, LeO (cloisterref09_Print.j0 k y0 y1 y2 y3 y4) (cloisterref09_Print.j0 (k + 1) y0 y1 y2 y3 y4)) ∧ (∀ y0 y1 y2 y3 y4 y5, LeO (cloisterref09_Print.l0 k y0 y1 y2 y3 y4 y5) (cloisterref09_Print.l0 (k + 1) y0 y1 y2 y3 y4 y5))
 | 0 => ⟨fun _ _ _ _ _ r h => by simp [cloisterref09_Print.j0] at h, fun _ _ _ _ _ _ r h => by simp [cloisterref09_Print.l0] at h⟩
 | k + 1 => by
  obtain ⟨ih0, ih1⟩ := cloisterref09_Print.mono_l k
  refine ⟨?_, ?_⟩
  ·intro y0 y1 y2 y3 y4
   unfold cloisterref09_Print.j0
   repeat' first
   | (with_reducible exact ih0 _ _ _ _ _)
   | (with_reducible exact ih1 _ _ _ _ _ _)
   | (with_reducible exact cloisterref09_May.mono _ _ _ _ _)
   | (with_reducible exact LeO.refl _)
   | (with_reducible exact LeO.none _)
   | (with_reducible refine LeO.ite ?_ ?_)
   | (with_reducible refine LeO.bind ?_ (fun _ => ?_))
   | exact ih0 _ _ _ _ _
   | exact ih1 _ _ _ _ _ _
   | exact cloisterref09_May.mono _ _ _ _ _
   | exact LeO.none _
   | refine LeO.ite ?_ ?_
   | refine LeO.bind ?_ (fun _ => ?_)
  ·intro y0 y1 y2 y3 y4 y5
   unfold cloisterref09_Print.l0
   repeat' first
   | (with_reducible exact ih0 _ _ _ _ _)
   | (with_reducible exact ih1 _ _ _ _ _ _)
   | (with_reducible exact cloisterref09_May.mono _ _ _ _ _)
   | (with_reducible exact LeO.refl _)
   | (with_reducible exact LeO.none _)
   | (with_reducible refine LeO.ite ?_ ?_)
   | (with_reducible refine LeO.bind ?_ (fun _ => ?_))
   | exact ih0 _ _ _ _ _
   | exact ih1 _ _ _ _ _ _
   | exact cloisterref09_May.mono _ _ _ _ _
   | exact LeO.none _
   | refine LeO.ite ?_ ?_
   | refine LeO.bind ?_ (fun _ => ?_)
theorem cloisterref09_Print.mono : ∀ a0 a1 a2 a3 k, LeO (cloisterref09_Print.f k a0 a1 a2 a3) (cloisterref09_Print.f (k + 1) a0 a1 a2 a3) := by
 intro a0 a1 a2 a3 k
 obtain ⟨ih0, ih1⟩ := cloisterref09_Print.mono_l k
 unfold cloisterref09_Print.f
 repeat' first
   | (with_reducible exact ih0 _ _ _ _ _)
   | (with_reducible exact ih1 _ _ _ _ _ _)
   | (with_reducible exact cloisterref09_May.mono _ _ _ _ _)
   | (with_reducible exact LeO.refl _)
   | (with_reducible exact LeO.none _)
   | (with_reducible refine LeO.ite ?_ ?_)
   | (with_reducible refine LeO.bind ?_ (fun _ => ?_))
   | exact ih0 _ _ _ _ _
   | exact ih1 _ _ _ _ _ _
   | exact cloisterref09_May.mono _ _ _ _ _
   | exact LeO.none _
   | refine LeO.ite ?_ ?_
   | refine LeO.bind ?_ (fun _ => ?_)
set_option maxHeartbeats 8000000 in
set_option maxRecDepth 100000 in
theorem cloisterref09_Print.calls (k : Nat) (a0_0 : Int) (A0_1 : Option Addr) (c0_1 : Nat) (l0_1 : List (S61)) (a0_2 : ByteArray) (a0_3 : Bool) (r1 : ByteArray) (r2 : Int) (w : World) (hG : TabsOk w) (hr0_1 : Kd.C k61 w A0_1 l0_1.length l0_1) (hc0_1 : l0_1.length ≤ c0_1) (h : cloisterref09_Print.f k a0_0 l0_1 a0_2 a0_3 = some (r1, r2)) :
  Calls Tryd.prog 64 #[.agg #[.int .i64 a0_0, .slice A0_1 l0_1.length c0_1, .string a0_2, .bool a0_3]] w fun e w' => e = .returned (.tuple #[.string r1, .int .i64 r2]) ∧ Below w.heap.size w w' := by
 have hu28 := Tryd.underlying28
 have HR0_1 := Aside0.mk hr0_1
 have HC0_1 := Aside0.mk hc0_1
 clear hr0_1 hc0_1
 have HB := Aside0.mk (Below.refl w.heap.size w)
 have H : ((cloisterref09_May.f k a0_0 l0_1 a0_2 a0_3).bind fun t221 => (if t221 = true then ((cloisterref09_Reason.f a0_0).bind fun bt222 => (if bt222.2 = 0 then (cloisterref09_Print.j0 k bt222.1 a0_0 l0_1 a0_2 a0_3) else (cloisterref09_Print.j0 k (⟨#[83, 116, 97, 116, 117, 115]⟩ : ByteArray) a0_0 l0_1 a0_2 a0_3))) else (some ((⟨#[]⟩ : ByteArray), 90)))) = some (r1, r2) := h
 clear h
 replace H := Option.bind_eq_some_iff.mp H
 obtain ⟨t221, A20, H⟩ := H
 try dsimp only at H
 have A2 := Aside0.mk A20
 clear A20
 by_cases c3 : t221 = true
 ·subst c3
  have H1 : ((cloisterref09_Reason.f a0_0).bind fun bt222 => (if bt222.2 = 0 then (cloisterref09_Print.j0 k bt222.1 a0_0 l0_1 a0_2 a0_3) else (cloisterref09_Print.j0 k (⟨#[83, 116, 97, 116, 117, 115]⟩ : ByteArray) a0_0 l0_1 a0_2 a0_3))) = some (r1, r2) := by rw [if_pos rfl] at H; exact H
  clear H
  have H := H1
  clear H1
  replace H := Option.bind_eq_some_iff.mp H
  obtain ⟨⟨t222, t223⟩, A40, H⟩ := H
  try dsimp only at H
  have A4 := Aside0.mk A40
  clear A40
  have HC5 := Aside0.mk H
  clear H
  go_enter Tryd.func64, Tryd.ntmps64
  go_upto_if 18 with (first | ((with_reducible refine gate_dst (N := 1) rfl ?_); refine box_event ?hg (N := 1) ?hd (cs := #[.int .i64 a0_0, .slice A0_1 l0_1.length c0_1, .string a0_2, .bool a0_3]) (t := 28) ?hr ?_; (case hd => rfl); (case hg => rfl); (case hr => first | (go_simp; done) | (go_simp; rfl)); intro gb220 hg w6 hbox hb; have n0_ := Aside0.mk (below_step bwl hb); have n1_ := Aside0.mk (hbox); have n2_ := Aside0.mk ((by rw [hg]; exact (below_size bwl) : w.heap.size ≤ gb220)); have n3_ := Aside0.mk ((by rw [hg]; exact (below_size bwl) : w.heap.size ≤ gb220)); clear HB; have HB := n0_; have BK220 := n1_; have GW220 := n2_; have GE220 := n3_; clear n0_ n1_ n2_ n3_; clear hb hbox hg; have hcz7_0 : w6.cell? ⟨gb220, 0, none⟩ = some (.int .i64 a0_0) := (blk_cell BK220.out 0).trans rfl; have hcz7_1 : w6.cell? ⟨gb220, 1, none⟩ = some (.slice A0_1 l0_1.length c0_1) := (blk_cell BK220.out 1).trans rfl; have hcz7_2 : w6.cell? ⟨gb220, 2, none⟩ = some (.string a0_2) := (blk_cell BK220.out 2).trans rfl; have hcz7_3 : w6.cell? ⟨gb220, 3, none⟩ = some (.bool a0_3) := (blk_cell BK220.out 3).trans rfl; have hfz7_0 := blk_frozen BK220.out 0; have hfz7_1 := blk_frozen BK220.out 1; have hfz7_2 := blk_frozen BK220.out 2; have hfz7_3 := blk_frozen BK220.out 3) | (go_at_call 84; (with_reducible refine (cloisterref09_May.calls k a0_0 _ _ l0_1 a0_2 a0_3 true _ ?side1 ?side2 A2.out).mono ?_); (case side1 => repeat (first | exact (Kd.C_below HR0_1.out HB.out) | (with_reducible refine Kd.C_alloc ?_ _) | (with_reducible refine Kd.C_drewN ?_ _) | (with_reducible refine Kd.C_drew ?_))); (case side2 => exact HC0_1.out); rintro e w8 ⟨rfl, hb⟩; have n0_ := Aside0.mk (blk_below (g := gb220) (o := .cells #[.int .i64 a0_0, .slice A0_1 l0_1.length c0_1, .string a0_2, .bool a0_3] 28 (0, 0)) (bks) hb); have n1_ := Aside0.mk (below_step bwl hb); clear BK220; clear HB; have BK220 := n0_; have HB := n1_; clear n0_ n1_; (try clear hb); (try clear hb2); (try clear hk); (try clear hi); have hcz9_0 : w8.cell? ⟨gb220, 0, none⟩ = some (.int .i64 a0_0) := (blk_cell BK220.out 0).trans rfl; have hcz9_1 : w8.cell? ⟨gb220, 1, none⟩ = some (.slice A0_1 l0_1.length c0_1) := (blk_cell BK220.out 1).trans rfl; have hcz9_2 : w8.cell? ⟨gb220, 2, none⟩ = some (.string a0_2) := (blk_cell BK220.out 2).trans rfl; have hcz9_3 : w8.cell? ⟨gb220, 3, none⟩ = some (.bool a0_3) := (blk_cell BK220.out 3).trans rfl; have hfz9_0 := blk_frozen BK220.out 0; have hfz9_1 := blk_frozen BK220.out 1; have hfz9_2 := blk_frozen BK220.out 2; have hfz9_3 := blk_frozen BK220.out 3) | (go_at_call 85; (with_reducible refine (cloisterref09_Reason.calls a0_0 t222 t223 _ A4.out).mono ?_); rintro e w' ⟨rfl, ⟨nd, rfl⟩⟩; (try first | exact ⟨rfl, _, World.drewN_drewN _ _ _⟩ | exact ⟨rfl, _, Eq.trans (World.drewN_drewN _ _ _) (congrArg (World.drewN _) (Nat.add_assoc _ _ _))⟩)))
  repeat (go_quiet (first | ((with_reducible refine gate_dst (N := 1) rfl ?_); refine box_event ?hg (N := 1) ?hd (cs := #[.int .i64 a0_0, .slice A0_1 l0_1.length c0_1, .string a0_2, .bool a0_3]) (t := 28) ?hr ?_; (case hd => rfl); (case hg => rfl); (case hr => first | (go_simp; done) | (go_simp; rfl)); intro gb220 hg w6 hbox hb; have n0_ := Aside0.mk (below_step bwl hb); have n1_ := Aside0.mk (hbox); have n2_ := Aside0.mk ((by rw [hg]; exact (below_size bwl) : w.heap.size ≤ gb220)); have n3_ := Aside0.mk ((by rw [hg]; exact (below_size bwl) : w.heap.size ≤ gb220)); clear HB; have HB := n0_; have BK220 := n1_; have GW220 := n2_; have GE220 := n3_; clear n0_ n1_ n2_ n3_; clear hb hbox hg; have hcz7_0 : w6.cell? ⟨gb220, 0, none⟩ = some (.int .i64 a0_0) := (blk_cell BK220.out 0).trans rfl; have hcz7_1 : w6.cell? ⟨gb220, 1, none⟩ = some (.slice A0_1 l0_1.length c0_1) := (blk_cell BK220.out 1).trans rfl; have hcz7_2 : w6.cell? ⟨gb220, 2, none⟩ = some (.string a0_2) := (blk_cell BK220.out 2).trans rfl; have hcz7_3 : w6.cell? ⟨gb220, 3, none⟩ = some (.bool a0_3) := (blk_cell BK220.out 3).trans rfl; have hfz7_0 := blk_frozen BK220.out 0; have hfz7_1 := blk_frozen BK220.out 1; have hfz7_2 := blk_frozen BK220.out 2; have hfz7_3 := blk_frozen BK220.out 3) | (go_at_call 84; (with_reducible refine (cloisterref09_May.calls k a0_0 _ _ l0_1 a0_2 a0_3 true _ ?side1 ?side2 A2.out).mono ?_); (case side1 => repeat (first | exact (Kd.C_below HR0_1.out HB.out) | (with_reducible refine Kd.C_alloc ?_ _) | (with_reducible refine Kd.C_drewN ?_ _) | (with_reducible refine Kd.C_drew ?_))); (case side2 => exact HC0_1.out); rintro e w8 ⟨rfl, hb⟩; have n0_ := Aside0.mk (blk_below (g := gb220) (o := .cells #[.int .i64 a0_0, .slice A0_1 l0_1.length c0_1, .string a0_2, .bool a0_3] 28 (0, 0)) (bks) hb); have n1_ := Aside0.mk (below_step bwl hb); clear BK220; clear HB; have BK220 := n0_; have HB := n1_; clear n0_ n1_; (try clear hb); (try clear hb2); (try clear hk); (try clear hi); have hcz9_0 : w8.cell? ⟨gb220, 0, none⟩ = some (.int .i64 a0_0) := (blk_cell BK220.out 0).trans rfl; have hcz9_1 : w8.cell? ⟨gb220, 1, none⟩ = some (.slice A0_1 l0_1.length c0_1) := (blk_cell BK220.out 1).trans rfl; have hcz9_2 : w8.cell? ⟨gb220, 2, none⟩ = some (.string a0_2) := (blk_cell BK220.out 2).trans rfl; have hcz9_3 : w8.cell? ⟨gb220, 3, none⟩ = some (.bool a0_3) := (blk_cell BK220.out 3).trans rfl; have hfz9_0 := blk_frozen BK220.out 0; have hfz9_1 := blk_frozen BK220.out 1; have hfz9_2 := blk_frozen BK220.out 2; have hfz9_3 := blk_frozen BK220.out 3) | (go_at_call 85; (with_reducible refine (cloisterref09_Reason.calls a0_0 t222 t223 _ A4.out).mono ?_); rintro e w' ⟨rfl, ⟨nd, rfl⟩⟩; (try first | exact ⟨rfl, _, World.drewN_drewN _ _ _⟩ | exact ⟨rfl, _, Eq.trans (World.drewN_drewN _ _ _) (congrArg (World.drewN _) (Nat.add_assoc _ _ _))⟩))); go_upto_if 18 with (first | ((with_reducible refine gate_dst (N := 1) rfl ?_); refine box_event ?hg (N := 1) ?hd (cs := #[.int .i64 a0_0, .slice A0_1 l0_1.length c0_1, .string a0_2, .bool a0_3]) (t := 28) ?hr ?_; (case hd => rfl); (case hg => rfl); (case hr => first | (go_simp; done) | (go_simp; rfl)); intro gb220 hg w6 hbox hb; have n0_ := Aside0.mk (below_step bwl hb); have n1_ := Aside0.mk (hbox); have n2_ := Aside0.mk ((by rw [hg]; exact (below_size bwl) : w.heap.size ≤ gb220)); have n3_ := Aside0.mk ((by rw [hg]; exact (below_size bwl) : w.heap.size ≤ gb220)); clear HB; have HB := n0_; have BK220 := n1_; have GW220 := n2_; have GE220 := n3_; clear n0_ n1_ n2_ n3_; clear hb hbox hg; have hcz7_0 : w6.cell? ⟨gb220, 0, none⟩ = some (.int .i64 a0_0) := (blk_cell BK220.out 0).trans rfl; have hcz7_1 : w6.cell? ⟨gb220, 1, none⟩ = some (.slice A0_1 l0_1.length c0_1) := (blk_cell BK220.out 1).trans rfl; have hcz7_2 : w6.cell? ⟨gb220, 2, none⟩ = some (.string a0_2) := (blk_cell BK220.out 2).trans rfl; have hcz7_3 : w6.cell? ⟨gb220, 3, none⟩ = some (.bool a0_3) := (blk_cell BK220.out 3).trans rfl; have hfz7_0 := blk_frozen BK220.out 0; have hfz7_1 := blk_frozen BK220.out 1; have hfz7_2 := blk_frozen BK220.out 2; have hfz7_3 := blk_frozen BK220.out 3) | (go_at_call 84; (with_reducible refine (cloisterref09_May.calls k a0_0 _ _ l0_1 a0_2 a0_3 true _ ?side1 ?side2 A2.out).mono ?_); (case side1 => repeat (first | exact (Kd.C_below HR0_1.out HB.out) | (with_reducible refine Kd.C_alloc ?_ _) | (with_reducible refine Kd.C_drewN ?_ _) | (with_reducible refine Kd.C_drew ?_))); (case side2 => exact HC0_1.out); rintro e w8 ⟨rfl, hb⟩; have n0_ := Aside0.mk (blk_below (g := gb220) (o := .cells #[.int .i64 a0_0, .slice A0_1 l0_1.length c0_1, .string a0_2, .bool a0_3] 28 (0, 0)) (bks) hb); have n1_ := Aside0.mk (below_step bwl hb); clear BK220; clear HB; have BK220 := n0_; have HB := n1_; clear n0_ n1_; (try clear hb); (try clear hb2); (try clear hk); (try clear hi); have hcz9_0 : w8.cell? ⟨gb220, 0, none⟩ = some (.int .i64 a0_0) := (blk_cell BK220.out 0).trans rfl; have hcz9_1 : w8.cell? ⟨gb220, 1, none⟩ = some (.slice A0_1 l0_1.length c0_1) := (blk_cell BK220.out 1).trans rfl; have hcz9_2 : w8.cell? ⟨gb220, 2, none⟩ = some (.string a0_2) := (blk_cell BK220.out 2).trans rfl; have hcz9_3 : w8.cell? ⟨gb220, 3, none⟩ = some (.bool a0_3) := (blk_cell BK220.out 3).trans rfl; have hfz9_0 := blk_frozen BK220.out 0; have hfz9_1 := blk_frozen BK220.out 1; have hfz9_2 := blk_frozen BK220.out 2; have hfz9_3 := blk_frozen BK220.out 3) | (go_at_call 85; (with_reducible refine (cloisterref09_Reason.calls a0_0 t222 t223 _ A4.out).mono ?_); rintro e w' ⟨rfl, ⟨nd, rfl⟩⟩; (try first | exact ⟨rfl, _, World.drewN_drewN _ _ _⟩ | exact ⟨rfl, _, Eq.trans (World.drewN_drewN _ _ _) (congrArg (World.drewN _) (Nat.add_assoc _ _ _))⟩))))
  (try simp only [Act.put, List.setIfInBounds_toArray, List.set_cons_zero, List.set_cons_succ])
  go_cut [4] (fun v4 wc => ∃ (kq : Nat) (x4_4 : ByteArray), v4 = .string x4_4 ∧ Aside0 (cloisterref09_Print.j0 kq x4_4 a0_0 l0_1 a0_2 a0_3 = some (r1, r2)) ∧ Aside0 (kq ≤ k) ∧ Aside0 (wc.heap[gb220]? = some (.cells #[.int .i64 a0_0, (.slice A0_1 l0_1.length c0_1), .string a0_2, .bool a0_3] 28 (0, 0))) ∧ Aside0 (Below w.heap.size w wc))
  case first =>
   have H := HC5.out
   clear HC5
   by_cases c10 : t223 = 0
   ·rw [if_pos c10] at H
    have c10b0 : (t223 == 0) = true := beq_iff_eq.mpr c10
    have c10b1 : (t223 != 0) = false := bne_eq_false_iff_eq.mpr c10
    clear c10
    (first | rw [c10b0] | (simp only [i64_w, i32_w]; rw [c10b0]) | skip)
    have H' := Aside0.mk H
    clear H
    go_wp2
    repeat (go_quiet (fail); try go_wp2)
    go_meet
    case rel => exact ⟨_, (t222), meq, H', ⟨by first | omega | exact Nat.le_refl _⟩, ⟨bks⟩, ⟨bwl⟩⟩
   ·rw [if_neg c10] at H
    have c10b0 : (t223 == 0) = false := beq_eq_false_iff_ne.mpr c10
    have c10b1 : (t223 != 0) = true := bne_iff_ne.mpr c10
    (first | rw [c10b0] | (simp only [i64_w, i32_w]; rw [c10b0]) | skip)
    have H' := Aside0.mk H
    clear H
    go_wp2
    repeat (go_quiet (fail); try go_wp2)
    go_meet
    case rel => exact ⟨_, ((⟨#[83, 116, 97, 116, 117, 115]⟩ : ByteArray)), meq, H', ⟨by first | omega | exact Nat.le_refl _⟩, ⟨bks⟩, ⟨bwl⟩⟩
  case rest =>
   clear HC5
   try clear hcz7_0
   try clear hcz7_1
   try clear hcz7_2
   try clear hcz7_3
   try clear hcz9_0
   try clear hcz9_1
   try clear hcz9_2
   try clear hcz9_3
   try clear hfz7_0
   try clear hfz7_1
   try clear hfz7_2
   try clear hfz7_3
   try clear hfz9_0
   try clear hfz9_1
   try clear hfz9_2
   try clear hfz9_3
   obtain ⟨kq, x4_4, rfl, HA, HJ4, BK220, HB⟩ := hcut
   cases kq with
   | zero => exact absurd HA.out (by simp [cloisterref09_Print.j0])
   | succ kj4 =>
    have H := HA.out
    clear HA
    simp only [cloisterref09_Print.j0] at H
    replace H := Option.bind_eq_some_iff.mp H
    obtain ⟨t224, A110, H⟩ := H
    try dsimp only at H
    have A11 := Aside0.mk A110
    clear A110
    obtain ⟨c12, H⟩ := ifn H
    have c12b0 := eq_true c12
    have c12b1 : decide (9 + t224.size ≤ 9223372036854775807) = true := decide_eq_true c12
    try have c12b2 : (9223372036854775807 < 9 + t224.size) = False := eq_false (Nat.not_lt.2 c12)
    obtain ⟨c13, H⟩ := ifn H
    have c13b0 := eq_true c13
    have c13b1 : decide (((⟨#[72, 84, 84, 80, 47, 49, 46, 49, 32]⟩ : ByteArray) ++ t224).size + 1 ≤ 9223372036854775807) = true := decide_eq_true c13
    try have c13b2 : (9223372036854775807 < ((⟨#[72, 84, 84, 80, 47, 49, 46, 49, 32]⟩ : ByteArray) ++ t224).size + 1) = False := eq_false (Nat.not_lt.2 c13)
    try have c13b3 : (9223372036854775807 < 9 + t224.size + 1) = False := eq_false (Nat.not_lt.2 (by have h_ := c13; simp only [ByteArray.size_append] at h_; exact h_))
    obtain ⟨c14, H⟩ := ifn H
    have c14b0 := eq_true c14
    have c14b1 : decide ((((⟨#[72, 84, 84, 80, 47, 49, 46, 49, 32]⟩ : ByteArray) ++ t224) ++ (⟨#[32]⟩ : ByteArray)).size + x4_4.size ≤ 9223372036854775807) = true := decide_eq_true c14
    try have c14b2 : (9223372036854775807 < (((⟨#[72, 84, 84, 80, 47, 49, 46, 49, 32]⟩ : ByteArray) ++ t224) ++ (⟨#[32]⟩ : ByteArray)).size + x4_4.size) = False := eq_false (Nat.not_lt.2 c14)
    try have c14b3 : (9223372036854775807 < 9 + t224.size + 1 + x4_4.size) = False := eq_false (Nat.not_lt.2 (by have h_ := c14; simp only [ByteArray.size_append] at h_; exact h_))
    obtain ⟨c15, H⟩ := ifn H
    have c15b0 := eq_true c15
    have c15b1 : decide (((((⟨#[72, 84, 84, 80, 47, 49, 46, 49, 32]⟩ : ByteArray) ++ t224) ++ (⟨#[32]⟩ : ByteArray)) ++ x4_4).size + 2 ≤ 9223372036854775807) = true := decide_eq_true c15
    try have c15b2 : (9223372036854775807 < ((((⟨#[72, 84, 84, 80, 47, 49, 46, 49, 32]⟩ : ByteArray) ++ t224) ++ (⟨#[32]⟩ : ByteArray)) ++ x4_4).size + 2) = False := eq_false (Nat.not_lt.2 c15)
    try have c15b3 : (9223372036854775807 < 9 + t224.size + 1 + x4_4.size + 2) = False := eq_false (Nat.not_lt.2 (by have h_ := c15; simp only [ByteArray.size_append] at h_; exact h_))
    have H' := Aside0.mk H
    clear H
    have hcz16_0 : wc.cell? ⟨gb220, 0, none⟩ = some (.int .i64 a0_0) := (blk_cell BK220.out 0).trans rfl
    have hcz16_1 : wc.cell? ⟨gb220, 1, none⟩ = some (.slice A0_1 l0_1.length c0_1) := (blk_cell BK220.out 1).trans rfl
    have hcz16_2 : wc.cell? ⟨gb220, 2, none⟩ = some (.string a0_2) := (blk_cell BK220.out 2).trans rfl
    have hcz16_3 : wc.cell? ⟨gb220, 3, none⟩ = some (.bool a0_3) := (blk_cell BK220.out 3).trans rfl
    have hfz16_0 := blk_frozen BK220.out 0
    have hfz16_1 := blk_frozen BK220.out 1
    have hfz16_2 := blk_frozen BK220.out 2
    have hfz16_3 := blk_frozen BK220.out 3
    go_wp2_with (first | (go_at_call 30; (with_reducible refine (strconv_Itoa.calls a0_0 t224 _ ?side1 A11.out).mono ?_); (case side1 => first | exact hG | (refine TabsOk.below hG ?_; repeat (first | (with_reducible first | exact HB.out | apply below_alloc | apply pw_below_drewN | apply below_drew1 | refine below_set ?_ GE220.out) | exact HB.out))); rintro e w17 ⟨rfl, hb⟩; have n0_ := Aside0.mk (blk_below (g := gb220) (o := .cells #[.int .i64 a0_0, .slice A0_1 l0_1.length c0_1, .string a0_2, .bool a0_3] 28 (0, 0)) (bks) hb); have n1_ := Aside0.mk (below_step bwl hb); clear BK220; clear HB; have BK220 := n0_; have HB := n1_; clear n0_ n1_; (try clear hb); (try clear hb2); (try clear hk); (try clear hi)))
    repeat (go_quiet (first | (go_at_call 30; (with_reducible refine (strconv_Itoa.calls a0_0 t224 _ ?side1 A11.out).mono ?_); (case side1 => first | exact hG | (refine TabsOk.below hG ?_; repeat (first | (with_reducible first | exact HB.out | apply below_alloc | apply pw_below_drewN | apply below_drew1 | refine below_set ?_ GE220.out) | exact HB.out))); rintro e w17 ⟨rfl, hb⟩; have n0_ := Aside0.mk (blk_below (g := gb220) (o := .cells #[.int .i64 a0_0, .slice A0_1 l0_1.length c0_1, .string a0_2, .bool a0_3] 28 (0, 0)) (bks) hb); have n1_ := Aside0.mk (below_step bwl hb); clear BK220; clear HB; have BK220 := n0_; have HB := n1_; clear n0_ n1_; (try clear hb); (try clear hb2); (try clear hk); (try clear hi))); try go_wp2_with (first | (go_at_call 30; (with_reducible refine (strconv_Itoa.calls a0_0 t224 _ ?side1 A11.out).mono ?_); (case side1 => first | exact hG | (refine TabsOk.below hG ?_; repeat (first | (with_reducible first | exact HB.out | apply below_alloc | apply pw_below_drewN | apply below_drew1 | refine below_set ?_ GE220.out) | exact HB.out))); rintro e w17 ⟨rfl, hb⟩; have n0_ := Aside0.mk (blk_below (g := gb220) (o := .cells #[.int .i64 a0_0, .slice A0_1 l0_1.length c0_1, .string a0_2, .bool a0_3] 28 (0, 0)) (bks) hb); have n1_ := Aside0.mk (below_step bwl hb); clear BK220; clear HB; have BK220 := n0_; have HB := n1_; clear n0_ n1_; (try clear hb); (try clear hb2); (try clear hk); (try clear hi))))
    go_loopg [6, 7] kj4 (fun kq v6 v7 w' => ∃ (x6_2 : ByteArray) (x7_2 : Int), v6 = .string x6_2 ∧ v7 = .int .i64 x7_2 ∧ Aside0 (cloisterref09_Print.l0 kq x6_2 x7_2 a0_0 l0_1 a0_2 a0_3 = some (r1, r2)) ∧ Aside0 (kq ≤ kj4) ∧ Aside0 (w'.heap[gb220]? = some (.cells #[.int .i64 a0_0, (.slice A0_1 l0_1.length c0_1), .string a0_2, .bool a0_3] 28 (0, 0))) ∧ Aside0 (Below w.heap.size w w'))
    case atStart => exact ⟨(((((⟨#[72, 84, 84, 80, 47, 49, 46, 49, 32]⟩ : ByteArray) ++ t224) ++ (⟨#[32]⟩ : ByteArray)) ++ x4_4) ++ (⟨#[13, 10]⟩ : ByteArray)), (0), meq, meq, H', ⟨Nat.le_refl _⟩, ⟨bks⟩, ⟨bwl⟩⟩
    case round =>
     clear H'
     try clear c12
     try clear c12b0
     try clear c12b1
     try clear c12b2
     try clear c13
     try clear c13b0
     try clear c13b1
     try clear c13b2
     try clear c14
     try clear c14b0
     try clear c14b1
     try clear c14b2
     try clear c15
     try clear c15b0
     try clear c15b1
     try clear c15b2
     try clear hcz16_0
     try clear hcz16_1
     try clear hcz16_2
     try clear hcz16_3
     try clear hcz7_0
     try clear hcz7_1
     try clear hcz7_2
     try clear hcz7_3
     try clear hcz9_0
     try clear hcz9_1
     try clear hcz9_2
     try clear hcz9_3
     try clear hfz16_0
     try clear hfz16_1
     try clear hfz16_2
     try clear hfz16_3
     try clear hfz7_0
     try clear hfz7_1
     try clear hfz7_2
     try clear hfz7_3
     try clear hfz9_0
     try clear hfz9_1
     try clear hfz9_2
     try clear hfz9_3
     obtain ⟨x6_2, x7_2, rfl, rfl, HA, HK2, BK220, HB⟩ := hrel
     cases gk with
     | zero => exact absurd HA.out (by simp [cloisterref09_Print.l0])
     | succ k2 =>
      have H := HA.out
      clear HA
      simp only [cloisterref09_Print.l0] at H
      by_cases c18 : x7_2 < (l0_1.length : Int)
      ·rw [if_pos c18] at H
       have c18b0 : decide (x7_2 < (l0_1.length : Int)) = true := decide_eq_true c18
       clear c18
       obtain ⟨c19, H⟩ := ifn H
       have c19b0 : decide (0 ≤ x7_2) = true := decide_eq_true c19
       clear c19
       obtain ⟨c20, H⟩ := ifn H
       have c20b0 := eq_true c20
       have c20b1 : decide (x6_2.size + ((rd_T61 l0_1 x7_2).f0).size ≤ 9223372036854775807) = true := decide_eq_true c20
       try have c20b2 : (9223372036854775807 < x6_2.size + ((rd_T61 l0_1 x7_2).f0).size) = False := eq_false (Nat.not_lt.2 c20)
       obtain ⟨c21, H⟩ := ifn H
       have c21b0 := eq_true c21
       have c21b1 : decide ((x6_2 ++ ((rd_T61 l0_1 x7_2).f0)).size + 2 ≤ 9223372036854775807) = true := decide_eq_true c21
       try have c21b2 : (9223372036854775807 < (x6_2 ++ ((rd_T61 l0_1 x7_2).f0)).size + 2) = False := eq_false (Nat.not_lt.2 c21)
       try have c21b3 : (9223372036854775807 < x6_2.size + ((rd_T61 l0_1 x7_2).f0).size + 2) = False := eq_false (Nat.not_lt.2 (by have h_ := c21; simp only [ByteArray.size_append] at h_; exact h_))
       obtain ⟨c22, H⟩ := ifn H
       have c22b0 := eq_true c22
       have c22b1 : decide (((x6_2 ++ ((rd_T61 l0_1 x7_2).f0)) ++ (⟨#[58, 32]⟩ : ByteArray)).size + ((rd_T61 l0_1 x7_2).f1).size ≤ 9223372036854775807) = true := decide_eq_true c22
       try have c22b2 : (9223372036854775807 < ((x6_2 ++ ((rd_T61 l0_1 x7_2).f0)) ++ (⟨#[58, 32]⟩ : ByteArray)).size + ((rd_T61 l0_1 x7_2).f1).size) = False := eq_false (Nat.not_lt.2 c22)
       try have c22b3 : (9223372036854775807 < x6_2.size + ((rd_T61 l0_1 x7_2).f0).size + 2 + ((rd_T61 l0_1 x7_2).f1).size) = False := eq_false (Nat.not_lt.2 (by have h_ := c22; simp only [ByteArray.size_append] at h_; exact h_))
       obtain ⟨c23, H⟩ := ifn H
       have c23b0 := eq_true c23
       have c23b1 : decide ((((x6_2 ++ ((rd_T61 l0_1 x7_2).f0)) ++ (⟨#[58, 32]⟩ : ByteArray)) ++ ((rd_T61 l0_1 x7_2).f1)).size + 2 ≤ 9223372036854775807) = true := decide_eq_true c23
       try have c23b2 : (9223372036854775807 < (((x6_2 ++ ((rd_T61 l0_1 x7_2).f0)) ++ (⟨#[58, 32]⟩ : ByteArray)) ++ ((rd_T61 l0_1 x7_2).f1)).size + 2) = False := eq_false (Nat.not_lt.2 c23)
       try have c23b3 : (9223372036854775807 < x6_2.size + ((rd_T61 l0_1 x7_2).f0).size + 2 + ((rd_T61 l0_1 x7_2).f1).size + 2) = False := eq_false (Nat.not_lt.2 (by have h_ := c23; simp only [ByteArray.size_append] at h_; exact h_))
       have H' := Aside0.mk H
       clear H
       have hcz24_0 : wr.cell? ⟨gb220, 0, none⟩ = some (.int .i64 a0_0) := (blk_cell BK220.out 0).trans rfl
       have hcz24_1 : wr.cell? ⟨gb220, 1, none⟩ = some (.slice A0_1 l0_1.length c0_1) := (blk_cell BK220.out 1).trans rfl
       have hcz24_2 : wr.cell? ⟨gb220, 2, none⟩ = some (.string a0_2) := (blk_cell BK220.out 2).trans rfl
       have hcz24_3 : wr.cell? ⟨gb220, 3, none⟩ = some (.bool a0_3) := (blk_cell BK220.out 3).trans rfl
       have hfz24_0 := blk_frozen BK220.out 0
       have hfz24_1 := blk_frozen BK220.out 1
       have hfz24_2 := blk_frozen BK220.out 2
       have hfz24_3 := blk_frozen BK220.out 3
       have p225 : 0 ≤ (x7_2 : Int) := of_decide_eq_true (by first | (with_reducible assumption) | assumption)
       have q225 : x7_2 < (l0_1.length : Int) := of_decide_eq_true (by first | (with_reducible assumption) | assumption)
       obtain ⟨ad225, e225, hx225_0, hx225_1⟩ := at_T61 HR0_1.out x7_2 p225 q225
       cases e225
       replace hx225_0 := (HB.out.cell (World.block_lt_of_cell? w _ hx225_0)).trans hx225_0
       replace hx225_1 := (HB.out.cell (World.block_lt_of_cell? w _ hx225_1)).trans hx225_1
       replace p225 := eq_true p225
       replace q225 := eq_true q225
       have p226 : 0 ≤ (x7_2 : Int) := of_decide_eq_true (by first | (with_reducible assumption) | assumption)
       have q226 : x7_2 < (l0_1.length : Int) := of_decide_eq_true (by first | (with_reducible assumption) | assumption)
       obtain ⟨ad226, e226, hx226_0, hx226_1⟩ := at_T61 HR0_1.out x7_2 p226 q226
       obtain rfl : ad225 = ad226 := (by injection e226)
       replace hx226_0 := (HB.out.cell (World.block_lt_of_cell? w _ hx226_0)).trans hx226_0
       replace hx226_1 := (HB.out.cell (World.block_lt_of_cell? w _ hx226_1)).trans hx226_1
       replace p226 := eq_true p226
       replace q226 := eq_true q226
       go_wp2
       repeat (go_quiet (fail); try go_wp2)
       go_roundg k2
       case measure => have := HJ4.out; have := HK2.out; omega
       case rel => exact ⟨((((x6_2 ++ ((rd_T61 l0_1 x7_2).f0)) ++ (⟨#[58, 32]⟩ : ByteArray)) ++ ((rd_T61 l0_1 x7_2).f1)) ++ (⟨#[13, 10]⟩ : ByteArray)), (wrap64 (x7_2 + 1)), meq, meq, H', ⟨by have := HJ4.out; have := HK2.out; omega⟩, ⟨bks⟩, ⟨bwl⟩⟩
      ·rw [if_neg c18] at H
       have c18b0 : decide (x7_2 < (l0_1.length : Int)) = false := decide_eq_false c18
       clear c18
       obtain ⟨c25, H⟩ := ifn H
       have c25b0 := eq_true c25
       have c25b1 : decide (x6_2.size + 16 ≤ 9223372036854775807) = true := decide_eq_true c25
       try have c25b2 : (9223372036854775807 < x6_2.size + 16) = False := eq_false (Nat.not_lt.2 c25)
       replace H := Option.bind_eq_some_iff.mp H
       obtain ⟨t227, A260, H⟩ := H
       try dsimp only at H
       have A26 := Aside0.mk A260
       clear A260
       obtain ⟨c27, H⟩ := ifn H
       have c27b0 := eq_true c27
       have c27b1 : decide ((x6_2 ++ (⟨#[99, 111, 110, 116, 101, 110, 116, 45, 108, 101, 110, 103, 116, 104, 58, 32]⟩ : ByteArray)).size + t227.size ≤ 9223372036854775807) = true := decide_eq_true c27
       try have c27b2 : (9223372036854775807 < (x6_2 ++ (⟨#[99, 111, 110, 116, 101, 110, 116, 45, 108, 101, 110, 103, 116, 104, 58, 32]⟩ : ByteArray)).size + t227.size) = False := eq_false (Nat.not_lt.2 c27)
       try have c27b3 : (9223372036854775807 < x6_2.size + 16 + t227.size) = False := eq_false (Nat.not_lt.2 (by have h_ := c27; simp only [ByteArray.size_append] at h_; exact h_))
       obtain ⟨c28, H⟩ := ifn H
       have c28b0 := eq_true c28
       have c28b1 : decide (((x6_2 ++ (⟨#[99, 111, 110, 116, 101, 110, 116, 45, 108, 101, 110, 103, 116, 104, 58, 32]⟩ : ByteArray)) ++ t227).size + 14 ≤ 9223372036854775807) = true := decide_eq_true c28
       try have c28b2 : (9223372036854775807 < ((x6_2 ++ (⟨#[99, 111, 110, 116, 101, 110, 116, 45, 108, 101, 110, 103, 116, 104, 58, 32]⟩ : ByteArray)) ++ t227).size + 14) = False := eq_false (Nat.not_lt.2 c28)
       try have c28b3 : (9223372036854775807 < x6_2.size + 16 + t227.size + 14) = False := eq_false (Nat.not_lt.2 (by have h_ := c28; simp only [ByteArray.size_append] at h_; exact h_))
       by_cases c29 : a0_3 = true
       ·subst c29
        have H1 : (if (((x6_2 ++ (⟨#[99, 111, 110, 116, 101, 110, 116, 45, 108, 101, 110, 103, 116, 104, 58, 32]⟩ : ByteArray)) ++ t227) ++ (⟨#[13, 10, 99, 111, 110, 110, 101, 99, 116, 105, 111, 110, 58, 32]⟩ : ByteArray)).size + 5 ≤ 9223372036854775807 then (if ((((x6_2 ++ (⟨#[99, 111, 110, 116, 101, 110, 116, 45, 108, 101, 110, 103, 116, 104, 58, 32]⟩ : ByteArray)) ++ t227) ++ (⟨#[13, 10, 99, 111, 110, 110, 101, 99, 116, 105, 111, 110, 58, 32]⟩ : ByteArray)) ++ (⟨#[99, 108, 111, 115, 101]⟩ : ByteArray)).size + 4 ≤ 9223372036854775807 then (if (((((x6_2 ++ (⟨#[99, 111, 110, 116, 101, 110, 116, 45, 108, 101, 110, 103, 116, 104, 58, 32]⟩ : ByteArray)) ++ t227) ++ (⟨#[13, 10, 99, 111, 110, 110, 101, 99, 116, 105, 111, 110, 58, 32]⟩ : ByteArray)) ++ (⟨#[99, 108, 111, 115, 101]⟩ : ByteArray)) ++ (⟨#[13, 10, 13, 10]⟩ : ByteArray)).size + a0_2.size ≤ 9223372036854775807 then (some ((((((x6_2 ++ (⟨#[99, 111, 110, 116, 101, 110, 116, 45, 108, 101, 110, 103, 116, 104, 58, 32]⟩ : ByteArray)) ++ t227) ++ (⟨#[13, 10, 99, 111, 110, 110, 101, 99, 116, 105, 111, 110, 58, 32]⟩ : ByteArray)) ++ (⟨#[99, 108, 111, 115, 101]⟩ : ByteArray)) ++ (⟨#[13, 10, 13, 10]⟩ : ByteArray)) ++ a0_2, 0)) else (none)) else (none)) else (none)) = some (r1, r2) := by rw [if_pos rfl] at H; exact H
        clear H
        have H := H1
        clear H1
        obtain ⟨c30, H⟩ := ifn H
        have c30b0 := eq_true c30
        have c30b1 : decide ((((x6_2 ++ (⟨#[99, 111, 110, 116, 101, 110, 116, 45, 108, 101, 110, 103, 116, 104, 58, 32]⟩ : ByteArray)) ++ t227) ++ (⟨#[13, 10, 99, 111, 110, 110, 101, 99, 116, 105, 111, 110, 58, 32]⟩ : ByteArray)).size + 5 ≤ 9223372036854775807) = true := decide_eq_true c30
        try have c30b2 : (9223372036854775807 < (((x6_2 ++ (⟨#[99, 111, 110, 116, 101, 110, 116, 45, 108, 101, 110, 103, 116, 104, 58, 32]⟩ : ByteArray)) ++ t227) ++ (⟨#[13, 10, 99, 111, 110, 110, 101, 99, 116, 105, 111, 110, 58, 32]⟩ : ByteArray)).size + 5) = False := eq_false (Nat.not_lt.2 c30)
        try have c30b3 : (9223372036854775807 < x6_2.size + 16 + t227.size + 14 + 5) = False := eq_false (Nat.not_lt.2 (by have h_ := c30; simp only [ByteArray.size_append] at h_; exact h_))
        obtain ⟨c31, H⟩ := ifn H
        have c31b0 := eq_true c31
        have c31b1 : decide (((((x6_2 ++ (⟨#[99, 111, 110, 116, 101, 110, 116, 45, 108, 101, 110, 103, 116, 104, 58, 32]⟩ : ByteArray)) ++ t227) ++ (⟨#[13, 10, 99, 111, 110, 110, 101, 99, 116, 105, 111, 110, 58, 32]⟩ : ByteArray)) ++ (⟨#[99, 108, 111, 115, 101]⟩ : ByteArray)).size + 4 ≤ 9223372036854775807) = true := decide_eq_true c31
        try have c31b2 : (9223372036854775807 < ((((x6_2 ++ (⟨#[99, 111, 110, 116, 101, 110, 116, 45, 108, 101, 110, 103, 116, 104, 58, 32]⟩ : ByteArray)) ++ t227) ++ (⟨#[13, 10, 99, 111, 110, 110, 101, 99, 116, 105, 111, 110, 58, 32]⟩ : ByteArray)) ++ (⟨#[99, 108, 111, 115, 101]⟩ : ByteArray)).size + 4) = False := eq_false (Nat.not_lt.2 c31)
        try have c31b3 : (9223372036854775807 < x6_2.size + 16 + t227.size + 14 + 5 + 4) = False := eq_false (Nat.not_lt.2 (by have h_ := c31; simp only [ByteArray.size_append] at h_; exact h_))
        obtain ⟨c32, H⟩ := ifn H
        have c32b0 := eq_true c32
        have c32b1 : decide ((((((x6_2 ++ (⟨#[99, 111, 110, 116, 101, 110, 116, 45, 108, 101, 110, 103, 116, 104, 58, 32]⟩ : ByteArray)) ++ t227) ++ (⟨#[13, 10, 99, 111, 110, 110, 101, 99, 116, 105, 111, 110, 58, 32]⟩ : ByteArray)) ++ (⟨#[99, 108, 111, 115, 101]⟩ : ByteArray)) ++ (⟨#[13, 10, 13, 10]⟩ : ByteArray)).size + a0_2.size ≤ 9223372036854775807) = true := decide_eq_true c32
        try have c32b2 : (9223372036854775807 < (((((x6_2 ++ (⟨#[99, 111, 110, 116, 101, 110, 116, 45, 108, 101, 110, 103, 116, 104, 58, 32]⟩ : ByteArray)) ++ t227) ++ (⟨#[13, 10, 99, 111, 110, 110, 101, 99, 116, 105, 111, 110, 58, 32]⟩ : ByteArray)) ++ (⟨#[99, 108, 111, 115, 101]⟩ : ByteArray)) ++ (⟨#[13, 10, 13, 10]⟩ : ByteArray)).size + a0_2.size) = False := eq_false (Nat.not_lt.2 c32)
        try have c32b3 : (9223372036854775807 < x6_2.size + 16 + t227.size + 14 + 5 + 4 + a0_2.size) = False := eq_false (Nat.not_lt.2 (by have h_ := c32; simp only [ByteArray.size_append] at h_; exact h_))
        simp only [Option.some.injEq, Prod.mk.injEq] at H
        obtain ⟨rfl, rfl⟩ := H
        have hcz33_0 : wr.cell? ⟨gb220, 0, none⟩ = some (.int .i64 a0_0) := (blk_cell BK220.out 0).trans rfl
        have hcz33_1 : wr.cell? ⟨gb220, 1, none⟩ = some (.slice A0_1 l0_1.length c0_1) := (blk_cell BK220.out 1).trans rfl
        have hcz33_2 : wr.cell? ⟨gb220, 2, none⟩ = some (.string a0_2) := (blk_cell BK220.out 2).trans rfl
        have hcz33_3 : wr.cell? ⟨gb220, 3, none⟩ = some (.bool true) := (blk_cell BK220.out 3).trans rfl
        have hfz33_0 := blk_frozen BK220.out 0
        have hfz33_1 := blk_frozen BK220.out 1
        have hfz33_2 := blk_frozen BK220.out 2
        have hfz33_3 := blk_frozen BK220.out 3
        go_wp2_with (first | (go_at_call 30; (with_reducible refine (strconv_Itoa.calls (a0_2.size : Int) t227 _ ?side1 A26.out).mono ?_); (case side1 => first | exact hG | (refine TabsOk.below hG ?_; repeat (first | (with_reducible first | exact HB.out | apply below_alloc | apply pw_below_drewN | apply below_drew1 | refine below_set ?_ GE220.out) | exact HB.out))); rintro e w34 ⟨rfl, hb⟩; have n0_ := Aside0.mk (blk_below (g := gb220) (o := .cells #[.int .i64 a0_0, .slice A0_1 l0_1.length c0_1, .string a0_2, .bool true] 28 (0, 0)) (bks) hb); have n1_ := Aside0.mk (below_step bwl hb); clear BK220; clear HB; have BK220 := n0_; have HB := n1_; clear n0_ n1_; (try clear hb); (try clear hb2); (try clear hk); (try clear hi); have hcz35_0 : w34.cell? ⟨gb220, 0, none⟩ = some (.int .i64 a0_0) := (blk_cell BK220.out 0).trans rfl; have hcz35_1 : w34.cell? ⟨gb220, 1, none⟩ = some (.slice A0_1 l0_1.length c0_1) := (blk_cell BK220.out 1).trans rfl; have hcz35_2 : w34.cell? ⟨gb220, 2, none⟩ = some (.string a0_2) := (blk_cell BK220.out 2).trans rfl; have hcz35_3 : w34.cell? ⟨gb220, 3, none⟩ = some (.bool true) := (blk_cell BK220.out 3).trans rfl; have hfz35_0 := blk_frozen BK220.out 0; have hfz35_1 := blk_frozen BK220.out 1; have hfz35_2 := blk_frozen BK220.out 2; have hfz35_3 := blk_frozen BK220.out 3))
        repeat (go_quiet (first | (go_at_call 30; (with_reducible refine (strconv_Itoa.calls (a0_2.size : Int) t227 _ ?side1 A26.out).mono ?_); (case side1 => first | exact hG | (refine TabsOk.below hG ?_; repeat (first | (with_reducible first | exact HB.out | apply below_alloc | apply pw_below_drewN | apply below_drew1 | refine below_set ?_ GE220.out) | exact HB.out))); rintro e w34 ⟨rfl, hb⟩; have n0_ := Aside0.mk (blk_below (g := gb220) (o := .cells #[.int .i64 a0_0, .slice A0_1 l0_1.length c0_1, .string a0_2, .bool true] 28 (0, 0)) (bks) hb); have n1_ := Aside0.mk (below_step bwl hb); clear BK220; clear HB; have BK220 := n0_; have HB := n1_; clear n0_ n1_; (try clear hb); (try clear hb2); (try clear hk); (try clear hi); have hcz35_0 : w34.cell? ⟨gb220, 0, none⟩ = some (.int .i64 a0_0) := (blk_cell BK220.out 0).trans rfl; have hcz35_1 : w34.cell? ⟨gb220, 1, none⟩ = some (.slice A0_1 l0_1.length c0_1) := (blk_cell BK220.out 1).trans rfl; have hcz35_2 : w34.cell? ⟨gb220, 2, none⟩ = some (.string a0_2) := (blk_cell BK220.out 2).trans rfl; have hcz35_3 : w34.cell? ⟨gb220, 3, none⟩ = some (.bool true) := (blk_cell BK220.out 3).trans rfl; have hfz35_0 := blk_frozen BK220.out 0; have hfz35_1 := blk_frozen BK220.out 1; have hfz35_2 := blk_frozen BK220.out 2; have hfz35_3 := blk_frozen BK220.out 3)); try go_wp2_with (first | (go_at_call 30; (with_reducible refine (strconv_Itoa.calls (a0_2.size : Int) t227 _ ?side1 A26.out).mono ?_); (case side1 => first | exact hG | (refine TabsOk.below hG ?_; repeat (first | (with_reducible first | exact HB.out | apply below_alloc | apply pw_below_drewN | apply below_drew1 | refine below_set ?_ GE220.out) | exact HB.out))); rintro e w34 ⟨rfl, hb⟩; have n0_ := Aside0.mk (blk_below (g := gb220) (o := .cells #[.int .i64 a0_0, .slice A0_1 l0_1.length c0_1, .string a0_2, .bool true] 28 (0, 0)) (bks) hb); have n1_ := Aside0.mk (below_step bwl hb); clear BK220; clear HB; have BK220 := n0_; have HB := n1_; clear n0_ n1_; (try clear hb); (try clear hb2); (try clear hk); (try clear hi); have hcz35_0 : w34.cell? ⟨gb220, 0, none⟩ = some (.int .i64 a0_0) := (blk_cell BK220.out 0).trans rfl; have hcz35_1 : w34.cell? ⟨gb220, 1, none⟩ = some (.slice A0_1 l0_1.length c0_1) := (blk_cell BK220.out 1).trans rfl; have hcz35_2 : w34.cell? ⟨gb220, 2, none⟩ = some (.string a0_2) := (blk_cell BK220.out 2).trans rfl; have hcz35_3 : w34.cell? ⟨gb220, 3, none⟩ = some (.bool true) := (blk_cell BK220.out 3).trans rfl; have hfz35_0 := blk_frozen BK220.out 0; have hfz35_1 := blk_frozen BK220.out 1; have hfz35_2 := blk_frozen BK220.out 2; have hfz35_3 := blk_frozen BK220.out 3)))
        go_ret2
        exact ⟨by first | rfl | (simp [errW_none, errW_some] <;> rfl) | (simp [*, errW_none, errW_some] <;> rfl), bwl⟩
       ·replace c29 := Bool.eq_false_iff.mpr c29
        subst c29
        have H1 : (if (((x6_2 ++ (⟨#[99, 111, 110, 116, 101, 110, 116, 45, 108, 101, 110, 103, 116, 104, 58, 32]⟩ : ByteArray)) ++ t227) ++ (⟨#[13, 10, 99, 111, 110, 110, 101, 99, 116, 105, 111, 110, 58, 32]⟩ : ByteArray)).size + 10 ≤ 9223372036854775807 then (if ((((x6_2 ++ (⟨#[99, 111, 110, 116, 101, 110, 116, 45, 108, 101, 110, 103, 116, 104, 58, 32]⟩ : ByteArray)) ++ t227) ++ (⟨#[13, 10, 99, 111, 110, 110, 101, 99, 116, 105, 111, 110, 58, 32]⟩ : ByteArray)) ++ (⟨#[107, 101, 101, 112, 45, 97, 108, 105, 118, 101]⟩ : ByteArray)).size + 4 ≤ 9223372036854775807 then (if (((((x6_2 ++ (⟨#[99, 111, 110, 116, 101, 110, 116, 45, 108, 101, 110, 103, 116, 104, 58, 32]⟩ : ByteArray)) ++ t227) ++ (⟨#[13, 10, 99, 111, 110, 110, 101, 99, 116, 105, 111, 110, 58, 32]⟩ : ByteArray)) ++ (⟨#[107, 101, 101, 112, 45, 97, 108, 105, 118, 101]⟩ : ByteArray)) ++ (⟨#[13, 10, 13, 10]⟩ : ByteArray)).size + a0_2.size ≤ 9223372036854775807 then (some ((((((x6_2 ++ (⟨#[99, 111, 110, 116, 101, 110, 116, 45, 108, 101, 110, 103, 116, 104, 58, 32]⟩ : ByteArray)) ++ t227) ++ (⟨#[13, 10, 99, 111, 110, 110, 101, 99, 116, 105, 111, 110, 58, 32]⟩ : ByteArray)) ++ (⟨#[107, 101, 101, 112, 45, 97, 108, 105, 118, 101]⟩ : ByteArray)) ++ (⟨#[13, 10, 13, 10]⟩ : ByteArray)) ++ a0_2, 0)) else (none)) else (none)) else (none)) = some (r1, r2) := by rw [if_neg (show ¬ (false = true) by decide)] at H; exact H
        clear H
        have H := H1
        clear H1
        obtain ⟨c36, H⟩ := ifn H
        have c36b0 := eq_true c36
        have c36b1 : decide ((((x6_2 ++ (⟨#[99, 111, 110, 116, 101, 110, 116, 45, 108, 101, 110, 103, 116, 104, 58, 32]⟩ : ByteArray)) ++ t227) ++ (⟨#[13, 10, 99, 111, 110, 110, 101, 99, 116, 105, 111, 110, 58, 32]⟩ : ByteArray)).size + 10 ≤ 9223372036854775807) = true := decide_eq_true c36
        try have c36b2 : (9223372036854775807 < (((x6_2 ++ (⟨#[99, 111, 110, 116, 101, 110, 116, 45, 108, 101, 110, 103, 116, 104, 58, 32]⟩ : ByteArray)) ++ t227) ++ (⟨#[13, 10, 99, 111, 110, 110, 101, 99, 116, 105, 111, 110, 58, 32]⟩ : ByteArray)).size + 10) = False := eq_false (Nat.not_lt.2 c36)
        try have c36b3 : (9223372036854775807 < x6_2.size + 16 + t227.size + 14 + 10) = False := eq_false (Nat.not_lt.2 (by have h_ := c36; simp only [ByteArray.size_append] at h_; exact h_))
        obtain ⟨c37, H⟩ := ifn H
        have c37b0 := eq_true c37
        have c37b1 : decide (((((x6_2 ++ (⟨#[99, 111, 110, 116, 101, 110, 116, 45, 108, 101, 110, 103, 116, 104, 58, 32]⟩ : ByteArray)) ++ t227) ++ (⟨#[13, 10, 99, 111, 110, 110, 101, 99, 116, 105, 111, 110, 58, 32]⟩ : ByteArray)) ++ (⟨#[107, 101, 101, 112, 45, 97, 108, 105, 118, 101]⟩ : ByteArray)).size + 4 ≤ 9223372036854775807) = true := decide_eq_true c37
        try have c37b2 : (9223372036854775807 < ((((x6_2 ++ (⟨#[99, 111, 110, 116, 101, 110, 116, 45, 108, 101, 110, 103, 116, 104, 58, 32]⟩ : ByteArray)) ++ t227) ++ (⟨#[13, 10, 99, 111, 110, 110, 101, 99, 116, 105, 111, 110, 58, 32]⟩ : ByteArray)) ++ (⟨#[107, 101, 101, 112, 45, 97, 108, 105, 118, 101]⟩ : ByteArray)).size + 4) = False := eq_false (Nat.not_lt.2 c37)
        try have c37b3 : (9223372036854775807 < x6_2.size + 16 + t227.size + 14 + 10 + 4) = False := eq_false (Nat.not_lt.2 (by have h_ := c37; simp only [ByteArray.size_append] at h_; exact h_))
        obtain ⟨c38, H⟩ := ifn H
        have c38b0 := eq_true c38
        have c38b1 : decide ((((((x6_2 ++ (⟨#[99, 111, 110, 116, 101, 110, 116, 45, 108, 101, 110, 103, 116, 104, 58, 32]⟩ : ByteArray)) ++ t227) ++ (⟨#[13, 10, 99, 111, 110, 110, 101, 99, 116, 105, 111, 110, 58, 32]⟩ : ByteArray)) ++ (⟨#[107, 101, 101, 112, 45, 97, 108, 105, 118, 101]⟩ : ByteArray)) ++ (⟨#[13, 10, 13, 10]⟩ : ByteArray)).size + a0_2.size ≤ 9223372036854775807) = true := decide_eq_true c38
        try have c38b2 : (9223372036854775807 < (((((x6_2 ++ (⟨#[99, 111, 110, 116, 101, 110, 116, 45, 108, 101, 110, 103, 116, 104, 58, 32]⟩ : ByteArray)) ++ t227) ++ (⟨#[13, 10, 99, 111, 110, 110, 101, 99, 116, 105, 111, 110, 58, 32]⟩ : ByteArray)) ++ (⟨#[107, 101, 101, 112, 45, 97, 108, 105, 118, 101]⟩ : ByteArray)) ++ (⟨#[13, 10, 13, 10]⟩ : ByteArray)).size + a0_2.size) = False := eq_false (Nat.not_lt.2 c38)
        try have c38b3 : (9223372036854775807 < x6_2.size + 16 + t227.size + 14 + 10 + 4 + a0_2.size) = False := eq_false (Nat.not_lt.2 (by have h_ := c38; simp only [ByteArray.size_append] at h_; exact h_))
        simp only [Option.some.injEq, Prod.mk.injEq] at H
        obtain ⟨rfl, rfl⟩ := H
        have hcz39_0 : wr.cell? ⟨gb220, 0, none⟩ = some (.int .i64 a0_0) := (blk_cell BK220.out 0).trans rfl
        have hcz39_1 : wr.cell? ⟨gb220, 1, none⟩ = some (.slice A0_1 l0_1.length c0_1) := (blk_cell BK220.out 1).trans rfl
        have hcz39_2 : wr.cell? ⟨gb220, 2, none⟩ = some (.string a0_2) := (blk_cell BK220.out 2).trans rfl
        have hcz39_3 : wr.cell? ⟨gb220, 3, none⟩ = some (.bool false) := (blk_cell BK220.out 3).trans rfl
        have hfz39_0 := blk_frozen BK220.out 0
        have hfz39_1 := blk_frozen BK220.out 1
        have hfz39_2 := blk_frozen BK220.out 2
        have hfz39_3 := blk_frozen BK220.out 3
        go_wp2_with (first | (go_at_call 30; (with_reducible refine (strconv_Itoa.calls (a0_2.size : Int) t227 _ ?side1 A26.out).mono ?_); (case side1 => first | exact hG | (refine TabsOk.below hG ?_; repeat (first | (with_reducible first | exact HB.out | apply below_alloc | apply pw_below_drewN | apply below_drew1 | refine below_set ?_ GE220.out) | exact HB.out))); rintro e w40 ⟨rfl, hb⟩; have n0_ := Aside0.mk (blk_below (g := gb220) (o := .cells #[.int .i64 a0_0, .slice A0_1 l0_1.length c0_1, .string a0_2, .bool false] 28 (0, 0)) (bks) hb); have n1_ := Aside0.mk (below_step bwl hb); clear BK220; clear HB; have BK220 := n0_; have HB := n1_; clear n0_ n1_; (try clear hb); (try clear hb2); (try clear hk); (try clear hi); have hcz41_0 : w40.cell? ⟨gb220, 0, none⟩ = some (.int .i64 a0_0) := (blk_cell BK220.out 0).trans rfl; have hcz41_1 : w40.cell? ⟨gb220, 1, none⟩ = some (.slice A0_1 l0_1.length c0_1) := (blk_cell BK220.out 1).trans rfl; have hcz41_2 : w40.cell? ⟨gb220, 2, none⟩ = some (.string a0_2) := (blk_cell BK220.out 2).trans rfl; have hcz41_3 : w40.cell? ⟨gb220, 3, none⟩ = some (.bool false) := (blk_cell BK220.out 3).trans rfl; have hfz41_0 := blk_frozen BK220.out 0; have hfz41_1 := blk_frozen BK220.out 1; have hfz41_2 := blk_frozen BK220.out 2; have hfz41_3 := blk_frozen BK220.out 3))
        repeat (go_quiet (first | (go_at_call 30; (with_reducible refine (strconv_Itoa.calls (a0_2.size : Int) t227 _ ?side1 A26.out).mono ?_); (case side1 => first | exact hG | (refine TabsOk.below hG ?_; repeat (first | (with_reducible first | exact HB.out | apply below_alloc | apply pw_below_drewN | apply below_drew1 | refine below_set ?_ GE220.out) | exact HB.out))); rintro e w40 ⟨rfl, hb⟩; have n0_ := Aside0.mk (blk_below (g := gb220) (o := .cells #[.int .i64 a0_0, .slice A0_1 l0_1.length c0_1, .string a0_2, .bool false] 28 (0, 0)) (bks) hb); have n1_ := Aside0.mk (below_step bwl hb); clear BK220; clear HB; have BK220 := n0_; have HB := n1_; clear n0_ n1_; (try clear hb); (try clear hb2); (try clear hk); (try clear hi); have hcz41_0 : w40.cell? ⟨gb220, 0, none⟩ = some (.int .i64 a0_0) := (blk_cell BK220.out 0).trans rfl; have hcz41_1 : w40.cell? ⟨gb220, 1, none⟩ = some (.slice A0_1 l0_1.length c0_1) := (blk_cell BK220.out 1).trans rfl; have hcz41_2 : w40.cell? ⟨gb220, 2, none⟩ = some (.string a0_2) := (blk_cell BK220.out 2).trans rfl; have hcz41_3 : w40.cell? ⟨gb220, 3, none⟩ = some (.bool false) := (blk_cell BK220.out 3).trans rfl; have hfz41_0 := blk_frozen BK220.out 0; have hfz41_1 := blk_frozen BK220.out 1; have hfz41_2 := blk_frozen BK220.out 2; have hfz41_3 := blk_frozen BK220.out 3)); try go_wp2_with (first | (go_at_call 30; (with_reducible refine (strconv_Itoa.calls (a0_2.size : Int) t227 _ ?side1 A26.out).mono ?_); (case side1 => first | exact hG | (refine TabsOk.below hG ?_; repeat (first | (with_reducible first | exact HB.out | apply below_alloc | apply pw_below_drewN | apply below_drew1 | refine below_set ?_ GE220.out) | exact HB.out))); rintro e w40 ⟨rfl, hb⟩; have n0_ := Aside0.mk (blk_below (g := gb220) (o := .cells #[.int .i64 a0_0, .slice A0_1 l0_1.length c0_1, .string a0_2, .bool false] 28 (0, 0)) (bks) hb); have n1_ := Aside0.mk (below_step bwl hb); clear BK220; clear HB; have BK220 := n0_; have HB := n1_; clear n0_ n1_; (try clear hb); (try clear hb2); (try clear hk); (try clear hi); have hcz41_0 : w40.cell? ⟨gb220, 0, none⟩ = some (.int .i64 a0_0) := (blk_cell BK220.out 0).trans rfl; have hcz41_1 : w40.cell? ⟨gb220, 1, none⟩ = some (.slice A0_1 l0_1.length c0_1) := (blk_cell BK220.out 1).trans rfl; have hcz41_2 : w40.cell? ⟨gb220, 2, none⟩ = some (.string a0_2) := (blk_cell BK220.out 2).trans rfl; have hcz41_3 : w40.cell? ⟨gb220, 3, none⟩ = some (.bool false) := (blk_cell BK220.out 3).trans rfl; have hfz41_0 := blk_frozen BK220.out 0; have hfz41_1 := blk_frozen BK220.out 1; have hfz41_2 := blk_frozen BK220.out 2; have hfz41_3 := blk_frozen BK220.out 3)))
        go_ret2
        exact ⟨by first | rfl | (simp [errW_none, errW_some] <;> rfl) | (simp [*, errW_none, errW_some] <;> rfl), bwl⟩
 ·replace c3 := Bool.eq_false_iff.mpr c3
  subst c3
  have H1 : (some ((⟨#[]⟩ : ByteArray), 90)) = some (r1, r2) := by rw [if_neg (show ¬ (false = true) by decide)] at H; exact H
  clear H
  have H := H1
  clear H1
  simp only [Option.some.injEq, Prod.mk.injEq] at H
  obtain ⟨rfl, rfl⟩ := H
  go_enter Tryd.func64, Tryd.ntmps64
  go_wp2_with (first | ((with_reducible refine gate_dst (N := 1) rfl ?_); refine box_event ?hg (N := 1) ?hd (cs := #[.int .i64 a0_0, .slice A0_1 l0_1.length c0_1, .string a0_2, .bool a0_3]) (t := 28) ?hr ?_; (case hd => rfl); (case hg => rfl); (case hr => first | (go_simp; done) | (go_simp; rfl)); intro gb220 hg w42 hbox hb; have n0_ := Aside0.mk (below_step bwl hb); have n1_ := Aside0.mk (hbox); have n2_ := Aside0.mk ((by rw [hg]; exact (below_size bwl) : w.heap.size ≤ gb220)); have n3_ := Aside0.mk ((by rw [hg]; exact (below_size bwl) : w.heap.size ≤ gb220)); clear HB; have HB := n0_; have BK220 := n1_; have GW220 := n2_; have GE220 := n3_; clear n0_ n1_ n2_ n3_; clear hb hbox hg; have hcz43_0 : w42.cell? ⟨gb220, 0, none⟩ = some (.int .i64 a0_0) := (blk_cell BK220.out 0).trans rfl; have hcz43_1 : w42.cell? ⟨gb220, 1, none⟩ = some (.slice A0_1 l0_1.length c0_1) := (blk_cell BK220.out 1).trans rfl; have hcz43_2 : w42.cell? ⟨gb220, 2, none⟩ = some (.string a0_2) := (blk_cell BK220.out 2).trans rfl; have hcz43_3 : w42.cell? ⟨gb220, 3, none⟩ = some (.bool a0_3) := (blk_cell BK220.out 3).trans rfl; have hfz43_0 := blk_frozen BK220.out 0; have hfz43_1 := blk_frozen BK220.out 1; have hfz43_2 := blk_frozen BK220.out 2; have hfz43_3 := blk_frozen BK220.out 3) | (go_at_call 84; (with_reducible refine (cloisterref09_May.calls k a0_0 _ _ l0_1 a0_2 a0_3 false _ ?side1 ?side2 A2.out).mono ?_); (case side1 => repeat (first | exact (Kd.C_below HR0_1.out HB.out) | (with_reducible refine Kd.C_alloc ?_ _) | (with_reducible refine Kd.C_drewN ?_ _) | (with_reducible refine Kd.C_drew ?_))); (case side2 => exact HC0_1.out); rintro e w44 ⟨rfl, hb⟩; have n0_ := Aside0.mk (blk_below (g := gb220) (o := .cells #[.int .i64 a0_0, .slice A0_1 l0_1.length c0_1, .string a0_2, .bool a0_3] 28 (0, 0)) (bks) hb); have n1_ := Aside0.mk (below_step bwl hb); clear BK220; clear HB; have BK220 := n0_; have HB := n1_; clear n0_ n1_; (try clear hb); (try clear hb2); (try clear hk); (try clear hi)))
  repeat (go_quiet (first | ((with_reducible refine gate_dst (N := 1) rfl ?_); refine box_event ?hg (N := 1) ?hd (cs := #[.int .i64 a0_0, .slice A0_1 l0_1.length c0_1, .string a0_2, .bool a0_3]) (t := 28) ?hr ?_; (case hd => rfl); (case hg => rfl); (case hr => first | (go_simp; done) | (go_simp; rfl)); intro gb220 hg w42 hbox hb; have n0_ := Aside0.mk (below_step bwl hb); have n1_ := Aside0.mk (hbox); have n2_ := Aside0.mk ((by rw [hg]; exact (below_size bwl) : w.heap.size ≤ gb220)); have n3_ := Aside0.mk ((by rw [hg]; exact (below_size bwl) : w.heap.size ≤ gb220)); clear HB; have HB := n0_; have BK220 := n1_; have GW220 := n2_; have GE220 := n3_; clear n0_ n1_ n2_ n3_; clear hb hbox hg; have hcz43_0 : w42.cell? ⟨gb220, 0, none⟩ = some (.int .i64 a0_0) := (blk_cell BK220.out 0).trans rfl; have hcz43_1 : w42.cell? ⟨gb220, 1, none⟩ = some (.slice A0_1 l0_1.length c0_1) := (blk_cell BK220.out 1).trans rfl; have hcz43_2 : w42.cell? ⟨gb220, 2, none⟩ = some (.string a0_2) := (blk_cell BK220.out 2).trans rfl; have hcz43_3 : w42.cell? ⟨gb220, 3, none⟩ = some (.bool a0_3) := (blk_cell BK220.out 3).trans rfl; have hfz43_0 := blk_frozen BK220.out 0; have hfz43_1 := blk_frozen BK220.out 1; have hfz43_2 := blk_frozen BK220.out 2; have hfz43_3 := blk_frozen BK220.out 3) | (go_at_call 84; (with_reducible refine (cloisterref09_May.calls k a0_0 _ _ l0_1 a0_2 a0_3 false _ ?side1 ?side2 A2.out).mono ?_); (case side1 => repeat (first | exact (Kd.C_below HR0_1.out HB.out) | (with_reducible refine Kd.C_alloc ?_ _) | (with_reducible refine Kd.C_drewN ?_ _) | (with_reducible refine Kd.C_drew ?_))); (case side2 => exact HC0_1.out); rintro e w44 ⟨rfl, hb⟩; have n0_ := Aside0.mk (blk_below (g := gb220) (o := .cells #[.int .i64 a0_0, .slice A0_1 l0_1.length c0_1, .string a0_2, .bool a0_3] 28 (0, 0)) (bks) hb); have n1_ := Aside0.mk (below_step bwl hb); clear BK220; clear HB; have BK220 := n0_; have HB := n1_; clear n0_ n1_; (try clear hb); (try clear hb2); (try clear hk); (try clear hi))); try go_wp2_with (first | ((with_reducible refine gate_dst (N := 1) rfl ?_); refine box_event ?hg (N := 1) ?hd (cs := #[.int .i64 a0_0, .slice A0_1 l0_1.length c0_1, .string a0_2, .bool a0_3]) (t := 28) ?hr ?_; (case hd => rfl); (case hg => rfl); (case hr => first | (go_simp; done) | (go_simp; rfl)); intro gb220 hg w42 hbox hb; have n0_ := Aside0.mk (below_step bwl hb); have n1_ := Aside0.mk (hbox); have n2_ := Aside0.mk ((by rw [hg]; exact (below_size bwl) : w.heap.size ≤ gb220)); have n3_ := Aside0.mk ((by rw [hg]; exact (below_size bwl) : w.heap.size ≤ gb220)); clear HB; have HB := n0_; have BK220 := n1_; have GW220 := n2_; have GE220 := n3_; clear n0_ n1_ n2_ n3_; clear hb hbox hg; have hcz43_0 : w42.cell? ⟨gb220, 0, none⟩ = some (.int .i64 a0_0) := (blk_cell BK220.out 0).trans rfl; have hcz43_1 : w42.cell? ⟨gb220, 1, none⟩ = some (.slice A0_1 l0_1.length c0_1) := (blk_cell BK220.out 1).trans rfl; have hcz43_2 : w42.cell? ⟨gb220, 2, none⟩ = some (.string a0_2) := (blk_cell BK220.out 2).trans rfl; have hcz43_3 : w42.cell? ⟨gb220, 3, none⟩ = some (.bool a0_3) := (blk_cell BK220.out 3).trans rfl; have hfz43_0 := blk_frozen BK220.out 0; have hfz43_1 := blk_frozen BK220.out 1; have hfz43_2 := blk_frozen BK220.out 2; have hfz43_3 := blk_frozen BK220.out 3) | (go_at_call 84; (with_reducible refine (cloisterref09_May.calls k a0_0 _ _ l0_1 a0_2 a0_3 false _ ?side1 ?side2 A2.out).mono ?_); (case side1 => repeat (first | exact (Kd.C_below HR0_1.out HB.out) | (with_reducible refine Kd.C_alloc ?_ _) | (with_reducible refine Kd.C_drewN ?_ _) | (with_reducible refine Kd.C_drew ?_))); (case side2 => exact HC0_1.out); rintro e w44 ⟨rfl, hb⟩; have n0_ := Aside0.mk (blk_below (g := gb220) (o := .cells #[.int .i64 a0_0, .slice A0_1 l0_1.length c0_1, .string a0_2, .bool a0_3] 28 (0, 0)) (bks) hb); have n1_ := Aside0.mk (below_step bwl hb); clear BK220; clear HB; have BK220 := n0_; have HB := n1_; clear n0_ n1_; (try clear hb); (try clear hb2); (try clear hk); (try clear hi))))
  go_ret2
  exact ⟨by first | rfl | (simp [errW_none, errW_some] <;> rfl) | (simp [*, errW_none, errW_some] <;> rfl), bwl⟩

end Go.Proofs.YtlpmifofgacgiaaDoor.Q
namespace Go.Proofs.YtlpmifofgacgiaaDoor.Q
open Go.RowKit Go.Proofs.YtlpmifofgacgiaaDoorW.PrintWords

theorem reason13_eq (st : Int) : cloisterref09_Reason.f st = some (findR st reasonsS) := by
  unfold cloisterref09_Reason.f reasonsS
  by_cases h200 : st = 200
  · subst h200; rfl
  rw [if_neg h200, findR, if_neg (show ¬ ((200 : Int) = st) from fun e => h200 e.symm)]
  by_cases h201 : st = 201
  · subst h201; rfl
  rw [if_neg h201, findR, if_neg (show ¬ ((201 : Int) = st) from fun e => h201 e.symm)]
  by_cases h204 : st = 204
  · subst h204; rfl
  rw [if_neg h204, findR, if_neg (show ¬ ((204 : Int) = st) from fun e => h204 e.symm)]
  by_cases h400 : st = 400
  · subst h400; rfl
  rw [if_neg h400, findR, if_neg (show ¬ ((400 : Int) = st) from fun e => h400 e.symm)]
  by_cases h401 : st = 401
  · subst h401; rfl
  rw [if_neg h401, findR, if_neg (show ¬ ((401 : Int) = st) from fun e => h401 e.symm)]
  by_cases h403 : st = 403
  · subst h403; rfl
  rw [if_neg h403, findR, if_neg (show ¬ ((403 : Int) = st) from fun e => h403 e.symm)]
  by_cases h404 : st = 404
  · subst h404; rfl
  rw [if_neg h404, findR, if_neg (show ¬ ((404 : Int) = st) from fun e => h404 e.symm)]
  by_cases h409 : st = 409
  · subst h409; rfl
  rw [if_neg h409, findR, if_neg (show ¬ ((409 : Int) = st) from fun e => h409 e.symm)]
  by_cases h413 : st = 413
  · subst h413; rfl
  rw [if_neg h413, findR, if_neg (show ¬ ((413 : Int) = st) from fun e => h413 e.symm)]
  by_cases h431 : st = 431
  · subst h431; rfl
  rw [if_neg h431, findR, if_neg (show ¬ ((431 : Int) = st) from fun e => h431 e.symm)]
  by_cases h500 : st = 500
  · subst h500; rfl
  rw [if_neg h500, findR, if_neg (show ¬ ((500 : Int) = st) from fun e => h500 e.symm)]
  by_cases h503 : st = 503
  · subst h503; rfl
  rw [if_neg h503, findR, if_neg (show ¬ ((503 : Int) = st) from fun e => h503 e.symm)]
  by_cases h505 : st = 505
  · subst h505; rfl
  rw [if_neg h505, findR, if_neg (show ¬ ((505 : Int) = st) from fun e => h505 e.symm)]
  rfl
theorem print13r_ev (st : Int) (l : List Pr) (body : ByteArray) (cl : Bool) (hl : ∀ x ∈ l, x.f0.size < 4294967296 ∧ x.f1.size < 4294967296) (hh : hdrLen l ≤ 1000000000000) (hb : body.size < 4611686018427387904) :
    Ev (fun k => cloisterref09_Print.f k st l body cl) (if mayR st l body = true then (⟨(printR st l body cl).toArray⟩, 0) else (⟨#[]⟩, 90)) := by
  unfold cloisterref09_Print.f
  refine Ev.bind (may13r_ev st l body cl hl) ?_
  cases hm : mayR st l body with
  | false =>
    rw [if_neg (by decide)]
    exact Ev.neg (by decide) (Ev.now _)
  | true =>
    rw [if_pos rfl]
    refine Ev.pos rfl ?_
    have hmm := hm
    unfold mayR at hmm
    simp only [Bool.and_eq_true, decide_eq_true_eq] at hmm
    obtain ⟨⟨⟨h1, h2⟩, h3⟩, _⟩ := hmm
    have hst : i64ok st := ⟨by omega, by omega⟩
    have hbs : i64ok (body.size : Int) := ⟨by omega, by omega⟩
    have l1 := itoaL_length hst
    have l2 := itoaL_length hbs
    have l4 := findR_len st
    have e1 := size_mk (itoaL st)
    have e2 := size_mk (itoaL (body.size : Int))
    have c16 : (⟨#[99, 111, 110, 116, 101, 110, 116, 45, 108, 101, 110, 103, 116, 104, 58, 32]⟩ : ByteArray).size = 16 := rfl
    have c14 : (⟨#[13, 10, 99, 111, 110, 110, 101, 99, 116, 105, 111, 110, 58, 32]⟩ : ByteArray).size = 14 := rfl
    have c5 : (⟨#[99, 108, 111, 115, 101]⟩ : ByteArray).size = 5 := rfl
    have c10 : (⟨#[107, 101, 101, 112, 45, 97, 108, 105, 118, 101]⟩ : ByteArray).size = 10 := rfl
    have c4 : (⟨#[13, 10, 13, 10]⟩ : ByteArray).size = 4 := rfl
    have c9 : (⟨#[72, 84, 84, 80, 47, 49, 46, 49, 32]⟩ : ByteArray).size = 9 := rfl
    have c1 : (⟨#[32]⟩ : ByteArray).size = 1 := rfl
    have c2 : (⟨#[58, 32]⟩ : ByteArray).size = 2 := rfl
    have c2' : (⟨#[13, 10]⟩ : ByteArray).size = 2 := rfl
    have loop : ∀ (g i : Nat) (x : ByteArray), i + g = l.length → bytes x = headS st ++ [13, 10] ++ hdrS (l.take i) → x.size + hdrLen (l.drop i) ≤ 1000000001000 → Ev (fun k => cloisterref09_Print.l0 k x (i : Int) st l body cl) (⟨(printR st l body cl).toArray⟩, 0) := by
      intro g
      induction g with
      | zero =>
        intro i x hi hx hxs
        obtain rfl : i = l.length := by omega
        rw [List.take_length] at hx
        refine Ev.step (fun k => by rw [cloisterref09_Print.l0]) ?_
        refine Ev.neg (by omega) (Ev.pos (by omega) (Ev.bindC (itoa_ok hbs) ?_))
        refine Ev.pos (by rw [ByteArray.size_append, c16, e2]; omega) (Ev.pos (by rw [ByteArray.size_append, ByteArray.size_append, c16, e2]; omega) ?_)
        cases cl with
        | true =>
          refine Ev.pos rfl (Ev.pos (by simp only [ByteArray.size_append, c16, c14, e2]; omega) (Ev.pos (by simp only [ByteArray.size_append, c16, c14, c5, e2]; omega) (Ev.pos (by simp only [ByteArray.size_append, c16, c14, c5, c4, e2]; omega) (Ev.const fun _ => ?_))))
          congr 2
          apply bytes_inj
          show bytes (x ++ _ ++ _ ++ _ ++ _ ++ _ ++ body) = printR st l body true
          simp only [bytes_append, hx]
          unfold printR footS endS clB coB
          simp [bytes]
        | false =>
          refine Ev.neg (by decide) (Ev.pos (by simp only [ByteArray.size_append, c16, c14, e2]; omega) (Ev.pos (by simp only [ByteArray.size_append, c16, c14, c10, e2]; omega) (Ev.pos (by simp only [ByteArray.size_append, c16, c14, c10, c4, e2]; omega) (Ev.const fun _ => ?_))))
          congr 2
          apply bytes_inj
          show bytes (x ++ _ ++ _ ++ _ ++ _ ++ _ ++ body) = printR st l body false
          simp only [bytes_append, hx]
          unfold printR footS endS clB coB
          simp [bytes]
      | succ g ih =>
        intro i x hi hx hxs
        have hlt : i < l.length := by omega
        have hel : rd_T61 l (i : Int) = l[i] := by simp [rd_T61, List.getD_eq_getElem?_getD, hlt]
        rw [List.drop_eq_getElem_cons hlt, hdrLen] at hxs
        refine Ev.step (fun k => by rw [cloisterref09_Print.l0]) ?_
        refine Ev.pos (by omega) (Ev.pos (by omega) ?_)
        rw [hel, wr_succ i (by omega)]
        refine Ev.pos (by omega) (Ev.pos (by rw [ByteArray.size_append]; omega) (Ev.pos (by simp only [ByteArray.size_append, c2]; omega) (Ev.pos (by simp only [ByteArray.size_append, c2]; omega) ?_)))
        refine ih (i + 1) _ (by omega) ?_ (by simp only [ByteArray.size_append, c2, c2']; omega)
        have ht : hdrS (l.take (i + 1)) = hdrS (l.take i) ++ hdrS [l[i]] := by
          rw [List.take_add_one, List.getElem?_eq_getElem hlt]
          have app : ∀ a b : List Pr, hdrS (a ++ b) = hdrS a ++ hdrS b := by
            intro a b
            induction a with
            | nil => rfl
            | cons y a ih => simp [hdrS, ih]
          exact app _ _
        rw [ht]
        simp only [bytes_append, hx]
        simp [hdrS, bytes]
    have start : Ev (fun k => cloisterref09_Print.j0 k (wordsOf (findR st reasonsS)) st l body cl) (⟨(printR st l body cl).toArray⟩, 0) := by
      refine Ev.step (fun k => by rw [cloisterref09_Print.j0]) ?_
      refine Ev.bindC (itoa_ok hst) ?_
      refine Ev.pos (by rw [e1]; omega) (Ev.pos (by simp only [ByteArray.size_append, c9, e1]; omega) (Ev.pos (by simp only [ByteArray.size_append, c9, c1, e1]; omega) (Ev.pos (by simp only [ByteArray.size_append, c9, c1, e1]; omega) ?_)))
      refine loop l.length 0 _ (by omega) ?_ (by rw [List.drop_zero]; simp only [ByteArray.size_append, c9, c1, c2', e1]; omega)
      simp only [bytes_append]
      unfold headS
      simp [hdrS, bytes]
    refine Ev.bindC (reason13_eq st) ?_
    by_cases h0 : (findR st reasonsS).2 = 0
    · have hw : wordsOf (findR st reasonsS) = (findR st reasonsS).1 := if_pos h0
      rw [hw] at start
      exact Ev.pos h0 start
    · have hw : wordsOf (findR st reasonsS) = ⟨#[83, 116, 97, 116, 117, 115]⟩ := if_neg h0
      rw [hw] at start
      exact Ev.neg h0 start
end Go.Proofs.YtlpmifofgacgiaaDoor.Q
namespace Go.Proofs.YtlpmifofgacgiaaDoor.Q
open Go.RowKit Go.Proofs.YtlpmifofgacgiaaDoorW.PrintWords

theorem index_multi (c : UInt8) (sep b : Bs) : ∀ a : Bs, c ∉ a → Lib.index (a ++ ((c :: sep) ++ b)) (c :: sep) = (a.length : Int) := by
  intro a
  induction a with
  | nil =>
    intro _
    have h : List.isPrefixOf (c :: sep) ((c :: sep) ++ b) = true := List.isPrefixOf_iff_prefix.2 (List.prefix_append _ _)
    show Lib.index (c :: (sep ++ b)) (c :: sep) = _
    rw [Lib.index, if_pos (show List.isPrefixOf (c :: sep) (c :: (sep ++ b)) = true from h)]
    rfl
  | cons x a ih =>
    intro h
    simp only [List.mem_cons, not_or] at h
    have hx : (c == x) = false := beq_eq_false_iff_ne.2 h.1
    rw [List.cons_append, Lib.index, if_neg (by simp [List.isPrefixOf, hx]), ih h.2]
    have : (((a.length : Int) == -1) = true) = False := eq_false (by rw [beq_iff_eq]; omega)
    rw [if_neg (by rw [this]; exact id)]
    simp
theorem cut_multi (c : UInt8) (sep a b : Bs) (h : c ∉ a) : Lib.cut (a ++ ((c :: sep) ++ b)) (c :: sep) = (a, b, true) := by
  unfold Lib.cut
  rw [index_multi c sep b a h, if_pos (by omega), Int.toNat_natCast, List.take_left' rfl]
  have e : (a ++ ((c :: sep) ++ b)).drop (a.length + (c :: sep).length) = b := by
    rw [← List.append_assoc]
    exact List.drop_left' (by rw [List.length_append])
  rw [e]
theorem cutF {S : ByteArray} {c : UInt8} {sep a b : Bs} (hS : bytes S = a ++ ((c :: sep) ++ b)) (h : c ∉ a) (hs : S.size < 4294967281) : strings_Cut.f S ⟨(c :: sep).toArray⟩ = some (⟨a.toArray⟩, ⟨b.toArray⟩, true) := by
  unfold strings_Cut.f
  rw [if_pos hs]
  have e : Lib.cut S.data.toList (c :: sep) = (a, b, true) := by rw [← cut_multi c sep a b h, ← hS]; rfl
  show some ((⟨(Lib.cut S.data.toList (c :: sep)).1.toArray⟩ : ByteArray), (⟨(Lib.cut S.data.toList (c :: sep)).2.1.toArray⟩ : ByteArray), (Lib.cut S.data.toList (c :: sep)).2.2) = _
  rw [e]

/-! ### bytes of a printed reply -/
theorem tok_not (c : UInt8) (h : tokB c = true) : c.toNat ≠ 13 ∧ c.toNat ≠ 58 := by
  have hall : ∀ n : Fin 256, tokB (UInt8.ofNat n.val) = true → n.val ≠ 13 ∧ n.val ≠ 58 := by decide +kernel
  have := hall ⟨c.toNat, UInt8.toNat_lt c⟩
  rw [show UInt8.ofNat c.toNat = c from UInt8.ofNat_toNat] at this
  exact this h
theorem name_not {s : Bs} (h : nameOk s = true) : (13 : UInt8) ∉ s ∧ (58 : UInt8) ∉ s ∧ s ≠ clB := by
  unfold nameOk at h
  rw [Bool.and_eq_true] at h
  obtain ⟨h1, h2⟩ := h
  refine ⟨fun hm => (tok_not _ (List.all_eq_true.1 h1 _ hm)).1 rfl, fun hm => (tok_not _ (List.all_eq_true.1 h1 _ hm)).2 rfl, fun e => ?_⟩
  rw [e] at h2
  revert h2
  decide
theorem value_not {s : Bs} (h : valueOk s = true) : (13 : UInt8) ∉ s := by
  unfold valueOk at h
  rw [Bool.and_eq_true] at h
  intro hm
  have := List.all_eq_true.1 h.1 _ hm
  revert this
  decide
theorem itoa_not {n : Int} (h : i64ok n) (c : UInt8) (hc : c.toNat ≠ 45 ∧ (c.toNat < 48 ∨ 57 < c.toNat)) : c ∉ itoaL n := by
  intro hm
  have := (itoa_bytes h).2 c hm
  omega
theorem head_not {st : Int} (h : i64ok st) : (13 : UInt8) ∉ headS st := by
  unfold headS
  simp only [List.mem_append, not_or]
  refine ⟨⟨⟨by decide, itoa_not h 13 (by decide)⟩, by decide⟩, fun hm => ?_⟩
  have := findR_words st 13 hm
  revert this
  decide

/-! ### the first line -/
theorem splitK_step (c : UInt8) (r : Bs) (k : Nat) (a : Bs) (h : c ∉ a) : Lib.splitK [c] 0 (k + 1) (a ++ c :: r) = a :: Lib.splitK [c] 0 k r := by
  have hi : Lib.index (a ++ c :: r) [c] = (a.length : Int) := index_multi c [] r a h
  rw [Lib.splitK, hi]
  have : (((a.length : Int) == -1) = true) = False := eq_false (by rw [beq_iff_eq]; omega)
  rw [if_neg (by rw [this]; exact id), Int.toNat_natCast, Nat.add_zero, List.take_left' rfl]
  have e : (a ++ c :: r).drop (a.length + [c].length) = r := by simp
  rw [e]
theorem splitF {S : ByteArray} {a b r : Bs} (hS : bytes S = a ++ 32 :: (b ++ 32 :: r)) (ha : (32 : UInt8) ∉ a) (hb : (32 : UInt8) ∉ b) (hs : S.size < 4294967281) :
    ∃ ls : List ByteArray, strings_SplitN.f S (⟨#[32]⟩ : ByteArray) 3 = some ls ∧ ls.map bytes = [a, b, r] := by
  unfold strings_SplitN.f
  have hlen : S.size = a.length + (b.length + (r.length + 1) + 1) := by rw [size_bytes, hS]; simp only [List.length_append, List.length_cons]
  rw [if_pos ⟨hs, by decide, by decide, by decide⟩]
  refine ⟨_, rfl, ?_⟩
  have e : min (3 : Int).toNat (S.size + 1) - 1 = 2 := by
    have : (3 : Int).toNat = 3 := rfl
    rw [this]
    omega
  rw [e]
  have h1 := Lib.splitB_data (⟨#[32]⟩ : ByteArray) 0 2 S
  refine h1.trans ?_
  show Lib.splitK [32] 0 2 (bytes S) = _
  rw [hS, splitK_step 32 _ 1 a ha, splitK_step 32 _ 0 b hb]
  rfl

/-! ### the fields -/
theorem fields_back (st : Int) (body : ByteArray) (cl : Bool) (tail : Bs) (hb : body.size ≤ 1048576) : ∀ (l : List Pr) (done : List Pr) (S : ByteArray), (∀ x ∈ l, fieldOk x = true) → done.length + l.length ≤ 1000 → bytes S = hdrS l ++ (footS body cl ++ tail) → S.size < 4294967281 →
    Ev (fun k => reply_read.l0 k S st done (⟨#[]⟩ : ByteArray) false) (st, done ++ l, body, cl, true) := by
  intro l
  induction l with
  | nil =>
    intro done S _ hd hS hs
    have hbi : i64ok (body.size : Int) := ⟨by omega, by omega⟩
    have hS1 : bytes S = (clB ++ [58, 32] ++ itoaL (body.size : Int)) ++ ((13 :: [10]) ++ (coB ++ [58, 32] ++ endS cl ++ [13, 10, 13, 10] ++ bytes body ++ tail)) := by
      rw [hS]; unfold footS hdrS; simp
    have n1 : (13 : UInt8) ∉ clB ++ [58, 32] ++ itoaL (body.size : Int) := by
      simp only [List.mem_append, not_or]
      exact ⟨⟨by decide, by decide⟩, itoa_not hbi 13 (by decide)⟩
    have hss := size_bytes S
    have c1 := cutF hS1 n1 hs
    have c2 := cutF (S := ⟨(clB ++ [58, 32] ++ itoaL (body.size : Int)).toArray⟩) (c := 58) (sep := [32]) (a := clB) (b := itoaL (body.size : Int)) (by rw [bytes_mk (clB ++ [58, 32] ++ itoaL (body.size : Int))]; simp) (by decide) (by rw [size_mk]; rw [hS1] at hss; simp only [List.length_append] at hss ⊢; omega)
    have c3 := cutF (S := ⟨(coB ++ [58, 32] ++ endS cl ++ [13, 10, 13, 10] ++ bytes body ++ tail).toArray⟩) (c := 13) (sep := [10, 13, 10]) (a := coB ++ [58, 32] ++ endS cl) (b := bytes body ++ tail) (by rw [bytes_mk (coB ++ [58, 32] ++ endS cl ++ [13, 10, 13, 10] ++ bytes body ++ tail)]; simp) (by cases cl <;> decide) (by rw [size_mk]; rw [hS1] at hss; simp only [List.length_append] at hss ⊢; omega)
    have hat := atoi_ok (s := ⟨(itoaL (body.size : Int)).toArray⟩) (v := (body.size : Int)) (by rw [size_mk]; have := itoaL_length hbi; omega) (by rw [bytes_mk (itoaL (body.size : Int)), itoaL_eq hbi.1 hbi.2]; exact atoi_itoa hbi.1 hbi.2)
    have hbl := size_bytes body
    have hsz : (⟨(bytes body ++ tail).toArray⟩ : ByteArray).size = body.size + tail.length := by rw [size_mk, List.length_append, hbl]
    refine Ev.step (fun k => by rw [reply_read.l0]) ?_
    refine Ev.bindC c1 (Ev.pos rfl (Ev.bindC c2 (Ev.pos rfl ?_)))
    refine Ev.pos (toList_bytes _) ?_
    refine Ev.bindC hat (Ev.bindC c3 (Ev.pos rfl (Ev.pos rfl ?_)))
    refine Ev.neg (by show ¬ ((body.size : Int) < 0); omega) (Ev.neg (by show ¬ ((body.size : Int) > ((⟨(bytes body ++ tail).toArray⟩ : ByteArray).size : Int)); rw [hsz]; omega) ?_)
    refine Ev.pos (by show (0 : Int) ≤ (body.size : Int); omega) (Ev.pos (by show (body.size : Int) ≤ ((⟨(bytes body ++ tail).toArray⟩ : ByteArray).size : Int); rw [hsz]; omega) (Ev.const fun _ => ?_))
    have eb : (⟨(bytes body ++ tail).toArray⟩ : ByteArray).extract 0 ((body.size : Int)).toNat = body := by
      apply bytes_inj
      rw [bytes_upto, Int.toNat_natCast, bytes_mk (bytes body ++ tail), hbl]
      exact List.take_left' rfl
    have ec : ((⟨(coB ++ [58, 32] ++ endS cl).toArray⟩ : ByteArray).toList == ([99, 111, 110, 110, 101, 99, 116, 105, 111, 110, 58, 32, 99, 108, 111, 115, 101] : List UInt8)) = cl := by
      rw [toList_bytes, bytes_mk (coB ++ [58, 32] ++ endS cl)]
      cases cl <;> decide
    show some (st, done, (⟨(bytes body ++ tail).toArray⟩ : ByteArray).extract 0 ((body.size : Int)).toNat, ((⟨(coB ++ [58, 32] ++ endS cl).toArray⟩ : ByteArray).toList == _), true) = _
    rw [eb, ec, List.append_nil]
  | cons x l ih =>
    intro done S hl hd hS hs
    have hx := hl x (by simp)
    unfold fieldOk at hx
    rw [Bool.and_eq_true] at hx
    obtain ⟨hn, hv⟩ := hx
    obtain ⟨n1, n2, n3⟩ := name_not hn
    have n4 := value_not hv
    have hS1 : bytes S = (bytes x.f0 ++ [58, 32] ++ bytes x.f1) ++ ((13 :: [10]) ++ (hdrS l ++ (footS body cl ++ tail))) := by
      rw [hS, hdrS]; simp
    have hss := size_bytes S
    rw [hS1] at hss
    have c1 := cutF hS1 (by
      simp only [List.mem_append, not_or]
      exact ⟨⟨n1, by decide⟩, n4⟩) hs
    have c2 := cutF (S := ⟨(bytes x.f0 ++ [58, 32] ++ bytes x.f1).toArray⟩) (c := 58) (sep := [32]) (a := bytes x.f0) (b := bytes x.f1) (by rw [bytes_mk (bytes x.f0 ++ [58, 32] ++ bytes x.f1)]; simp) n2 (by rw [size_mk]; simp only [List.length_append] at hss ⊢; omega)
    refine Ev.step (fun k => by rw [reply_read.l0]) ?_
    refine Ev.bindC c1 (Ev.pos rfl (Ev.bindC c2 (Ev.pos rfl ?_)))
    refine Ev.neg (fun e => n3 (by rw [toList_bytes, bytes_mk (bytes x.f0)] at e; exact e)) (Ev.pos (by simp only [List.length_cons] at hd; omega) ?_)
    have := ih (done ++ [x]) ⟨(hdrS l ++ (footS body cl ++ tail)).toArray⟩ (fun y hy => hl y (by simp [hy])) (by simp only [List.length_append, List.length_cons, List.length_nil] at hd ⊢; omega) (bytes_mk _) (by rw [size_mk]; simp only [List.length_append] at hss ⊢; omega)
    rw [List.append_assoc] at this
    have ex : (⟨⟨(bytes x.f0).toArray⟩, ⟨(bytes x.f1).toArray⟩⟩ : Pr) = x := by rw [mk_bytes, mk_bytes]
    refine Ev.congr (fun k => ?_) this
    show reply_read.l0 k _ st (done ++ [(⟨⟨(bytes x.f0).toArray⟩, ⟨(bytes x.f1).toArray⟩⟩ : Pr)]) _ _ = _
    rw [ex]
theorem read_back (st : Int) (l : List Pr) (body : ByteArray) (cl : Bool) (tail : Bs) (S : ByteArray) (hm : mayR st l body = true) (hS : bytes S = printR st l body cl ++ tail) (hs : S.size < 4294967281) :
    Ev (fun k => reply_read.f k S) (st, l, body, cl, true) := by
  unfold mayR at hm
  simp only [Bool.and_eq_true, decide_eq_true_eq] at hm
  obtain ⟨⟨⟨h1, h2⟩, h3⟩, h4⟩ := hm
  have hst : i64ok st := ⟨by omega, by omega⟩
  have hS1 : bytes S = headS st ++ ((13 :: [10]) ++ (hdrS l ++ (footS body cl ++ tail))) := by
    rw [hS]; unfold printR; simp
  have hss := size_bytes S
  rw [hS1] at hss
  have c1 := cutF hS1 (head_not hst) hs
  have hw : bytes (⟨(headS st).toArray⟩ : ByteArray) = [72, 84, 84, 80, 47, 49, 46, 49] ++ 32 :: (itoaL st ++ 32 :: bytes (wordsOf (findR st reasonsS))) := by
    rw [bytes_mk (headS st)]
    unfold headS
    simp
  obtain ⟨ls, c2, hls⟩ := splitF hw (by decide) (itoa_not hst 32 (by decide)) (by rw [size_mk]; simp only [List.length_append] at hss; omega)
  have hl3 : ls.length = 3 := by
    have := congrArg List.length hls
    rw [List.length_map] at this
    exact this
  have hel : bytes (rdOf ByteArray.empty ls 1) = itoaL st := by
    match ls, hl3, hls with
    | [x, y, z], _, hls =>
      simp only [List.map_cons, List.map_nil, List.cons.injEq, and_true] at hls
      exact hls.2.1
  have hat := atoi_ok (s := rdOf ByteArray.empty ls 1) (v := st) (by rw [size_bytes, hel]; have := itoaL_length hst; omega) (by rw [hel, itoaL_eq hst.1 hst.2]; exact atoi_itoa hst.1 hst.2)
  unfold reply_read.f
  refine Ev.bindC c1 (Ev.bindC c2 (Ev.pos rfl ?_))
  have e3 : ((ls.length : Int) != 3) = false := by rw [hl3]; rfl
  rw [e3]
  refine Ev.step (fun k => by rw [reply_read.j0, if_neg (by decide)]) ?_
  refine Ev.pos (by rw [hl3]; decide) (Ev.bindC hat ?_)
  have := fields_back st body cl tail h3 l [] ⟨(hdrS l ++ (footS body cl ++ tail)).toArray⟩ (fun x hx => List.all_eq_true.1 h4 x hx) (by simp only [List.length_nil]; omega) (bytes_mk _) (by rw [size_mk]; simp only [List.length_append] at hss ⊢; omega)
  rw [List.nil_append] at this
  exact this
theorem hdr_le (st : Int) (l : List Pr) (body : ByteArray) (cl : Bool) : hdrLen l ≤ (printR st l body cl).length := by
  have h := hdrS_len l
  unfold printR
  simp only [List.length_append]
  omega
theorem parse_back (st : Int) (l : List Pr) (body : ByteArray) (cl : Bool) (tail : Bs) (S : ByteArray) (hm : mayR st l body = true) (hS : bytes S = printR st l body cl ++ tail) (hs : S.size < 4294967281) :
    Ev (fun k => reply_Parse.f k S) (st, l, body, cl, ((printR st l body cl).length : Int), 0) := by
  have hss := size_bytes S
  rw [hS, List.length_append] at hss
  have hle := hdr_le st l body cl
  have hmm := hm
  unfold mayR at hmm
  simp only [Bool.and_eq_true, decide_eq_true_eq] at hmm
  obtain ⟨⟨⟨h1, h2⟩, h3⟩, h4⟩ := hmm
  have hp := print_ev9 st l body cl (by omega) (by omega)
  rw [if_pos hm] at hp
  unfold reply_Parse.f
  refine Ev.bind (read_back st l body cl tail S hm hS hs) (Ev.bind hp (Ev.pos rfl (Ev.pos rfl ?_)))
  have hsz : (⟨(printR st l body cl).toArray⟩ : ByteArray).size = (printR st l body cl).length := size_mk _
  have hpre : strings_HasPrefix.f S ⟨(printR st l body cl).toArray⟩ = some true := by
    unfold strings_HasPrefix.f stringslite_HasPrefix.f
    rw [hsz, if_pos (by omega), if_pos (by omega), if_pos (by omega), Option.bind_some, toList_bytes, toList_bytes, bytes_upto, Int.toNat_natCast, bytes_mk (printR st l body cl), hS, List.take_left' rfl, beq_self_eq_true]
  refine Ev.bindC hpre (Ev.pos rfl ?_)
  show Ev (fun _ => some (st, l, body, cl, ((⟨(printR st l body cl).toArray⟩ : ByteArray).size : Int), (0 : Int))) _
  rw [hsz]
  exact Ev.now _
end Go.Proofs.YtlpmifofgacgiaaDoor.Q
