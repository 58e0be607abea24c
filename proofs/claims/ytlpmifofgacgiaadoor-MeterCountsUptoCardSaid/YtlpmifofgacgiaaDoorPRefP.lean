/- The plain law of the reference's Parse: its steps (no program). -/
import Derived.Test.YtlpmifofgacgiaaDoorPX
import Derived.Lib.CutLaws
import Derived.Test.YtlpmifofgacgiaaDoorK
namespace Go.Proofs.YtlpmifofgacgiaaDoor.Q
open Go.RowKit Go.Proofs.YtlpmifofgacgiaaDoorW.PrintWords

theorem cut_total (S sep : ByteArray) (hs : S.size < 4294967281) : ∃ a b f, strings_Cut.f S sep = some (a, b, f) ∧ a.size ≤ S.size ∧ b.size ≤ S.size ∧ (f = true → a.size + b.size + sep.size ≤ S.size) := by
  unfold strings_Cut.f
  rw [if_pos hs]
  refine ⟨_, _, _, rfl, ?_⟩
  have hss := size_bytes S
  have hse := size_bytes sep
  have key : (Lib.cut (bytes S) (bytes sep)).1.length ≤ S.size ∧ (Lib.cut (bytes S) (bytes sep)).2.1.length ≤ S.size ∧ ((Lib.cut (bytes S) (bytes sep)).2.2 = true → (Lib.cut (bytes S) (bytes sep)).1.length + (Lib.cut (bytes S) (bytes sep)).2.1.length + sep.size ≤ S.size) := by
    unfold Lib.cut
    by_cases h : 0 ≤ Lib.index (bytes S) (bytes sep)
    · rw [if_pos h]
      rcases Lib.indexB_cases S sep with e | ⟨i, e, hi⟩
      · have e2 : Lib.index (bytes S) (bytes sep) = -1 := e
        omega
      · have e2 : Lib.index (bytes S) (bytes sep) = (i : Int) := e
        rw [e2, Int.toNat_natCast]
        simp only [List.length_take, List.length_drop]
        omega
    · rw [if_neg h]
      simp
      omega
  have e1 := size_mk (Lib.cut (bytes S) (bytes sep)).1
  have e2 := size_mk (Lib.cut (bytes S) (bytes sep)).2.1
  obtain ⟨k1, k2, k3⟩ := key
  refine ⟨?_, ?_, fun hf => ?_⟩
  · show (⟨(Lib.cut (bytes S) (bytes sep)).1.toArray⟩ : ByteArray).size ≤ _
    rw [e1]; exact k1
  · show (⟨(Lib.cut (bytes S) (bytes sep)).2.1.toArray⟩ : ByteArray).size ≤ _
    rw [e2]; exact k2
  · show (⟨(Lib.cut (bytes S) (bytes sep)).1.toArray⟩ : ByteArray).size + (⟨(Lib.cut (bytes S) (bytes sep)).2.1.toArray⟩ : ByteArray).size + sep.size ≤ _
    rw [e1, e2]
    exact k3 hf
theorem atoi_total (s : ByteArray) (hs : s.size ≤ 281474976710656) : ∃ z e, strconv_Atoi.f s = some (z, e) := by
  by_cases h : ∃ v, Lib.atoiAll (bytes s) = .ok v
  · obtain ⟨v, hv⟩ := h
    exact ⟨_, _, atoi_ok hs hv⟩
  · obtain ⟨z, hz⟩ := atoi_bad hs (fun v e => h ⟨v, e⟩)
    exact ⟨_, _, hz⟩
theorem hdrLen_app (a b : List Pr) : hdrLen (a ++ b) = hdrLen a + hdrLen b := by
  induction a with
  | nil => simp [hdrLen]
  | cons x a ih => simp only [List.cons_append, hdrLen, ih]; omega

theorem readl_total : ∀ (n : Nat) (S : ByteArray) (st : Int) (done : List Pr) (bd : ByteArray) (cl : Bool), S.size ≤ n → S.size < 4294967281 → done.length + n ≤ 8589934592 → bd.size ≤ 4294967281 →
    ∃ r, Ev (fun k => reply_read.l0 k S st done bd cl) r ∧ hdrLen r.2.1 ≤ hdrLen done + 4 * S.size ∧ r.2.2.1.size ≤ 4294967281 := by
  intro n
  induction n using Nat.strongRecOn with
  | _ n ih =>
    intro S st done bd cl hn hs hd hbd
    have c2s : (⟨#[13, 10]⟩ : ByteArray).size = 2 := rfl
    have c3s : (⟨#[58, 32]⟩ : ByteArray).size = 2 := rfl
    obtain ⟨a, b, f, h1, ha, hb, hf⟩ := cut_total S (⟨#[13, 10]⟩ : ByteArray) hs
    have stop : ∃ r : Int × List Pr × ByteArray × Bool × Bool, r = (st, done, bd, cl, false) ∧ hdrLen r.2.1 ≤ hdrLen done + 4 * S.size ∧ r.2.2.1.size ≤ 4294967281 := ⟨_, rfl, by simp, hbd⟩
    obtain ⟨r0, hr0, hr1, hr2⟩ := stop
    have start : ∀ r, Ev (fun k => if f = true then ((strings_Cut.f a (⟨#[58, 32]⟩ : ByteArray)).bind fun bt146 => (if bt146.2.2 = true then (if bt146.1.toList = ([99, 111, 110, 116, 101, 110, 116, 45, 108, 101, 110, 103, 116, 104] : List UInt8) then ((strconv_Atoi.f bt146.2.1).bind fun bt149 => ((strings_Cut.f b (⟨#[13, 10, 13, 10]⟩ : ByteArray)).bind fun bt151 => (if bt149.2.isNone = true then (if bt151.2.2 = true then (if bt149.1 < 0 then (some (st, done, bd, cl, false)) else (if bt149.1 > (bt151.2.1.size : Int) then (some (st, done, bd, cl, false)) else (if 0 ≤ bt149.1 then (if bt149.1 ≤ (bt151.2.1.size : Int) then (some (st, done, bt151.2.1.extract 0 (bt149.1 : Int).toNat, (bt151.1.toList == ([99, 111, 110, 110, 101, 99, 116, 105, 111, 110, 58, 32, 99, 108, 111, 115, 101] : List UInt8)), true)) else (none)) else (none)))) else (some (st, done, bd, cl, false))) else (some (st, done, bd, cl, false))))) else (if done.length < 4398046511104 then (reply_read.l0 k b st (done ++ [(⟨bt146.1, bt146.2.1⟩ : Pr)]) bd cl) else (none))) else (some (st, done, bd, cl, false)))) else (some (st, done, bd, cl, false))) r → Ev (fun k => reply_read.l0 k S st done bd cl) r := by
      intro r h
      refine Ev.step (fun k => by rw [reply_read.l0]) ?_
      exact Ev.bindC h1 h
    cases f with
    | false => exact ⟨_, start _ (Ev.neg (by decide) (Ev.now (st, done, bd, cl, false))), by simp, hbd⟩
    | true =>
      have hab := hf rfl
      rw [c2s] at hab
      obtain ⟨a2, b2, f2, h2, ha2, hb2, hf2⟩ := cut_total a (⟨#[58, 32]⟩ : ByteArray) (by omega)
      cases f2 with
      | false => exact ⟨_, start _ (Ev.pos rfl (Ev.bindC h2 (Ev.neg (by show ¬ (false = true); decide) (Ev.now (st, done, bd, cl, false))))), by simp, hbd⟩
      | true =>
        have hab2 := hf2 rfl
        rw [c3s] at hab2
        by_cases hk : a2.toList = ([99, 111, 110, 116, 101, 110, 116, 45, 108, 101, 110, 103, 116, 104] : List UInt8)
        · obtain ⟨z, e, h3⟩ := atoi_total b2 (by omega)
          obtain ⟨a4, b4, f4, h4, ha4, hb4, _⟩ := cut_total b (⟨#[13, 10, 13, 10]⟩ : ByteArray) (by omega)
          have mid : ∀ r, Ev (fun _ => (if e.isNone = true then (if f4 = true then (if z < 0 then (some (st, done, bd, cl, false)) else (if z > (b4.size : Int) then (some (st, done, bd, cl, false)) else (if 0 ≤ z then (if z ≤ (b4.size : Int) then (some (st, done, b4.extract 0 (z : Int).toNat, (a4.toList == ([99, 111, 110, 110, 101, 99, 116, 105, 111, 110, 58, 32, 99, 108, 111, 115, 101] : List UInt8)), true)) else (none)) else (none)))) else (some (st, done, bd, cl, false))) else (some (st, done, bd, cl, false)))) r → Ev (fun k => reply_read.l0 k S st done bd cl) r :=
            fun r h => start r (Ev.pos rfl (Ev.bindC h2 (Ev.pos rfl (Ev.pos hk (Ev.bindC h3 (Ev.bindC h4 h))))))
          by_cases g1 : e.isNone = true
          · by_cases g2 : f4 = true
            · by_cases g3 : z < 0
              · exact ⟨_, mid _ (Ev.pos g1 (Ev.pos g2 (Ev.pos g3 (Ev.now (st, done, bd, cl, false))))), by simp, hbd⟩
              · by_cases g4 : z > (b4.size : Int)
                · exact ⟨_, mid _ (Ev.pos g1 (Ev.pos g2 (Ev.neg g3 (Ev.pos g4 (Ev.now (st, done, bd, cl, false)))))), by simp, hbd⟩
                · refine ⟨_, mid _ (Ev.pos g1 (Ev.pos g2 (Ev.neg g3 (Ev.neg g4 (Ev.pos (by omega) (Ev.pos (by omega) (Ev.now _))))))), by simp, ?_⟩
                  show (b4.extract 0 z.toNat).size ≤ _
                  rw [size_bytes, bytes_upto, List.length_take, ← size_bytes]
                  omega
            · exact ⟨_, mid _ (Ev.pos g1 (Ev.neg g2 (Ev.now (st, done, bd, cl, false)))), by simp, hbd⟩
          · exact ⟨_, mid _ (Ev.neg g1 (Ev.now (st, done, bd, cl, false))), by simp, hbd⟩
        · obtain ⟨r, e1, e2, e3⟩ := ih b.size (by omega) b st (done ++ [(⟨a2, b2⟩ : Pr)]) bd cl (Nat.le_refl _) (by omega) (by simp only [List.length_append, List.length_cons, List.length_nil]; omega) hbd
          refine ⟨r, start _ (Ev.pos rfl (Ev.bindC h2 (Ev.pos rfl (Ev.neg hk (Ev.pos (by omega) e1))))), ?_, e3⟩
          rw [hdrLen_app] at e2
          simp only [hdrLen] at e2
          omega
theorem splitK_le (sep : Bs) : ∀ (k : Nat) (s : Bs), ∀ x ∈ Lib.splitK sep 0 k s, x.length ≤ s.length := by
  intro k
  induction k with
  | zero => intro s x hx; rw [Lib.splitK, List.mem_singleton] at hx; rw [hx]; exact Nat.le_refl _
  | succ k ih =>
    intro s x hx
    rw [Lib.splitK] at hx
    split at hx
    · rw [List.mem_singleton] at hx; rw [hx]; exact Nat.le_refl _
    · rcases List.mem_cons.1 hx with rfl | hx
      · rw [List.length_take]; omega
      · have := ih _ x hx
        rw [List.length_drop] at this
        omega
theorem read_total (S : ByteArray) (hs : S.size < 4294967281) : ∃ r, Ev (fun k => reply_read.f k S) r ∧ hdrLen r.2.1 ≤ 4 * S.size ∧ r.2.2.1.size ≤ 4294967281 := by
  obtain ⟨a, b, f, h1, ha, hb, hf⟩ := cut_total S (⟨#[13, 10]⟩ : ByteArray) hs
  have h2 : ∃ ls, strings_SplitN.f a (⟨#[32]⟩ : ByteArray) 3 = some ls ∧ ∀ x ∈ ls, x.size ≤ a.size := by
    unfold strings_SplitN.f
    rw [if_pos ⟨by omega, by decide, by decide, by decide⟩]
    refine ⟨_, rfl, fun x hx => ?_⟩
    have h1 := Lib.splitB_data (⟨#[32]⟩ : ByteArray) 0 (min (3 : Int).toNat (a.size + 1) - 1) a
    have hm : bytes x ∈ Lib.splitK (bytes (⟨#[32]⟩ : ByteArray)) 0 (min (3 : Int).toNat (a.size + 1) - 1) (bytes a) := by
      have := List.mem_map_of_mem (f := fun (y : ByteArray) => y.data.toList) hx
      rw [h1] at this
      exact this
    rw [size_bytes x, size_bytes a]
    exact splitK_le _ _ _ _ hm
  obtain ⟨ls, h2, hls⟩ := h2
  have stop : Ev (fun k => reply_read.j0 k b ls true 0 (⟨#[]⟩ : ByteArray) false) ((0 : Int), ([] : List Pr), (⟨#[]⟩ : ByteArray), false, false) := by
    refine Ev.step (fun k => by rw [reply_read.j0, if_pos rfl]) ?_
    exact Ev.now _
  unfold reply_read.f
  by_cases g1 : f = true
  · cases g2 : ((ls.length : Int) != 3) with
    | true =>
      exact ⟨_, Ev.bindC h1 (Ev.bindC h2 (Ev.pos g1 (by rw [g2]; exact stop))), by simp [hdrLen], by decide⟩
    | false =>
      have hl3 : (ls.length : Int) = 3 := bne_eq_false_iff_eq.1 g2
      have hb1 : (rdOf ByteArray.empty ls 1).size ≤ 281474976710656 := by
        have hlt : 1 < ls.length := by omega
        have hm : rdOf ByteArray.empty ls 1 ∈ ls := by
          unfold rdOf
          rw [List.getD_eq_getElem?_getD, show (1 : Int).toNat = 1 from rfl, List.getElem?_eq_getElem hlt]
          exact List.getElem_mem hlt
        have := hls _ hm
        omega
      obtain ⟨z, e, h3⟩ := atoi_total _ hb1
      obtain ⟨r, e1, e2, e3⟩ := readl_total b.size b z [] ⟨#[]⟩ false (Nat.le_refl _) (by omega) (by simp; omega) (by decide)
      refine ⟨r, Ev.bindC h1 (Ev.bindC h2 (Ev.pos g1 ?_)), by simp only [hdrLen] at e2; omega, e3⟩
      rw [g2]
      refine Ev.step (fun k => by rw [reply_read.j0, if_neg (by decide)]) ?_
      exact Ev.pos (by omega) (Ev.bindC h3 e1)
  · exact ⟨_, Ev.bindC h1 (Ev.bindC h2 (Ev.neg g1 stop)), by simp [hdrLen], by decide⟩

/-- What a reading of a text tells: OK is 0. -/
def Told (S : Bs) (r : Int × List Pr × ByteArray × Bool × Int × Int) : Prop :=
  (r.2.2.2.2.2 = 0 ∧ mayR r.1 r.2.1 r.2.2.1 = true ∧ (∃ tail, S = printR r.1 r.2.1 r.2.2.1 r.2.2.2.1 ++ tail) ∧ r.2.2.2.2.1 = ((printR r.1 r.2.1 r.2.2.1 r.2.2.2.1).length : Int)) ∨ (r = (0, [], ⟨#[]⟩, false, 0, 90))
theorem parse_total (S : ByteArray) (hs : S.size < 4294967281) : ∃ r, Ev (fun k => reply_Parse.f k S) r ∧ Told (bytes S) r := by
  obtain ⟨q, h1, h2, h3⟩ := read_total S hs
  have hp := print_ev9 q.1 q.2.1 q.2.2.1 q.2.2.2.1 (by omega) (by omega)
  unfold reply_Parse.f
  have bad : Told (bytes S) ((0 : Int), ([] : List Pr), (⟨#[]⟩ : ByteArray), false, (0 : Int), (90 : Int)) := .inr rfl
  by_cases hm : mayR q.1 q.2.1 q.2.2.1 = true
  · rw [if_pos hm] at hp
    by_cases hok : q.2.2.2.2 = true
    · have hsz : (⟨(printR q.1 q.2.1 q.2.2.1 q.2.2.2.1).toArray⟩ : ByteArray).size = (printR q.1 q.2.1 q.2.2.1 q.2.2.2.1).length := size_mk _
      have hss := size_bytes S
      have hpre : ∃ b, strings_HasPrefix.f S ⟨(printR q.1 q.2.1 q.2.2.1 q.2.2.2.1).toArray⟩ = some b ∧ (b = true → ∃ tail, bytes S = printR q.1 q.2.1 q.2.2.1 q.2.2.2.1 ++ tail) := by
        unfold strings_HasPrefix.f stringslite_HasPrefix.f
        rw [hsz]
        by_cases hl : (S.size : Int) ≥ ((printR q.1 q.2.1 q.2.2.1 q.2.2.2.1).length : Int)
        · rw [if_pos hl, if_pos (by omega), if_pos (by omega), Option.bind_some]
          refine ⟨_, rfl, fun hb => ?_⟩
          rw [beq_iff_eq, toList_bytes, toList_bytes, bytes_upto, Int.toNat_natCast, bytes_mk (printR q.1 q.2.1 q.2.2.1 q.2.2.2.1)] at hb
          exact ⟨(bytes S).drop (printR q.1 q.2.1 q.2.2.1 q.2.2.2.1).length, by
            have := List.take_append_drop (printR q.1 q.2.1 q.2.2.1 q.2.2.2.1).length (bytes S)
            rw [hb] at this
            exact this.symm⟩
        · rw [if_neg hl, Option.bind_some]
          exact ⟨_, rfl, fun hb => by cases hb⟩
      obtain ⟨b, hb1, hb2⟩ := hpre
      cases b with
      | true =>
        refine ⟨(q.1, q.2.1, q.2.2.1, q.2.2.2.1, ((⟨(printR q.1 q.2.1 q.2.2.1 q.2.2.2.1).toArray⟩ : ByteArray).size : Int), 0), Ev.bind h1 (Ev.bind hp (Ev.pos hok (Ev.pos rfl (Ev.bindC hb1 (Ev.pos rfl (Ev.now _)))))), .inl ⟨rfl, hm, hb2 rfl, by rw [hsz]⟩⟩
      | false => exact ⟨_, Ev.bind h1 (Ev.bind hp (Ev.pos hok (Ev.pos rfl (Ev.bindC hb1 (Ev.neg (by decide) (Ev.now _)))))), bad⟩
    · exact ⟨_, Ev.bind h1 (Ev.bind hp (Ev.neg hok (Ev.now _))), bad⟩
  · rw [if_neg hm] at hp
    by_cases hok : q.2.2.2.2 = true
    · exact ⟨_, Ev.bind h1 (Ev.bind hp (Ev.pos hok (Ev.neg (by decide) (Ev.now _)))), bad⟩
    · exact ⟨_, Ev.bind h1 (Ev.bind hp (Ev.neg hok (Ev.now _))), bad⟩
end Go.Proofs.YtlpmifofgacgiaaDoor.Q
namespace Go.Proofs.YtlpmifofgacgiaaDoor.Q
open Go.RowKit Go.Proofs.YtlpmifofgacgiaaDoorW.PrintWords Go.Proofs.YtlpmifofgacgiaaDoorW.PrintLast Go.Proofs.YtlpmifofgacgiaaDoorW.PrintMore
attribute [local go_sem] max2_int min2_int max_two min_two max_three min_three max_four min_four   -- for this text's walks alone
set_option linter.unusedVariables false
set_option linter.unusedSimpArgs false

/-! ### cloisterref09_digits: function 62 -/
def cloisterref09_digits.l0 : Nat → ByteArray → Int → Int → Option (Int)
 | 0, _, _, _ => none
 | k + 1, x0, x3, x4 => if x4 < (x0.size : Int) then (if 0 ≤ x4 then (if (bt x0 x4) < 48 then (some (-1)) else (if (bt x0 x4) > 57 then (some (-1)) else (cloisterref09_digits.l0 k x0 (wrap64 ((wrap64 (10 * x3)) + (((bt x0 x4) - 48) % 256))) (wrap64 (x4 + 1))))) else (none)) else (if (x0.size : Int) < 1 then (some (-1)) else (if (x0.size : Int) > 8 then (some (-1)) else (some x3)))
def cloisterref09_digits.f (k : Nat) (a0 : ByteArray) : Option (Int) := cloisterref09_digits.l0 k a0 0 0
theorem cloisterref09_digits.mono_l : ∀ k, (∀ y0 y1 y2, LeO (cloisterref09_digits.l0 k y0 y1 y2) (cloisterref09_digits.l0 (k + 1) y0 y1 y2))
 | 0 => fun _ _ _ r h => by simp [cloisterref09_digits.l0] at h
 | k + 1 => by
  have ih0 := cloisterref09_digits.mono_l k
  ·intro y0 y1 y2
   unfold cloisterref09_digits.l0
   repeat' first
   | (with_reducible exact ih0 _ _ _)
   | (with_reducible exact LeO.refl _)
   | (with_reducible exact LeO.none _)
   | (with_reducible refine LeO.ite ?_ ?_)
   | (with_reducible refine LeO.bind ?_ (fun _ => ?_))
   | exact ih0 _ _ _
   | exact LeO.none _
   | refine LeO.ite ?_ ?_
   | refine LeO.bind ?_ (fun _ => ?_)
theorem cloisterref09_digits.mono : ∀ a0 k, LeO (cloisterref09_digits.f k a0) (cloisterref09_digits.f (k + 1) a0) := by
 intro a0 k
 have ih0 := cloisterref09_digits.mono_l k
 unfold cloisterref09_digits.f
 repeat' first
   | (with_reducible exact ih0 _ _ _)
   | (with_reducible exact LeO.refl _)
   | (with_reducible exact LeO.none _)
   | (with_reducible refine LeO.ite ?_ ?_)
   | (with_reducible refine LeO.bind ?_ (fun _ => ?_))
   | exact ih0 _ _ _
   | exact LeO.none _
   | refine LeO.ite ?_ ?_
   | refine LeO.bind ?_ (fun _ => ?_)
set_option maxHeartbeats 8000000 in
set_option maxRecDepth 100000 in
theorem cloisterref09_digits.calls (k : Nat) (a0 : ByteArray) (r : Int) (w : World) (h : cloisterref09_digits.f k a0 = some r) :
  Calls Tryd.prog 62 #[.string a0] w fun e w' => e = .returned (.int .i64 r) ∧ Drawn0 w w' := by
 have H : (cloisterref09_digits.l0 k a0 0 0) = some r := h
 clear h
 have H' := Aside0.mk H
 clear H
 go_enter Tryd.func62, Tryd.ntmps62
 go_wp2
 go_loopg [3, 4] k (fun kq v3 v4 w' => ∃ (x3_1 : Int) (x4_1 : Int), v3 = .int .i64 x3_1 ∧ v4 = .int .i64 x4_1 ∧ Aside0 (cloisterref09_digits.l0 kq a0 x3_1 x4_1 = some r) ∧ Aside0 (kq ≤ k) ∧ Drawn0 w w')
 case atStart => exact ⟨(0), (0), meq, meq, H', ⟨Nat.le_refl _⟩, by repeat (first | exact Drawn0.refl _ | apply Drawn0.step)⟩
 case round =>
  clear H'
  obtain ⟨x3_1, x4_1, rfl, rfl, HA, HK1, ⟨m1, rfl⟩⟩ := hrel
  cases gk with
  | zero => exact absurd HA.out (by simp [cloisterref09_digits.l0])
  | succ k1 =>
   have H := HA.out
   clear HA
   simp only [cloisterref09_digits.l0] at H
   by_cases c2 : x4_1 < (a0.size : Int)
   ·rw [if_pos c2] at H
    have c2b0 : decide (x4_1 < (a0.size : Int)) = true := decide_eq_true c2
    clear c2
    obtain ⟨c3, H⟩ := ifn H
    have c3b0 : decide (0 ≤ x4_1) = true := decide_eq_true c3
    clear c3
    by_cases c5 : (bt a0 x4_1) < 48
    ·rw [if_pos c5] at H
     have c5b0 : decide ((bt a0 x4_1) < 48) = true := decide_eq_true c5
     clear c5
     obtain rfl := Option.some.inj H
     have p4 : 0 ≤ (x4_1 : Int) := of_decide_eq_true (by first | (with_reducible assumption) | assumption)
     have q4 : x4_1 < (a0.size : Int) := of_decide_eq_true (by first | (with_reducible assumption) | assumption)
     have hx4 := bt_at a0 x4_1
     replace p4 := eq_true p4
     replace q4 := eq_true q4
     go_wp2
     go_ret
     exact ⟨by first | rfl | (simp; done) | (simp [*]; done), by repeat (first | exact Drawn0.refl _ | apply Drawn0.step)⟩
    ·rw [if_neg c5] at H
     have c5b0 : decide ((bt a0 x4_1) < 48) = false := decide_eq_false c5
     clear c5
     by_cases c7 : (bt a0 x4_1) > 57
     ·rw [if_pos c7] at H
      have c7b0 : decide (57 < (bt a0 x4_1)) = true := decide_eq_true c7
      clear c7
      obtain rfl := Option.some.inj H
      have p4 : 0 ≤ (x4_1 : Int) := of_decide_eq_true (by first | (with_reducible assumption) | assumption)
      have q4 : x4_1 < (a0.size : Int) := of_decide_eq_true (by first | (with_reducible assumption) | assumption)
      have hx4 := bt_at a0 x4_1
      replace p4 := eq_true p4
      replace q4 := eq_true q4
      have p6 : 0 ≤ (x4_1 : Int) := of_decide_eq_true (by first | (with_reducible assumption) | assumption)
      have q6 : x4_1 < (a0.size : Int) := of_decide_eq_true (by first | (with_reducible assumption) | assumption)
      have hx6 := bt_at a0 x4_1
      replace p6 := eq_true p6
      replace q6 := eq_true q6
      go_wp2
      go_ret
      exact ⟨by first | rfl | (simp; done) | (simp [*]; done), by repeat (first | exact Drawn0.refl _ | apply Drawn0.step)⟩
     ·rw [if_neg c7] at H
      have c7b0 : decide (57 < (bt a0 x4_1)) = false := decide_eq_false c7
      clear c7
      have H' := Aside0.mk H
      clear H
      have p4 : 0 ≤ (x4_1 : Int) := of_decide_eq_true (by first | (with_reducible assumption) | assumption)
      have q4 : x4_1 < (a0.size : Int) := of_decide_eq_true (by first | (with_reducible assumption) | assumption)
      have hx4 := bt_at a0 x4_1
      replace p4 := eq_true p4
      replace q4 := eq_true q4
      have p6 : 0 ≤ (x4_1 : Int) := of_decide_eq_true (by first | (with_reducible assumption) | assumption)
      have q6 : x4_1 < (a0.size : Int) := of_decide_eq_true (by first | (with_reducible assumption) | assumption)
      have hx6 := bt_at a0 x4_1
      replace p6 := eq_true p6
      replace q6 := eq_true q6
      have p8 : 0 ≤ (x4_1 : Int) := of_decide_eq_true (by first | (with_reducible assumption) | assumption)
      have q8 : x4_1 < (a0.size : Int) := of_decide_eq_true (by first | (with_reducible assumption) | assumption)
      have hx8 := bt_at a0 x4_1
      replace p8 := eq_true p8
      replace q8 := eq_true q8
      go_wp2
      go_roundg k1
      case measure => have := HK1.out; omega
      case rel => exact ⟨(wrap64 ((wrap64 (10 * x3_1)) + (((bt a0 x4_1) - 48) % 256))), (wrap64 (x4_1 + 1)), meq, meq, H', ⟨by have := HK1.out; omega⟩, by repeat (first | exact Drawn0.refl _ | apply Drawn0.step)⟩
   ·rw [if_neg c2] at H
    have c2b0 : decide (x4_1 < (a0.size : Int)) = false := decide_eq_false c2
    clear c2
    by_cases c9 : (a0.size : Int) < 1
    ·rw [if_pos c9] at H
     have c9b0 : decide ((a0.size : Int) < 1) = true := decide_eq_true c9
     have c9b1 : decide (a0.size < 1) = true := decide_eq_true (by omega)
     clear c9
     obtain rfl := Option.some.inj H
     go_wp2
     go_ret
     exact ⟨by first | rfl | (simp; done) | (simp [*]; done), by repeat (first | exact Drawn0.refl _ | apply Drawn0.step)⟩
    ·rw [if_neg c9] at H
     have c9b0 : decide ((a0.size : Int) < 1) = false := decide_eq_false c9
     have c9b1 : decide (a0.size < 1) = false := decide_eq_false (by omega)
     clear c9
     by_cases c10 : (a0.size : Int) > 8
     ·rw [if_pos c10] at H
      have c10b0 : decide (8 < (a0.size : Int)) = true := decide_eq_true c10
      have c10b1 : decide (8 < a0.size) = true := decide_eq_true (by omega)
      clear c10
      obtain rfl := Option.some.inj H
      go_wp2
      go_ret
      exact ⟨by first | rfl | (simp; done) | (simp [*]; done), by repeat (first | exact Drawn0.refl _ | apply Drawn0.step)⟩
     ·rw [if_neg c10] at H
      have c10b0 : decide (8 < (a0.size : Int)) = false := decide_eq_false c10
      have c10b1 : decide (8 < a0.size) = false := decide_eq_false (by omega)
      clear c10
      obtain rfl := Option.some.inj H
      go_wp2
      go_ret
      exact ⟨by first | rfl | (simp; done) | (simp [*]; done), by repeat (first | exact Drawn0.refl _ | apply Drawn0.step)⟩

/-! ### cloisterref07_End: function 63 -/
def cloisterref07_End.l0 : Nat → ByteArray → Int → Option (Int)
 | 0, _, _ => none
 | k + 1, x0, x5 => if (wrap64 (x5 + 1)) < (x0.size : Int) then (if 0 ≤ x5 then (if x5 < (x0.size : Int) then (if (bt x0 x5) = 13 then (if 0 ≤ (wrap64 (x5 + 1)) then (if (bt x0 (wrap64 (x5 + 1))) = 10 then (some x5) else (cloisterref07_End.l0 k x0 (wrap64 (x5 + 1)))) else (none)) else (cloisterref07_End.l0 k x0 (wrap64 (x5 + 1)))) else (none)) else (none)) else (some (-1))
def cloisterref07_End.f (k : Nat) (a0 : ByteArray) (a1 : Int) : Option (Int) := cloisterref07_End.l0 k a0 a1
theorem cloisterref07_End.mono_l : ∀ k, (∀ y0 y1, LeO (cloisterref07_End.l0 k y0 y1) (cloisterref07_End.l0 (k + 1) y0 y1))
 | 0 => fun _ _ r h => by simp [cloisterref07_End.l0] at h
 | k + 1 => by
  have ih0 := cloisterref07_End.mono_l k
  ·intro y0 y1
   unfold cloisterref07_End.l0
   repeat' first
   | (with_reducible exact ih0 _ _)
   | (with_reducible exact LeO.refl _)
   | (with_reducible exact LeO.none _)
   | (with_reducible refine LeO.ite ?_ ?_)
   | (with_reducible refine LeO.bind ?_ (fun _ => ?_))
   | exact ih0 _ _
   | exact LeO.none _
   | refine LeO.ite ?_ ?_
   | refine LeO.bind ?_ (fun _ => ?_)
theorem cloisterref07_End.mono : ∀ a0 a1 k, LeO (cloisterref07_End.f k a0 a1) (cloisterref07_End.f (k + 1) a0 a1) := by
 intro a0 a1 k
 have ih0 := cloisterref07_End.mono_l k
 unfold cloisterref07_End.f
 repeat' first
   | (with_reducible exact ih0 _ _)
   | (with_reducible exact LeO.refl _)
   | (with_reducible exact LeO.none _)
   | (with_reducible refine LeO.ite ?_ ?_)
   | (with_reducible refine LeO.bind ?_ (fun _ => ?_))
   | exact ih0 _ _
   | exact LeO.none _
   | refine LeO.ite ?_ ?_
   | refine LeO.bind ?_ (fun _ => ?_)
set_option maxHeartbeats 8000000 in
set_option maxRecDepth 100000 in
theorem cloisterref07_End.calls (k : Nat) (a0 : ByteArray) (a1 : Int) (r : Int) (w : World) (h : cloisterref07_End.f k a0 a1 = some r) :
  Calls Tryd.prog 63 #[.string a0, .int .i64 a1] w fun e w' => e = .returned (.int .i64 r) ∧ Drawn0 w w' := by
 have H : (cloisterref07_End.l0 k a0 a1) = some r := h
 clear h
 have H' := Aside0.mk H
 clear H
 go_enter Tryd.func63, Tryd.ntmps63
 go_wp2
 go_loopg [5] k (fun kq v5 w' => ∃ (x5_1 : Int), v5 = .int .i64 x5_1 ∧ Aside0 (cloisterref07_End.l0 kq a0 x5_1 = some r) ∧ Aside0 (kq ≤ k) ∧ Drawn0 w w')
 case atStart => exact ⟨(a1), meq, H', ⟨Nat.le_refl _⟩, by repeat (first | exact Drawn0.refl _ | apply Drawn0.step)⟩
 case round =>
  clear H'
  obtain ⟨x5_1, rfl, HA, HK1, ⟨m1, rfl⟩⟩ := hrel
  cases gk with
  | zero => exact absurd HA.out (by simp [cloisterref07_End.l0])
  | succ k1 =>
   have H := HA.out
   clear HA
   simp only [cloisterref07_End.l0] at H
   by_cases c3 : (wrap64 (x5_1 + 1)) < (a0.size : Int)
   ·rw [if_pos c3] at H
    have c3b0 : decide ((wrap64 (x5_1 + 1)) < (a0.size : Int)) = true := decide_eq_true c3
    clear c3
    obtain ⟨c4, H⟩ := ifn H
    have c4b0 : decide (0 ≤ x5_1) = true := decide_eq_true c4
    clear c4
    obtain ⟨c5, H⟩ := ifn H
    have c5b0 : decide (x5_1 < (a0.size : Int)) = true := decide_eq_true c5
    clear c5
    by_cases c7 : (bt a0 x5_1) = 13
    ·rw [if_pos c7] at H
     have c7b0 : ((bt a0 x5_1) == 13) = true := beq_iff_eq.mpr c7
     have c7b1 : ((bt a0 x5_1) != 13) = false := bne_eq_false_iff_eq.mpr c7
     clear c7
     obtain ⟨ji8, hji8⟩ : ∃ j_ : Int, (wrap64 (x5_1 + 1)) = j_ := ⟨_, rfl⟩
     replace H : (if 0 ≤ (ji8) then (if (bt a0 (ji8)) = 10 then (some x5_1) else (cloisterref07_End.l0 k1 a0 ji8)) else (none)) = some r := by first | (rw [hji8] at H; exact H) | (simp only [hji8] at H ⊢; exact H)
     (try rw [hji8] at c3b0)
     have hji8w : (IntKind.i64.wrap (x5_1 + 1)) = ji8 := (i64_w _).trans hji8
     obtain ⟨c9, H⟩ := ifn H
     have c9b0 : decide (0 ≤ (ji8)) = true := decide_eq_true c9
     clear c9
     by_cases c11 : (bt a0 (ji8)) = 10
     ·rw [if_pos c11] at H
      have c11b0 : ((bt a0 (ji8)) == 10) = true := beq_iff_eq.mpr c11
      have c11b1 : ((bt a0 (ji8)) != 10) = false := bne_eq_false_iff_eq.mpr c11
      clear c11
      obtain rfl := Option.some.inj H
      have p6 : 0 ≤ (x5_1 : Int) := of_decide_eq_true (by first | (with_reducible assumption) | assumption)
      have q6 : x5_1 < (a0.size : Int) := of_decide_eq_true (by first | (with_reducible assumption) | assumption)
      have hx6 := bt_at a0 x5_1
      replace p6 := eq_true p6
      replace q6 := eq_true q6
      have p10 : 0 ≤ ((ji8) : Int) := of_decide_eq_true (by first | (with_reducible assumption) | assumption)
      have q10 : (ji8) < (a0.size : Int) := of_decide_eq_true (by first | (with_reducible assumption) | assumption)
      have hx10 := bt_at a0 (ji8)
      replace p10 := eq_true p10
      replace q10 := eq_true q10
      go_wp2
      go_ret
      exact ⟨by first | rfl | (simp; done) | (simp only [← hji8] <;> (first | rfl | simp)) | (simp [*]; done), by repeat (first | exact Drawn0.refl _ | apply Drawn0.step)⟩
     ·rw [if_neg c11] at H
      have c11b0 : ((bt a0 (ji8)) == 10) = false := beq_eq_false_iff_ne.mpr c11
      have c11b1 : ((bt a0 (ji8)) != 10) = true := bne_iff_ne.mpr c11
      have H' := Aside0.mk H
      clear H
      have p6 : 0 ≤ (x5_1 : Int) := of_decide_eq_true (by first | (with_reducible assumption) | assumption)
      have q6 : x5_1 < (a0.size : Int) := of_decide_eq_true (by first | (with_reducible assumption) | assumption)
      have hx6 := bt_at a0 x5_1
      replace p6 := eq_true p6
      replace q6 := eq_true q6
      have p10 : 0 ≤ ((ji8) : Int) := of_decide_eq_true (by first | (with_reducible assumption) | assumption)
      have q10 : (ji8) < (a0.size : Int) := of_decide_eq_true (by first | (with_reducible assumption) | assumption)
      have hx10 := bt_at a0 (ji8)
      replace p10 := eq_true p10
      replace q10 := eq_true q10
      go_wp2
      go_roundg k1
      case measure => have := HK1.out; omega
      case rel => exact ⟨(ji8), (by first | rfl | (simp; done) | (simp only [← hji8] <;> (first | rfl | simp)) | (simp [*]; done)), H', ⟨by have := HK1.out; omega⟩, by repeat (first | exact Drawn0.refl _ | apply Drawn0.step)⟩
    ·rw [if_neg c7] at H
     have c7b0 : ((bt a0 x5_1) == 13) = false := beq_eq_false_iff_ne.mpr c7
     have c7b1 : ((bt a0 x5_1) != 13) = true := bne_iff_ne.mpr c7
     have H' := Aside0.mk H
     clear H
     have p6 : 0 ≤ (x5_1 : Int) := of_decide_eq_true (by first | (with_reducible assumption) | assumption)
     have q6 : x5_1 < (a0.size : Int) := of_decide_eq_true (by first | (with_reducible assumption) | assumption)
     have hx6 := bt_at a0 x5_1
     replace p6 := eq_true p6
     replace q6 := eq_true q6
     go_wp2
     go_roundg k1
     case measure => have := HK1.out; omega
     case rel => exact ⟨(wrap64 (x5_1 + 1)), meq, H', ⟨by have := HK1.out; omega⟩, by repeat (first | exact Drawn0.refl _ | apply Drawn0.step)⟩
   ·rw [if_neg c3] at H
    have c3b0 : decide ((wrap64 (x5_1 + 1)) < (a0.size : Int)) = false := decide_eq_false c3
    clear c3
    obtain rfl := Option.some.inj H
    go_wp2
    go_ret
    exact ⟨by first | rfl | (simp; done) | (simp [*]; done), by repeat (first | exact Drawn0.refl _ | apply Drawn0.step)⟩

end Go.Proofs.YtlpmifofgacgiaaDoor.Q
namespace Go.Proofs.YtlpmifofgacgiaaDoor.Q
open Go.RowKit Go.Proofs.YtlpmifofgacgiaaDoorW.PrintWords

/-- The first line's end at or behind a place: where no byte 13 lies between. -/
theorem end_hit (s : ByteArray) (hs : s.size < 4294967296) (b : Bs) : ∀ (a pre : Bs), bytes s = pre ++ (a ++ 13 :: 10 :: b) → (13 : UInt8) ∉ a → Ev (fun k => cloisterref07_End.f k s (pre.length : Int)) ((pre.length + a.length : Nat) : Int) := by
  have hsz := size_bytes s
  intro a
  induction a with
  | nil =>
    intro pre hp _
    have hl : s.size = pre.length + (b.length + 1 + 1) := by rw [hsz, hp]; simp
    have h0 : bt s (pre.length : Int) = 13 := bt_mid hp
    have h1 : bt s ((pre.length + 1 : Nat) : Int) = 10 := by
      have := bt_mid (s := s) (pre := pre ++ [13]) (rest := b) (c := 10) (by rw [hp]; simp)
      rw [List.length_append] at this
      exact this
    unfold cloisterref07_End.f
    refine Ev.step (fun k => by rw [cloisterref07_End.l0]) ?_
    rw [wr_succ pre.length (by omega)]
    exact Ev.pos (by omega) (Ev.pos (by omega) (Ev.pos (by omega) (Ev.pos h0 (Ev.pos (by omega) (Ev.pos h1 (Ev.now _))))))
  | cons c a ih =>
    intro pre hp h13
    simp only [List.mem_cons, not_or] at h13
    have hl : s.size = pre.length + (a.length + (b.length + 1 + 1) + 1) := by rw [hsz, hp]; simp
    have hc := UInt8.toNat_lt c
    have h0 : bt s (pre.length : Int) = (c.toNat : Int) := bt_mid hp
    have hne : ¬ bt s (pre.length : Int) = 13 := by
      rw [h0]
      intro e
      exact h13.1 (u8_eq (show (13 : UInt8).toNat = c.toNat by have : (13 : UInt8).toNat = 13 := rfl; omega))
    have := ih (pre ++ [c]) (by rw [hp]; simp) h13.2
    have e1 : (pre ++ [c]).length = pre.length + 1 := by rw [List.length_append]; rfl
    have e2 : pre.length + 1 + a.length = pre.length + (c :: a).length := by rw [List.length_cons]; omega
    rw [e1, e2] at this
    unfold cloisterref07_End.f at this ⊢
    refine Ev.step (fun k => by rw [cloisterref07_End.l0]) ?_
    rw [wr_succ pre.length (by omega)]
    exact Ev.pos (by omega) (Ev.pos (by omega) (Ev.pos (by omega) (Ev.neg hne this)))
/-- It ends, at every place. -/
theorem end_total (s : ByteArray) (hs : s.size < 4294967296) : ∀ (g i : Nat), s.size ≤ i + g → i < 8589934592 → ∃ r : Int, Ev (fun k => cloisterref07_End.f k s (i : Int)) r ∧ (r = -1 ∨ ∃ e : Nat, r = (e : Int) ∧ i ≤ e ∧ e + 2 ≤ s.size) := by
  intro g
  induction g with
  | zero =>
    intro i hi hb
    refine ⟨-1, ?_, .inl rfl⟩
    unfold cloisterref07_End.f
    refine Ev.step (fun k => by rw [cloisterref07_End.l0]) ?_
    rw [wr_succ i (by omega)]
    exact Ev.neg (by omega) (Ev.now _)
  | succ g ih =>
    intro i hi hb
    by_cases h : i + 1 < s.size
    · obtain ⟨r, h1, h2⟩ := ih (i + 1) (by omega) (by omega)
      unfold cloisterref07_End.f at h1 ⊢
      have start : ∀ q, Ev (fun k => (if (bt s (i : Int)) = 13 then (if 0 ≤ ((i + 1 : Nat) : Int) then (if (bt s ((i + 1 : Nat) : Int)) = 10 then (some (i : Int)) else (cloisterref07_End.l0 k s ((i + 1 : Nat) : Int))) else (none)) else (cloisterref07_End.l0 k s ((i + 1 : Nat) : Int)))) q → Ev (fun k => cloisterref07_End.l0 k s (i : Int)) q := by
        intro q hq
        refine Ev.step (fun k => by rw [cloisterref07_End.l0]) ?_
        rw [wr_succ i (by omega)]
        exact Ev.pos (by omega) (Ev.pos (by omega) (Ev.pos (by omega) hq))
      have h2' : r = -1 ∨ ∃ e : Nat, r = (e : Int) ∧ i ≤ e ∧ e + 2 ≤ s.size := by
        rcases h2 with h2 | ⟨e, h3, h4, h5⟩
        · exact .inl h2
        · exact .inr ⟨e, h3, by omega, h5⟩
      by_cases h13 : bt s (i : Int) = 13
      · by_cases h10 : bt s ((i + 1 : Nat) : Int) = 10
        · exact ⟨(i : Int), start _ (Ev.pos h13 (Ev.pos (by omega) (Ev.pos h10 (Ev.now _)))), .inr ⟨i, rfl, Nat.le_refl _, by omega⟩⟩
        · exact ⟨r, start _ (Ev.pos h13 (Ev.pos (by omega) (Ev.neg h10 h1))), h2'⟩
      · exact ⟨r, start _ (Ev.neg h13 h1), h2'⟩
    · refine ⟨-1, ?_, .inl rfl⟩
      unfold cloisterref07_End.f
      refine Ev.step (fun k => by rw [cloisterref07_End.l0]) ?_
      rw [wr_succ i (by omega)]
      exact Ev.neg (by omega) (Ev.now _)

/-! ### digits -/
def digS (l : Bs) : Int := if l.all dig = true ∧ 1 ≤ l.length ∧ l.length ≤ 8 then (valD 0 l : Int) else -1
theorem valD_lt : ∀ (l : Bs) (m n : Nat), l.all dig = true → m < 10 ^ n → valD m l < 10 ^ (n + l.length) := by
  intro l
  induction l with
  | nil => intro m n _ h; rw [valD_nil]; exact h
  | cons c r ih =>
    intro m n ha h
    simp only [List.all_cons, Bool.and_eq_true, dig, decide_eq_true_eq] at ha
    rw [valD_cons, List.length_cons]
    have := ih (10 * m + (c.toNat - 48)) (n + 1) ha.2 (by rw [Nat.pow_succ]; omega)
    rw [show n + 1 + r.length = n + (r.length + 1) by omega] at this
    exact this
theorem digits_ev (s : ByteArray) (hs : s.size < 4294967296) : Ev (fun k => cloisterref09_digits.f k s) (digS (bytes s)) := by
  have hsz := size_bytes s
  have loop : ∀ (rest pre : Bs) (x : Int), bytes s = pre ++ rest → pre.all dig = true → (s.size ≤ 8 → x = (valD 0 pre : Int)) → Ev (fun k => cloisterref09_digits.l0 k s x (pre.length : Int)) (digS (bytes s)) := by
    intro rest
    induction rest with
    | nil =>
      intro pre x hp ha hx
      rw [List.append_nil] at hp
      have hl : pre.length = s.size := by rw [hsz, hp]
      refine Ev.step (fun k => by rw [cloisterref09_digits.l0]) ?_
      refine Ev.neg (by omega) ?_
      rw [hp]
      by_cases h1 : (s.size : Int) < 1
      · have e : digS pre = -1 := if_neg (fun h => by have := h.2.1; omega)
        rw [e]
        exact Ev.pos h1 (Ev.now _)
      · refine Ev.neg h1 ?_
        by_cases h8 : (s.size : Int) > 8
        · have e : digS pre = -1 := if_neg (fun h => by have := h.2.2; omega)
          rw [e]
          exact Ev.pos h8 (Ev.now _)
        · have e : digS pre = (valD 0 pre : Int) := if_pos ⟨ha, by omega, by omega⟩
          rw [e, ← hx (by omega)]
          exact Ev.neg h8 (Ev.now _)
    | cons c r ih =>
      intro pre x hp ha hx
      have hl : s.size = pre.length + (r.length + 1) := by rw [hsz, hp]; simp
      have hc := UInt8.toNat_lt c
      have hb : bt s (pre.length : Int) = (c.toNat : Int) := bt_mid hp
      have bad : dig c = false → digS (bytes s) = -1 := by
        intro hd
        refine if_neg (fun h => ?_)
        have := h.1
        rw [hp, List.all_append, List.all_cons, hd] at this
        simp at this
      refine Ev.step (fun k => by rw [cloisterref09_digits.l0]) ?_
      refine Ev.pos (by omega) (Ev.pos (by omega) ?_)
      rw [hb]
      by_cases h1 : (c.toNat : Int) < 48
      · rw [bad (decide_eq_false (by omega))]
        exact Ev.pos h1 (Ev.now _)
      refine Ev.neg h1 ?_
      by_cases h2 : (c.toNat : Int) > 57
      · rw [bad (decide_eq_false (by omega))]
        exact Ev.pos h2 (Ev.now _)
      refine Ev.neg h2 ?_
      rw [wr_succ pre.length (by omega)]
      have hd : dig c = true := decide_eq_true (by omega)
      have := ih (pre ++ [c]) (wrap64 (wrap64 (10 * x) + (((c.toNat : Int) - 48) % 256))) (by rw [hp]; simp) (by rw [List.all_append, ha]; simp [hd]) (fun h8 => by
        have hv := valD_lt pre 0 0 ha (by decide)
        rw [Nat.zero_add] at hv
        have hp8 : 10 ^ pre.length ≤ 10 ^ 8 := Nat.pow_le_pow_right (by decide) (by omega)
        have h108 : (10 : Nat) ^ 8 = 100000000 := by decide
        rw [hx h8, valD_append, valD_cons, valD_nil, wr_id (z := 10 * (valD 0 pre : Int)) (by omega) (by omega), wr_id (by omega) (by omega)]
        omega)
      rw [List.length_append] at this
      exact this
  have := loop (bytes s) [] 0 rfl rfl (fun _ => by rw [valD_nil]; rfl)
  exact this
theorem digS_itoa {n : Nat} (h : n < 100000000) : digS (itoaL (n : Int)) = (n : Int) := by
  rw [itoaL_eq (by omega) (by omega)]
  unfold Lib.itoa
  rw [if_neg (by omega), Int.toNat_natCast]
  obtain ⟨h1, h2, c, r, h3, h4⟩ := decDigits_spells n
  have hlen : (Lib.decDigits n).length ≤ 8 := by
    rw [Lib.decDigits_length]
    by_cases h8 : Lib.nDigits n ≤ 8
    · exact h8
    · exfalso
      have key : ∀ (k u : Nat), u < 10 ^ (k + 1) → Lib.nDigits u ≤ k + 1 := by
        intro k
        induction k with
        | zero => intro u hu; rw [Lib.nDigits_small (by omega)]; exact Nat.le_refl _
        | succ k ih =>
          intro u hu
          by_cases h10 : u < 10
          · rw [Lib.nDigits_small h10]; omega
          · rw [Lib.nDigits_big h10]
            have := ih (u / 10) (by rw [Nat.pow_succ] at hu; omega)
            omega
      exact h8 (key 7 n (by have : (10 : Nat) ^ 8 = 100000000 := by decide
                            omega))
  have e : digS (Lib.decDigits n) = (valD 0 (Lib.decDigits n) : Int) := if_pos ⟨h2, by rw [h3]; simp, hlen⟩
  rw [e, h1]
end Go.Proofs.YtlpmifofgacgiaaDoor.Q
namespace Go.Proofs.YtlpmifofgacgiaaDoor.Q
open Go.RowKit Go.Proofs.YtlpmifofgacgiaaDoorW.PrintWords

abbrev Rs := Int × List Pr × ByteArray × Bool × Int × Int
def badR : Rs := (0, [], ⟨#[]⟩, false, 0, 90)
/-- The last step: the printed text of what was read is ahead. -/
def lastR (k : Nat) (S : ByteArray) (st : Int) (l : List Pr) (body : ByteArray) (cl : Bool) : Option Rs :=
  (cloisterref09_Print.f k st l body cl).bind fun bt236 => (if bt236.2 = 0 then (if (bt236.1.size : Int) > (S.size : Int) then (some ((0 : Int), ([] : List Pr), (⟨#[]⟩ : ByteArray), false, (0 : Int), (90 : Int))) else (if 0 ≤ (bt236.1.size : Int) then (if (bt236.1.size : Int) ≤ (S.size : Int) then (if (S.extract 0 ((bt236.1.size : Int) : Int).toNat).toList = bt236.1.toList then (some (st, l, body, cl, (bt236.1.size : Int), (0 : Int))) else (some ((0 : Int), ([] : List Pr), (⟨#[]⟩ : ByteArray), false, (0 : Int), (90 : Int)))) else (none)) else (none))) else (some ((0 : Int), ([] : List Pr), (⟨#[]⟩ : ByteArray), false, (0 : Int), (90 : Int))))
theorem last_ev (S : ByteArray) (st : Int) (l : List Pr) (body : ByteArray) (cl : Bool) (hl : ∀ x ∈ l, x.f0.size < 4294967296 ∧ x.f1.size < 4294967296) (hh : hdrLen l ≤ 1000000000000) (hb : body.size < 4611686018427387904) :
    ∃ r, Ev (fun k => lastR k S st l body cl) r ∧ Told (bytes S) r ∧ (∀ tail, mayR st l body = true → bytes S = printR st l body cl ++ tail → r = (st, l, body, cl, ((printR st l body cl).length : Int), 0)) := by
  have hp := print13r_ev st l body cl hl hh hb
  have hss := size_bytes S
  unfold lastR
  by_cases hm : mayR st l body = true
  · rw [if_pos hm] at hp
    have hsz : (⟨(printR st l body cl).toArray⟩ : ByteArray).size = (printR st l body cl).length := size_mk _
    by_cases hg : ((printR st l body cl).length : Int) > (S.size : Int)
    · refine ⟨badR, Ev.bind hp (Ev.pos rfl (Ev.pos (by show (((⟨(printR st l body cl).toArray⟩ : ByteArray).size : Nat) : Int) > (S.size : Int); rw [hsz]; exact hg) (Ev.now _))), .inr rfl, fun tail _ hS => ?_⟩
      exfalso
      rw [hss, hS, List.length_append] at hg
      omega
    · have hx : (S.extract 0 (((⟨(printR st l body cl).toArray⟩ : ByteArray).size : Int)).toNat).toList = (bytes S).take (printR st l body cl).length := by
        rw [toList_bytes, bytes_upto, hsz, Int.toNat_natCast]
      have go : ∀ r, Ev (fun _ => (if (S.extract 0 (((⟨(printR st l body cl).toArray⟩ : ByteArray).size : Int)).toNat).toList = (⟨(printR st l body cl).toArray⟩ : ByteArray).toList then (some (st, l, body, cl, ((⟨(printR st l body cl).toArray⟩ : ByteArray).size : Int), (0 : Int))) else (some ((0 : Int), ([] : List Pr), (⟨#[]⟩ : ByteArray), false, (0 : Int), (90 : Int))))) r → Ev (fun k => (cloisterref09_Print.f k st l body cl).bind fun bt236 => (if bt236.2 = 0 then (if (bt236.1.size : Int) > (S.size : Int) then (some ((0 : Int), ([] : List Pr), (⟨#[]⟩ : ByteArray), false, (0 : Int), (90 : Int))) else (if 0 ≤ (bt236.1.size : Int) then (if (bt236.1.size : Int) ≤ (S.size : Int) then (if (S.extract 0 ((bt236.1.size : Int) : Int).toNat).toList = bt236.1.toList then (some (st, l, body, cl, (bt236.1.size : Int), (0 : Int))) else (some ((0 : Int), ([] : List Pr), (⟨#[]⟩ : ByteArray), false, (0 : Int), (90 : Int)))) else (none)) else (none))) else (some ((0 : Int), ([] : List Pr), (⟨#[]⟩ : ByteArray), false, (0 : Int), (90 : Int))))) r := by
        intro r h
        refine Ev.bind hp (Ev.pos rfl (Ev.neg ?_ (Ev.pos ?_ (Ev.pos ?_ h))))
        · show ¬ (((⟨(printR st l body cl).toArray⟩ : ByteArray).size : Nat) : Int) > (S.size : Int)
          rw [hsz]; exact hg
        · show (0 : Int) ≤ (((⟨(printR st l body cl).toArray⟩ : ByteArray).size : Nat) : Int)
          omega
        · show (((⟨(printR st l body cl).toArray⟩ : ByteArray).size : Nat) : Int) ≤ (S.size : Int)
          rw [hsz]; omega
      by_cases he : (bytes S).take (printR st l body cl).length = printR st l body cl
      · have htl : ∃ tail, bytes S = printR st l body cl ++ tail := ⟨(bytes S).drop (printR st l body cl).length, by
          have := List.take_append_drop (printR st l body cl).length (bytes S)
          rw [he] at this
          exact this.symm⟩
        refine ⟨(st, l, body, cl, ((printR st l body cl).length : Int), 0), go _ (Ev.pos (by rw [hx, he, toList_bytes, bytes_mk (printR st l body cl)]) (by rw [hsz]; exact Ev.now _)), .inl ⟨rfl, hm, htl, rfl⟩, fun _ _ _ => rfl⟩
      · refine ⟨badR, go _ (Ev.neg (by rw [hx, toList_bytes, bytes_mk (printR st l body cl)]; exact he) (Ev.now _)), .inr rfl, fun tail _ hS => ?_⟩
        exact absurd (by rw [hS]; exact List.take_left' rfl) he
  · rw [if_neg hm] at hp
    exact ⟨badR, Ev.bind hp (Ev.neg (by decide) (Ev.now _)), .inr rfl, fun tail h _ => absurd h hm⟩
end Go.Proofs.YtlpmifofgacgiaaDoor.Q
namespace Go.Proofs.YtlpmifofgacgiaaDoor.Q
open Go.RowKit Go.Proofs.YtlpmifofgacgiaaDoorW.PrintWords Go.Proofs.YtlpmifofgacgiaaDoorW.PrintLast Go.Proofs.YtlpmifofgacgiaaDoorW.PrintMore
attribute [local go_sem] max2_int min2_int max_two min_two max_three min_three max_four min_four   -- for this text's walks alone
set_option linter.unusedVariables false
set_option linter.unusedSimpArgs false

/-! ### cloisterref09_Parse: function 37 -/
mutual
def cloisterref09_Parse.j0 : Nat → ByteArray → Bool → Int → ByteArray → Bool → Option (Int × (List (S61)) × ByteArray × Bool × Int × Int)
 | 0, _, _, _, _, _ => none
 | k + 1, x0, x23, x230000, x230002, x230003 => if x23 = true then (some (x230000, ([] : List (S61)), x230002, x230003, 0, 90)) else (if 9 ≤ 12 then (if 12 ≤ (x0.size : Int) then ((cloisterref09_digits.f k (x0.extract 9 12)).bind fun t230 => ((cloisterref07_End.f k x0 0).bind fun t232 => (if t232 < 0 then (some (x230000, ([] : List (S61)), x230002, x230003, 0, 90)) else (cloisterref09_Parse.l0 k x0 (wrap64 (t232 + 2)) x230000 x230002 x230003 t230 ([] : List (S61)) (⟨#[]⟩ : ByteArray) false)))) else (none)) else (none))
def cloisterref09_Parse.l0 : Nat → ByteArray → Int → Int → ByteArray → Bool → Int → List (S61) → ByteArray → Bool → Option (Int × (List (S61)) × ByteArray × Bool × Int × Int)
 | 0, _, _, _, _, _, _, _, _, _ => none
 | k + 1, x0, x7, x230000, x230002, x230003, x232000, x232001, x232002, x232003 => (cloisterref07_End.f k x0 x7).bind fun t233 => (if t233 < 0 then (some (x230000, ([] : List (S61)), x230002, x230003, 0, 90)) else (if 0 ≤ x7 then (if x7 ≤ t233 then (if t233 ≤ (x0.size : Int) then (cloisterref09_Parse.l1 k x0 t233 (x0.extract (x7 : Int).toNat (t233 : Int).toNat) 0 x230000 x230002 x230003 x232000 x232001 x232002 x232003) else (none)) else (none)) else (none)))
def cloisterref09_Parse.j3 : Nat → ByteArray → Int → ByteArray → Int → Int → ByteArray → Bool → Int → List (S61) → ByteArray → Bool → Option (Int × (List (S61)) × ByteArray × Bool × Int × Int)
 | 0, _, _, _, _, _, _, _, _, _, _, _ => none
 | k + 1, x0, x8, x9, x10, x230000, x230002, x230003, x232000, x232001, x232002, x232003 => if (wrap64 (x10 + 2)) > (x9.size : Int) then (some (x230000, ([] : List (S61)), x230002, x230003, 0, 90)) else (if 0 ≤ x10 then (if x10 ≤ (x9.size : Int) then (if (x9.extract 0 (x10 : Int).toNat).toList = ([99, 111, 110, 116, 101, 110, 116, 45, 108, 101, 110, 103, 116, 104] : List UInt8) then (if 0 ≤ (wrap64 (x10 + 2)) then (if (wrap64 (x10 + 2)) ≤ (x9.size : Int) then ((cloisterref09_digits.f k (x9.extract ((wrap64 (x10 + 2)) : Int).toNat x9.size)).bind fun t234 => ((cloisterref07_End.f k x0 (wrap64 (x8 + 2))).bind fun t235 => (if t234 < 0 then (some (x230000, ([] : List (S61)), x230002, x230003, 0, 90)) else (if t235 < 0 then (some (x230000, ([] : List (S61)), x230002, x230003, 0, 90)) else (if t234 > (wrap64 ((wrap64 ((x0.size : Int) - t235)) - 4)) then (some (x230000, ([] : List (S61)), x230002, x230003, 0, 90)) else (if 0 ≤ (wrap64 (x8 + 2)) then (if (wrap64 (x8 + 2)) ≤ t235 then (if t235 ≤ (x0.size : Int) then (if 0 ≤ (wrap64 (t235 + 4)) then (if (wrap64 (t235 + 4)) ≤ (wrap64 ((wrap64 (t235 + 4)) + t234)) then (if (wrap64 ((wrap64 (t235 + 4)) + t234)) ≤ (x0.size : Int) then ((cloisterref09_Print.f k x232000 x232001 (x0.extract ((wrap64 (t235 + 4)) : Int).toNat ((wrap64 ((wrap64 (t235 + 4)) + t234)) : Int).toNat) ((x0.extract ((wrap64 (x8 + 2)) : Int).toNat (t235 : Int).toNat).toList == ([99, 111, 110, 110, 101, 99, 116, 105, 111, 110, 58, 32, 99, 108, 111, 115, 101] : List UInt8))).bind fun bt236 => (if bt236.2 = 0 then (if (bt236.1.size : Int) > (x0.size : Int) then (some (x230000, ([] : List (S61)), x230002, x230003, 0, 90)) else (if 0 ≤ (bt236.1.size : Int) then (if (bt236.1.size : Int) ≤ (x0.size : Int) then (if (x0.extract 0 ((bt236.1.size : Int) : Int).toNat).toList = bt236.1.toList then (some (x232000, x232001, x0.extract ((wrap64 (t235 + 4)) : Int).toNat ((wrap64 ((wrap64 (t235 + 4)) + t234)) : Int).toNat, ((x0.extract ((wrap64 (x8 + 2)) : Int).toNat (t235 : Int).toNat).toList == ([99, 111, 110, 110, 101, 99, 116, 105, 111, 110, 58, 32, 99, 108, 111, 115, 101] : List UInt8)), (bt236.1.size : Int), 0)) else (some (x230000, ([] : List (S61)), x230002, x230003, 0, 90))) else (none)) else (none))) else (some (x230000, ([] : List (S61)), x230002, x230003, 0, 90)))) else (none)) else (none)) else (none)) else (none)) else (none)) else (none))))))) else (none)) else (none)) else (if 0 ≤ (wrap64 (x10 + 2)) then (if (wrap64 (x10 + 2)) ≤ (x9.size : Int) then (if x232001.length < 4398046511104 then (cloisterref09_Parse.l0 k x0 (wrap64 (x8 + 2)) x230000 x230002 x230003 x232000 (x232001 ++ [(⟨x9.extract 0 (x10 : Int).toNat, x9.extract ((wrap64 (x10 + 2)) : Int).toNat x9.size⟩ : S61)]) x232002 x232003) else (none)) else (none)) else (none))) else (none)) else (none))
def cloisterref09_Parse.l1 : Nat → ByteArray → Int → ByteArray → Int → Int → ByteArray → Bool → Int → List (S61) → ByteArray → Bool → Option (Int × (List (S61)) × ByteArray × Bool × Int × Int)
 | 0, _, _, _, _, _, _, _, _, _, _, _ => none
 | k + 1, x0, x8, x9, x10, x230000, x230002, x230003, x232000, x232001, x232002, x232003 => if x10 < (x9.size : Int) then (if 0 ≤ x10 then (if (bt x9 x10) = 58 then (cloisterref09_Parse.j3 k x0 x8 x9 x10 x230000 x230002 x230003 x232000 x232001 x232002 x232003) else (cloisterref09_Parse.l1 k x0 x8 x9 (wrap64 (x10 + 1)) x230000 x230002 x230003 x232000 x232001 x232002 x232003)) else (none)) else (cloisterref09_Parse.j3 k x0 x8 x9 x10 x230000 x230002 x230003 x232000 x232001 x232002 x232003)
end
def cloisterref09_Parse.f (k : Nat) (a0 : ByteArray) : Option (Int × (List (S61)) × ByteArray × Bool × Int × Int) := if (a0.size : Int) < 13 then (cloisterref09_Parse.j0 k a0 true 0 (⟨#[]⟩ : ByteArray) false) else (if 0 ≤ 9 then (if 9 ≤ (a0.size : Int) then (cloisterref09_Parse.j0 k a0 ((a0.extract 0 9).toList != ([72, 84, 84, 80, 47, 49, 46, 49, 32] : List UInt8)) 0 (⟨#[]⟩ : ByteArray) false) else (none)) else (none))
theorem cloisterref09_Parse.mono_l : ∀ k, (∀ y0 y1 y2 y3 y4, LeO (cloisterref09_Parse.j0 k y0 y1 y2 y3 y4) (cloisterref09_Parse.j0 (k + 1) y0 y1 y2 y3 y4)) ∧ (∀ y0 y1 y2 y3 y4 y5 y6 y7 y8, LeO (cloisterref09_Parse.l0 k y0 y1 y2 y3 y4 y5 y6 y7 y8) (cloisterref09_Parse.l0 (k + 1) y0 y1 y2 y3 y4 y5 y6 y7 y8)) ∧ (∀ y0 y1 y2 y3 y4 y5 y6 y7 y8 y9 y10, LeO (cloisterref09_Parse.j3 k y0 y1 y2 y3 y4 y5 y6 y7 y8 y9 y10) (cloisterref09_Parse.j3 (k + 1) y0 y1 y2 y3 y4 y5 y6 y7 y8 y9 y10)) ∧ (∀ y0 y1 y2 y3 y4 y5 y6 y7 y8 y9 y10, LeO (cloisterref09_Parse.l1 k y0 y1 y2 y3 y4 y5 y6 y7 y8 y9 y10) (cloisterref09_Parse.l1 (k + 1) y0 y1 y2 y3 y4 y5 y6 y7 y8 y9 y10))
 | 0 => ⟨fun _ _ _ _ _ r h => by simp [cloisterref09_Parse.j0] at h, fun _ _ _ _ _ _ _ _ _ r h => by simp [cloisterref09_Parse.l0] at h, fun _ _ _ _ _ _ _ _ _ _ _ r h => by simp [cloisterref09_Parse.j3] at h, fun _ _ _ _ _ _ _ _ _ _ _ r h => by simp [cloisterref09_Parse.l1] at h⟩
 | k + 1 => by
  obtain ⟨ih0, ih1, ih2, ih3⟩ := cloisterref09_Parse.mono_l k
  refine ⟨?_, ?_, ?_, ?_⟩
  ·intro y0 y1 y2 y3 y4
   unfold cloisterref09_Parse.j0
   repeat' first
   | (with_reducible exact ih0 _ _ _ _ _)
   | (with_reducible exact ih1 _ _ _ _ _ _ _ _ _)
   | (with_reducible exact ih2 _ _ _ _ _ _ _ _ _ _ _)
   | (with_reducible exact ih3 _ _ _ _ _ _ _ _ _ _ _)
   | (with_reducible exact cloisterref07_End.mono _ _ _)
   | (with_reducible exact cloisterref09_Print.mono _ _ _ _ _)
   | (with_reducible exact cloisterref09_digits.mono _ _)
   | (with_reducible exact LeO.refl _)
   | (with_reducible exact LeO.none _)
   | (with_reducible refine LeO.ite ?_ ?_)
   | (with_reducible refine LeO.bind ?_ (fun _ => ?_))
   | exact ih0 _ _ _ _ _
   | exact ih1 _ _ _ _ _ _ _ _ _
   | exact ih2 _ _ _ _ _ _ _ _ _ _ _
   | exact ih3 _ _ _ _ _ _ _ _ _ _ _
   | exact cloisterref07_End.mono _ _ _
   | exact cloisterref09_Print.mono _ _ _ _ _
   | exact cloisterref09_digits.mono _ _
   | exact LeO.none _
   | refine LeO.ite ?_ ?_
   | refine LeO.bind ?_ (fun _ => ?_)
  ·intro y0 y1 y2 y3 y4 y5 y6 y7 y8
   unfold cloisterref09_Parse.l0
   repeat' first
   | (with_reducible exact ih0 _ _ _ _ _)
   | (with_reducible exact ih1 _ _ _ _ _ _ _ _ _)
   | (with_reducible exact ih2 _ _ _ _ _ _ _ _ _ _ _)
   | (with_reducible exact ih3 _ _ _ _ _ _ _ _ _ _ _)
   | (with_reducible exact cloisterref07_End.mono _ _ _)
   | (with_reducible exact cloisterref09_Print.mono _ _ _ _ _)
   | (with_reducible exact cloisterref09_digits.mono _ _)
   | (with_reducible exact LeO.refl _)
   | (with_reducible exact LeO.none _)
   | (with_reducible refine LeO.ite ?_ ?_)
   | (with_reducible refine LeO.bind ?_ (fun _ => ?_))
   | exact ih0 _ _ _ _ _
   | exact ih1 _ _ _ _ _ _ _ _ _
   | exact ih2 _ _ _ _ _ _ _ _ _ _ _
   | exact ih3 _ _ _ _ _ _ _ _ _ _ _
   | exact cloisterref07_End.mono _ _ _
   | exact cloisterref09_Print.mono _ _ _ _ _
   | exact cloisterref09_digits.mono _ _
   | exact LeO.none _
   | refine LeO.ite ?_ ?_
   | refine LeO.bind ?_ (fun _ => ?_)
  ·intro y0 y1 y2 y3 y4 y5 y6 y7 y8 y9 y10
   unfold cloisterref09_Parse.j3
   repeat' first
   | (with_reducible exact ih0 _ _ _ _ _)
   | (with_reducible exact ih1 _ _ _ _ _ _ _ _ _)
   | (with_reducible exact ih2 _ _ _ _ _ _ _ _ _ _ _)
   | (with_reducible exact ih3 _ _ _ _ _ _ _ _ _ _ _)
   | (with_reducible exact cloisterref07_End.mono _ _ _)
   | (with_reducible exact cloisterref09_Print.mono _ _ _ _ _)
   | (with_reducible exact cloisterref09_digits.mono _ _)
   | (with_reducible exact LeO.refl _)
   | (with_reducible exact LeO.none _)
   | (with_reducible refine LeO.ite ?_ ?_)
   | (with_reducible refine LeO.bind ?_ (fun _ => ?_))
   | exact ih0 _ _ _ _ _
   | exact ih1 _ _ _ _ _ _ _ _ _
   | exact ih2 _ _ _ _ _ _ _ _ _ _ _
   | exact ih3 _ _ _ _ _ _ _ _ _ _ _
   | exact cloisterref07_End.mono _ _ _
   | exact cloisterref09_Print.mono _ _ _ _ _
   | exact cloisterref09_digits.mono _ _
   | exact LeO.none _
   | refine LeO.ite ?_ ?_
   | refine LeO.bind ?_ (fun _ => ?_)
  ·intro y0 y1 y2 y3 y4 y5 y6 y7 y8 y9 y10
   unfold cloisterref09_Parse.l1
   repeat' first
   | (with_reducible exact ih0 _ _ _ _ _)
   | (with_reducible exact ih1 _ _ _ _ _ _ _ _ _)
   | (with_reducible exact ih2 _ _ _ _ _ _ _ _ _ _ _)
   | (with_reducible exact ih3 _ _ _ _ _ _ _ _ _ _ _)
   | (with_reducible exact cloisterref07_End.mono _ _ _)
   | (with_reducible exact cloisterref09_Print.mono _ _ _ _ _)
   | (with_reducible exact cloisterref09_digits.mono _ _)
   | (with_reducible exact LeO.refl _)
   | (with_reducible exact LeO.none _)
   | (with_reducible refine LeO.ite ?_ ?_)
   | (with_reducible refine LeO.bind ?_ (fun _ => ?_))
   | exact ih0 _ _ _ _ _
   | exact ih1 _ _ _ _ _ _ _ _ _
   | exact ih2 _ _ _ _ _ _ _ _ _ _ _
   | exact ih3 _ _ _ _ _ _ _ _ _ _ _
   | exact cloisterref07_End.mono _ _ _
   | exact cloisterref09_Print.mono _ _ _ _ _
   | exact cloisterref09_digits.mono _ _
   | exact LeO.none _
   | refine LeO.ite ?_ ?_
   | refine LeO.bind ?_ (fun _ => ?_)
theorem cloisterref09_Parse.mono : ∀ a0 k, LeO (cloisterref09_Parse.f k a0) (cloisterref09_Parse.f (k + 1) a0) := by
 intro a0 k
 obtain ⟨ih0, ih1, ih2, ih3⟩ := cloisterref09_Parse.mono_l k
 unfold cloisterref09_Parse.f
 repeat' first
   | (with_reducible exact ih0 _ _ _ _ _)
   | (with_reducible exact ih1 _ _ _ _ _ _ _ _ _)
   | (with_reducible exact ih2 _ _ _ _ _ _ _ _ _ _ _)
   | (with_reducible exact ih3 _ _ _ _ _ _ _ _ _ _ _)
   | (with_reducible exact cloisterref07_End.mono _ _ _)
   | (with_reducible exact cloisterref09_Print.mono _ _ _ _ _)
   | (with_reducible exact cloisterref09_digits.mono _ _)
   | (with_reducible exact LeO.refl _)
   | (with_reducible exact LeO.none _)
   | (with_reducible refine LeO.ite ?_ ?_)
   | (with_reducible refine LeO.bind ?_ (fun _ => ?_))
   | exact ih0 _ _ _ _ _
   | exact ih1 _ _ _ _ _ _ _ _ _
   | exact ih2 _ _ _ _ _ _ _ _ _ _ _
   | exact ih3 _ _ _ _ _ _ _ _ _ _ _
   | exact cloisterref07_End.mono _ _ _
   | exact cloisterref09_Print.mono _ _ _ _ _
   | exact cloisterref09_digits.mono _ _
   | exact LeO.none _
   | refine LeO.ite ?_ ?_
   | refine LeO.bind ?_ (fun _ => ?_)
end Go.Proofs.YtlpmifofgacgiaaDoor.Q
namespace Go.Proofs.YtlpmifofgacgiaaDoor.Q
open Go.RowKit Go.Proofs.YtlpmifofgacgiaaDoorW.PrintWords

abbrev noB : ByteArray := ⟨#[]⟩
abbrev rl0 (k : Nat) (S : ByteArray) (x7 : Int) (st : Int) (l : List Pr) := cloisterref09_Parse.l0 k S x7 0 noB false st l noB false
abbrev rl1 (k : Nat) (S : ByteArray) (x8 : Int) (ln : ByteArray) (x10 : Int) (st : Int) (l : List Pr) := cloisterref09_Parse.l1 k S x8 ln x10 0 noB false st l noB false
abbrev rj3 (k : Nat) (S : ByteArray) (x8 : Int) (ln : ByteArray) (x10 : Int) (st : Int) (l : List Pr) := cloisterref09_Parse.j3 k S x8 ln x10 0 noB false st l noB false

/-- A line's ':' is looked for. -/
theorem colon_ev (S : ByteArray) (x8 : Int) (ln : ByteArray) (st : Int) (l : List Pr) (r : Rs) (hs : ln.size < 4294967296) (h : Ev (fun k => rj3 k S x8 ln ((upto 58 (bytes ln)).length : Int) st l) r) :
    ∀ (rest pre : Bs), bytes ln = pre ++ rest → (58 : UInt8) ∉ pre → Ev (fun k => rl1 k S x8 ln (pre.length : Int) st l) r := by
  have hsz := size_bytes ln
  intro rest
  induction rest with
  | nil =>
    intro pre hp h58
    rw [List.append_nil] at hp
    have hl : pre.length = ln.size := by rw [hsz, hp]
    rw [hp, upto_all 58 pre h58] at h
    refine Ev.step (fun k => by rw [rl1, cloisterref09_Parse.l1]) ?_
    exact Ev.neg (by omega) h
  | cons c rest ih =>
    intro pre hp h58
    have hl : ln.size = pre.length + (rest.length + 1) := by rw [hsz, hp]; simp
    have hb : bt ln (pre.length : Int) = (c.toNat : Int) := bt_mid hp
    refine Ev.step (fun k => by rw [rl1, cloisterref09_Parse.l1]) ?_
    refine Ev.pos (by omega) (Ev.pos (by omega) ?_)
    rw [hb, wr_succ pre.length (by omega)]
    by_cases hc : c.toNat = 58
    · have hc' : c = 58 := u8_eq hc
      subst hc'
      have hu : upto 58 (bytes ln) = pre := by rw [hp, upto_app 58 pre _ h58]; simp [upto]
      rw [hu] at h
      exact Ev.pos (by omega) h
    · refine Ev.neg (by omega) ?_
      have := ih (pre ++ [c]) (by rw [hp]; simp) (by
        rw [List.mem_append, List.mem_singleton]
        rintro (h | h)
        · exact h58 h
        · exact hc (by rw [← h]; rfl))
      rw [List.length_append] at this
      exact this

/-! ### what stands behind a line's name -/
theorem line_at (S : ByteArray) (hs : S.size < 4294967296) (t : Nat) (ht : t ≤ S.size) (a b : Bs) (h13 : (13 : UInt8) ∉ a) (hd : (bytes S).drop t = a ++ 13 :: 10 :: b) :
    Ev (fun k => cloisterref07_End.f k S (t : Int)) ((t + a.length : Nat) : Int) ∧ bytes (S.extract t (t + a.length)) = a ∧ (bytes S).drop (t + a.length + 2) = b ∧ t + a.length + 2 ≤ S.size := by
  have hss := size_bytes S
  have hl : ((bytes S).take t).length = t := by rw [List.length_take]; omega
  have hp : bytes S = (bytes S).take t ++ (a ++ 13 :: 10 :: b) := by rw [← hd, List.take_append_drop]
  have h1 := end_hit S hs b a ((bytes S).take t) hp h13
  rw [hl] at h1
  have hlen := congrArg List.length hd
  simp only [List.length_drop, List.length_append, List.length_cons] at hlen
  refine ⟨h1, ?_, ?_, by omega⟩
  · rw [bytes_extract, hd, show t + a.length - t = a.length by omega, List.take_left' rfl]
  · rw [show t + a.length + 2 = t + (a.length + 2) by omega, ← List.drop_drop, hd, ← List.drop_drop, List.drop_left' rfl]
    rfl
theorem j3_bad (S ln : ByteArray) (t kk : Nat) (st : Int) (l : List Pr) (hs : ln.size < 4294967296) (h : kk + 2 > ln.size) (hk : kk ≤ ln.size) : Ev (fun k => rj3 k S (t : Int) ln (kk : Int) st l) badR := by
  have w2 : wrap64 ((kk : Int) + 2) = ((kk + 2 : Nat) : Int) := wr_add kk 2 (by omega)
  refine Ev.step (fun k => by rw [rj3, cloisterref09_Parse.j3]) ?_
  rw [w2]
  exact Ev.pos (by omega) (Ev.now _)
theorem j3_field (S ln : ByteArray) (t kk : Nat) (st : Int) (l : List Pr) (r : Rs) (hs : ln.size < 4294967296) (ht : t < 4294967296) (h : kk + 2 ≤ ln.size) (hn : (bytes ln).take kk ≠ clB) (hll : l.length < 4398046511104)
    (hr : Ev (fun k => rl0 k S ((t + 2 : Nat) : Int) st (l ++ [(⟨ln.extract 0 kk, ln.extract (kk + 2) ln.size⟩ : Pr)])) r) : Ev (fun k => rj3 k S (t : Int) ln (kk : Int) st l) r := by
  have w2 : wrap64 ((kk : Int) + 2) = ((kk + 2 : Nat) : Int) := wr_add kk 2 (by omega)
  have w3 : wrap64 ((t : Int) + 2) = ((t + 2 : Nat) : Int) := wr_add t 2 (by omega)
  have e0 : (ln.extract 0 ((kk : Int)).toNat).toList = (bytes ln).take kk := by rw [toList_bytes, bytes_upto, Int.toNat_natCast]
  refine Ev.step (fun k => by rw [rj3, cloisterref09_Parse.j3]) ?_
  rw [w2, w3, e0, Int.toNat_natCast, Int.toNat_natCast]
  refine Ev.neg (by omega) (Ev.pos (by omega) (Ev.pos (by omega) (Ev.neg hn (Ev.pos (by omega) (Ev.pos (by omega) (Ev.pos hll hr))))))
theorem nums3 (n e d t : Nat) (h1 : e + 2 ≤ n) (h2 : n < 4294967296) (h3 : d < 100000000) (h4 : t + 2 ≤ e) :
    wrap64 (wrap64 ((n : Int) - (e : Int)) - 4) = (n : Int) - (e : Int) - 4 ∧ wrap64 ((e : Int) + 4) = ((e + 4 : Nat) : Int) ∧ wrap64 (((e + 4 : Nat) : Int) + (d : Int)) = ((e + 4 + d : Nat) : Int) ∧ ¬ ((d : Int) < 0) ∧ ¬ ((e : Int) < 0) ∧ (0 : Int) ≤ ((t + 2 : Nat) : Int) ∧ ((t + 2 : Nat) : Int) ≤ (e : Int) ∧ (e : Int) ≤ (n : Int) ∧ (0 : Int) ≤ ((e + 4 : Nat) : Int) ∧ ((e + 4 : Nat) : Int) ≤ ((e + 4 + d : Nat) : Int) :=
  ⟨by rw [wr_id (z := (n : Int) - (e : Int)) (by omega) (by omega), wr_id (by omega) (by omega)], wr_add e 4 (by omega), wr_add (e + 4) d (by omega), by omega, by omega, by omega, by omega, by omega, by omega, by omega⟩
theorem nums4 (n e d : Nat) (h : e + 4 + d ≤ n) : ¬ ((d : Int) > (n : Int) - (e : Int) - 4) ∧ ((e + 4 + d : Nat) : Int) ≤ (n : Int) := ⟨by omega, by omega⟩
theorem nums5 (n kk : Nat) (h : kk + 2 ≤ n) : ¬ (((kk + 2 : Nat) : Int) > (n : Int)) ∧ (0 : Int) ≤ (kk : Int) ∧ (kk : Int) ≤ (n : Int) ∧ (0 : Int) ≤ ((kk + 2 : Nat) : Int) ∧ ((kk + 2 : Nat) : Int) ≤ (n : Int) := ⟨by omega, by omega, by omega, by omega, by omega⟩
theorem j3_length (S ln : ByteArray) (t kk : Nat) (st : Int) (l : List Pr) (e : Int) (hS : S.size < 4294967296) (hs : ln.size < 4294967296) (ht : t < 4294967296) (h : kk + 2 ≤ ln.size) (hn : (bytes ln).take kk = clB)
    (he : Ev (fun k => cloisterref07_End.f k S ((t + 2 : Nat) : Int)) e) :
    ((digS ((bytes ln).drop (kk + 2)) < 0 ∨ e < 0) → Ev (fun k => rj3 k S (t : Int) ln (kk : Int) st l) badR) ∧
    (∀ (d e' : Nat), digS ((bytes ln).drop (kk + 2)) = (d : Int) → e = (e' : Int) → t + 2 ≤ e' → e' + 2 ≤ S.size → d < 100000000 →
      ((d : Int) > (S.size : Int) - e' - 4 → Ev (fun k => rj3 k S (t : Int) ln (kk : Int) st l) badR) ∧
      (e' + 4 + d ≤ S.size → ∀ r, Ev (fun k => lastR k S st l (S.extract (e' + 4) (e' + 4 + d)) (((bytes S).drop (t + 2)).take (e' - (t + 2)) == ([99, 111, 110, 110, 101, 99, 116, 105, 111, 110, 58, 32, 99, 108, 111, 115, 101] : List UInt8))) r → Ev (fun k => rj3 k S (t : Int) ln (kk : Int) st l) r)) := by
  have w2 : wrap64 ((kk : Int) + 2) = ((kk + 2 : Nat) : Int) := wr_add kk 2 (by omega)
  have w3 : wrap64 ((t : Int) + 2) = ((t + 2 : Nat) : Int) := wr_add t 2 (by omega)
  have e0 : (ln.extract 0 ((kk : Int)).toNat).toList = (bytes ln).take kk := by rw [toList_bytes, bytes_upto, Int.toNat_natCast]
  have hx : bytes (ln.extract (kk + 2) ln.size) = (bytes ln).drop (kk + 2) := bytes_from _ _
  have hd := digits_ev (ln.extract (kk + 2) ln.size) (by rw [size_bytes, hx, List.length_drop, ← size_bytes]; omega)
  rw [hx] at hd
  obtain ⟨m0, m1, m2, m3, m4⟩ := nums5 ln.size kk h
  refine ⟨fun hneg => ?_, fun d e' hdd hee h1 h2 h3 => ⟨fun hbig => ?_, fun hfit r hr => ?_⟩⟩
  · refine Ev.step (fun k => by rw [rj3, cloisterref09_Parse.j3]) ?_
    rw [w2, w3, e0, Int.toNat_natCast]
    refine Ev.neg m0 (Ev.pos m1 (Ev.pos m2 (Ev.pos hn (Ev.pos m3 (Ev.pos m4 (Ev.bind hd (Ev.bind he ?_)))))))
    by_cases g : digS ((bytes ln).drop (kk + 2)) < 0
    · exact Ev.pos g (Ev.now _)
    · exact Ev.neg g (Ev.pos (hneg.resolve_left g) (Ev.now _))
  · rw [hdd] at hd
    rw [hee] at he
    obtain ⟨w4, w5, w6, p0, p1, p2, p3, p4, p5, p6⟩ := nums3 S.size e' d t h2 hS h3 h1
    refine Ev.step (fun k => by rw [rj3, cloisterref09_Parse.j3]) ?_
    rw [w2, w3, e0, Int.toNat_natCast]
    refine Ev.neg m0 (Ev.pos m1 (Ev.pos m2 (Ev.pos hn (Ev.pos m3 (Ev.pos m4 (Ev.bind hd (Ev.bind he ?_)))))))
    rw [w4]
    exact Ev.neg p0 (Ev.neg p1 (Ev.pos hbig (Ev.now _)))
  · rw [hdd] at hd
    rw [hee] at he
    obtain ⟨w4, w5, w6, p0, p1, p2, p3, p4, p5, p6⟩ := nums3 S.size e' d t h2 hS h3 h1
    obtain ⟨q0, q1⟩ := nums4 S.size e' d hfit
    have e7 : (S.extract (t + 2) e').toList = ((bytes S).drop (t + 2)).take (e' - (t + 2)) := by rw [toList_bytes, bytes_extract]
    refine Ev.step (fun k => by rw [rj3, cloisterref09_Parse.j3]) ?_
    rw [w2, w3, e0, Int.toNat_natCast]
    refine Ev.neg m0 (Ev.pos m1 (Ev.pos m2 (Ev.pos hn (Ev.pos m3 (Ev.pos m4 (Ev.bind hd (Ev.bind he ?_)))))))
    rw [w4, w5, w6, Int.toNat_natCast, Int.toNat_natCast, Int.toNat_natCast, Int.toNat_natCast, e7]
    exact Ev.neg p0 (Ev.neg p1 (Ev.neg q0 (Ev.pos p2 (Ev.pos p3 (Ev.pos p4 (Ev.pos p5 (Ev.pos p6 (Ev.pos q1 hr))))))))

/-! ### the loop: it ends; what it tells OK is ahead; a printed reply ahead is what it tells -/
theorem refl_all (S : ByteArray) (hS : S.size < 4294967281) (st : Int) : ∀ (n t : Nat) (l : List Pr), S.size ≤ t + n → t ≤ S.size → l.length + n ≤ 4294967296 → (∀ x ∈ l, x.f0.size < 4294967296 ∧ x.f1.size < 4294967296) → hdrLen l ≤ t →
    ∃ r, Ev (fun k => rl0 k S (t : Int) st l) r ∧ Told (bytes S) r ∧ (∀ l' body cl tail, mayR st (l ++ l') body = true → (bytes S).drop t = hdrS l' ++ (footS body cl ++ tail) → bytes S = printR st (l ++ l') body cl ++ tail → r = (st, l ++ l', body, cl, ((printR st (l ++ l') body cl).length : Int), 0)) := by
  have hss := size_bytes S
  intro n
  induction n using Nat.strongRecOn with
  | _ n ih =>
    intro t l hn ht hl hx hh
    -- the line's end
    obtain ⟨e0, he0, hcase⟩ := end_total S (by omega) (S.size) t (by omega) (by omega)
    have first : ∀ l' body cl tail, mayR st (l ++ l') body = true → (bytes S).drop t = hdrS l' ++ (footS body cl ++ tail) →
        (l' = [] ∧ ∃ b, (bytes S).drop t = (clB ++ [58, 32] ++ itoaL (body.size : Int)) ++ 13 :: 10 :: b ∧ b = (coB ++ [58, 32] ++ endS cl) ++ 13 :: 10 :: (13 :: 10 :: (bytes body ++ tail)) ∧ (13 : UInt8) ∉ clB ++ [58, 32] ++ itoaL (body.size : Int)) ∨
        (∃ x l'', l' = x :: l'' ∧ fieldOk x = true ∧ (bytes S).drop t = (bytes x.f0 ++ [58, 32] ++ bytes x.f1) ++ 13 :: 10 :: (hdrS l'' ++ (footS body cl ++ tail)) ∧ (13 : UInt8) ∉ bytes x.f0 ++ [58, 32] ++ bytes x.f1) := by
      intro l' body cl tail hm hd
      unfold mayR at hm
      simp only [Bool.and_eq_true, decide_eq_true_eq] at hm
      obtain ⟨⟨⟨h1, h2⟩, h3⟩, h4⟩ := hm
      cases l' with
      | nil =>
        have hbi : i64ok (body.size : Int) := ⟨by omega, by omega⟩
        refine .inl ⟨rfl, _, ?_, rfl, ?_⟩
        · rw [hd]; unfold footS hdrS; simp
        · simp only [List.mem_append, not_or]
          exact ⟨⟨by decide, by decide⟩, itoa_not hbi 13 (by decide)⟩
      | cons x l'' =>
        have hxo : fieldOk x = true := List.all_eq_true.1 h4 x (by simp)
        have hxo' := hxo
        unfold fieldOk at hxo'
        rw [Bool.and_eq_true] at hxo'
        obtain ⟨n1, n2, n3⟩ := name_not hxo'.1
        refine .inr ⟨x, l'', rfl, hxo, ?_, ?_⟩
        · rw [hd, hdrS]; simp
        · simp only [List.mem_append, not_or]
          exact ⟨⟨n1, by decide⟩, value_not hxo'.2⟩
    rcases hcase with rfl | ⟨e, rfl, hte, hes⟩
    · -- no end
      refine ⟨badR, ?_, .inr rfl, fun l' body cl tail hm hd _ => ?_⟩
      · refine Ev.step (fun k => by rw [rl0, cloisterref09_Parse.l0]) ?_
        exact Ev.bind he0 (Ev.pos (by decide) (Ev.now _))
      · exfalso
        rcases first l' body cl tail hm hd with ⟨_, b, hd2, _, h13⟩ | ⟨x, l'', _, _, hd2, h13⟩
        · have := (line_at S (by omega) t ht _ _ h13 hd2).1
          have := Ev.unique he0 this
          omega
        · have := (line_at S (by omega) t ht _ _ h13 hd2).1
          have := Ev.unique he0 this
          omega
    · have hsz : (S.extract t e).size = e - t := by
        rw [size_bytes, bytes_extract, List.length_take, List.length_drop, ← hss]; omega
      have start : ∀ r, Ev (fun k => rj3 k S (e : Int) (S.extract t e) ((upto 58 (bytes (S.extract t e))).length : Int) st l) r → Ev (fun k => rl0 k S (t : Int) st l) r := by
        intro r hr
        refine Ev.step (fun k => by rw [rl0, cloisterref09_Parse.l0]) ?_
        refine Ev.bind he0 (Ev.neg (by omega) (Ev.pos (by omega) (Ev.pos (by omega) (Ev.pos (by omega) ?_))))
        rw [Int.toNat_natCast, Int.toNat_natCast]
        exact colon_ev S (e : Int) (S.extract t e) st l r (by omega) hr (bytes (S.extract t e)) [] rfl (by simp)
      -- what the line is, if a printed reply is ahead
      have line0 : ∀ l' body cl tail, mayR st (l ++ l') body = true → (bytes S).drop t = hdrS l' ++ (footS body cl ++ tail) →
          (l' = [] ∧ bytes (S.extract t e) = clB ++ 58 :: (32 :: itoaL (body.size : Int)) ∧ (bytes S).drop (e + 2) = (coB ++ [58, 32] ++ endS cl) ++ 13 :: 10 :: (13 :: 10 :: (bytes body ++ tail))) ∨
          (∃ x l'', l' = x :: l'' ∧ fieldOk x = true ∧ bytes (S.extract t e) = bytes x.f0 ++ 58 :: (32 :: bytes x.f1) ∧ (bytes S).drop (e + 2) = hdrS l'' ++ (footS body cl ++ tail)) := by
        intro l' body cl tail hm hd
        rcases first l' body cl tail hm hd with ⟨h0, b, hd2, hb, h13⟩ | ⟨x, l'', h0, hxo, hd2, h13⟩
        · obtain ⟨k1, k2, k3, k4⟩ := line_at S (by omega) t ht _ _ h13 hd2
          have hu := Ev.unique he0 k1
          have hu : e = t + (clB ++ [58, 32] ++ itoaL (body.size : Int)).length := by omega
          rw [← hu] at k2 k3
          exact .inl ⟨h0, by rw [k2]; simp, by rw [k3, hb]⟩
        · obtain ⟨k1, k2, k3, k4⟩ := line_at S (by omega) t ht _ _ h13 hd2
          have hu := Ev.unique he0 k1
          have hu : e = t + (bytes x.f0 ++ [58, 32] ++ bytes x.f1).length := by omega
          rw [← hu] at k2 k3
          exact .inr ⟨x, l'', h0, hxo, by rw [k2]; simp, k3⟩
      generalize hln : S.extract t e = ln at *
      have hlnb := size_bytes ln
      have hup : (upto 58 (bytes ln)).length ≤ ln.size := by
        rw [hlnb]; exact List.Sublist.length_le (List.takeWhile_sublist _)
      have huc : (58 : UInt8) ∉ clB := by decide
      by_cases hbig : (upto 58 (bytes ln)).length + 2 > ln.size
      · refine ⟨badR, start _ (j3_bad S ln e _ st l (by omega) hbig hup), .inr rfl, fun l' body cl tail hm hd _ => ?_⟩
        exfalso
        rcases line0 l' body cl tail hm hd with ⟨_, k1, _⟩ | ⟨x, l'', _, hxo, k1, _⟩
        · rw [hlnb, k1, upto_app 58 _ _ huc] at hbig
          simp [upto] at hbig
          omega
        · unfold fieldOk at hxo
          rw [Bool.and_eq_true] at hxo
          rw [hlnb, k1, upto_app 58 _ _ (name_not hxo.1).2.1] at hbig
          simp [upto] at hbig
          omega
      · by_cases hname : (bytes ln).take (upto 58 (bytes ln)).length = clB
        · -- content-length
          obtain ⟨e1, he1, hcase1⟩ := end_total S (by omega) S.size (e + 2) (by omega) (by omega)
          have hj := j3_length S ln e (upto 58 (bytes ln)).length st l e1 (by omega) (by omega) (by omega) (by omega) hname he1
          -- a printed reply: what stands behind
          have line1 : ∀ l' body cl tail, mayR st (l ++ l') body = true → (bytes S).drop t = hdrS l' ++ (footS body cl ++ tail) →
              l' = [] ∧ digS ((bytes ln).drop ((upto 58 (bytes ln)).length + 2)) = (body.size : Int) ∧ e1 = ((e + 2 + (coB ++ [58, 32] ++ endS cl).length : Nat) : Int) ∧ bytes (S.extract (e + 2) (e + 2 + (coB ++ [58, 32] ++ endS cl).length)) = coB ++ [58, 32] ++ endS cl ∧
              (bytes S).drop (e + 2 + (coB ++ [58, 32] ++ endS cl).length + 2) = 13 :: 10 :: (bytes body ++ tail) := by
            intro l' body cl tail hm hd
            rcases line0 l' body cl tail hm hd with ⟨h0, k1, k2⟩ | ⟨x, l'', _, hxo, k1, _⟩
            · have hm' := hm
              unfold mayR at hm'
              simp only [Bool.and_eq_true, decide_eq_true_eq] at hm'
              have hu : upto 58 (bytes ln) = clB := by rw [k1, upto_app 58 _ _ huc]; simp [upto]
              obtain ⟨q1, q2, q3, q4⟩ := line_at S (by omega) (e + 2) (by omega) (coB ++ [58, 32] ++ endS cl) _ (by cases cl <;> decide) k2
              refine ⟨h0, ?_, Ev.unique he1 q1, q2, q3⟩
              rw [hu, k1]
              rw [show clB ++ 58 :: 32 :: itoaL (body.size : Int) = (clB ++ [58, 32]) ++ itoaL (body.size : Int) by simp, List.drop_left' (by simp)]
              exact digS_itoa (by omega)
            · exfalso
              unfold fieldOk at hxo
              rw [Bool.and_eq_true] at hxo
              obtain ⟨n1, n2, n3⟩ := name_not hxo.1
              rw [k1, upto_app 58 _ _ n2] at hname
              simp [upto] at hname
              exact n3 hname
          by_cases hneg : digS ((bytes ln).drop ((upto 58 (bytes ln)).length + 2)) < 0 ∨ e1 < 0
          · refine ⟨badR, start _ (hj.1 hneg), .inr rfl, fun l' body cl tail hm hd _ => ?_⟩
            exfalso
            obtain ⟨_, k1, k2, _⟩ := line1 l' body cl tail hm hd
            omega
          · rcases hcase1 with rfl | ⟨e', rfl, hee, hes1⟩
            · omega
            · have hdlt : digS ((bytes ln).drop ((upto 58 (bytes ln)).length + 2)) < 100000000 := by
                unfold digS
                split
                · rename_i hc
                  have := valD_lt ((bytes ln).drop ((upto 58 (bytes ln)).length + 2)) 0 0 hc.1 (by decide)
                  have h8 : (10 : Nat) ^ (0 + ((bytes ln).drop ((upto 58 (bytes ln)).length + 2)).length) ≤ 10 ^ 8 := Nat.pow_le_pow_right (by decide) (by omega)
                  have h108 : (10 : Nat) ^ 8 = 100000000 := by decide
                  omega
                · omega
              obtain ⟨d, hd0⟩ := Int.eq_ofNat_of_zero_le (show 0 ≤ digS ((bytes ln).drop ((upto 58 (bytes ln)).length + 2)) by omega)
              obtain ⟨j1, j2⟩ := hj.2 d e' hd0 rfl hee hes1 (by omega)
              by_cases hfit : (d : Int) > (S.size : Int) - e' - 4
              · refine ⟨badR, start _ (j1 hfit), .inr rfl, fun l' body cl tail hm hd _ => ?_⟩
                exfalso
                obtain ⟨_, k1, k2, _, k4⟩ := line1 l' body cl tail hm hd
                generalize (coB ++ [58, 32] ++ endS cl).length = LL at k2 k4
                have hlen := congrArg List.length k4
                simp only [List.length_drop, List.length_append, List.length_cons] at hlen
                have hbs := size_bytes body
                omega
              · have hfit' : e' + 4 + d ≤ S.size := by omega
                obtain ⟨r, hr1, hr2, hr3⟩ := last_ev S st l (S.extract (e' + 4) (e' + 4 + d)) (((bytes S).drop (e + 2)).take (e' - (e + 2)) == ([99, 111, 110, 110, 101, 99, 116, 105, 111, 110, 58, 32, 99, 108, 111, 115, 101] : List UInt8)) hx (by omega) (by rw [size_bytes, bytes_extract, List.length_take]; omega)
                refine ⟨r, start _ (j2 hfit' r hr1), hr2, fun l' body cl tail hm hd hp => ?_⟩
                obtain ⟨k0, k1, k2, k3, k4⟩ := line1 l' body cl tail hm hd
                subst k0
                rw [List.append_nil] at hm hp ⊢
                have hbs := size_bytes body
                have hd1 : d = body.size := by omega
                have he2 : e' = e + 2 + (coB ++ [58, 32] ++ endS cl).length := by omega
                have eb : S.extract (e' + 4) (e' + 4 + d) = body := by
                  apply bytes_inj
                  rw [bytes_extract, show e' + 4 + d - (e' + 4) = body.size by omega]
                  have : (bytes S).drop (e' + 4) = bytes body ++ tail := by
                    rw [he2]
                    generalize (coB ++ [58, 32] ++ endS cl).length = LL at k4 ⊢
                    rw [show e + 2 + LL + 4 = (e + 2 + LL + 2) + 2 by omega, ← List.drop_drop, k4]
                    rfl
                  rw [this, hbs, List.take_left' rfl]
                have ec : (((bytes S).drop (e + 2)).take (e' - (e + 2)) == ([99, 111, 110, 110, 101, 99, 116, 105, 111, 110, 58, 32, 99, 108, 111, 115, 101] : List UInt8)) = cl := by
                  rw [bytes_extract, ← he2] at k3
                  rw [k3]
                  cases cl <;> decide
                rw [eb, ec] at hr3
                exact hr3 tail hm hp
        · -- a field
          have hf1 : (ln.extract 0 (upto 58 (bytes ln)).length).size = (upto 58 (bytes ln)).length := by
            rw [size_bytes, bytes_upto, List.length_take, ← hlnb]; omega
          have hf2 : (ln.extract ((upto 58 (bytes ln)).length + 2) ln.size).size = ln.size - ((upto 58 (bytes ln)).length + 2) := by
            rw [size_bytes, bytes_from, List.length_drop, ← hlnb]
          obtain ⟨r, hr1, hr2, hr3⟩ := ih (n - (e + 2 - t)) (by omega) (e + 2) (l ++ [(⟨ln.extract 0 (upto 58 (bytes ln)).length, ln.extract ((upto 58 (bytes ln)).length + 2) ln.size⟩ : Pr)]) (by omega) (by omega)
            (by simp only [List.length_append, List.length_cons, List.length_nil]; omega)
            (by
              intro x hxm
              rcases List.mem_append.1 hxm with h | h
              · exact hx x h
              · rw [List.mem_singleton] at h
                subst h
                exact ⟨by rw [hf1]; omega, by rw [hf2]; omega⟩)
            (by rw [hdrLen_app]; simp only [hdrLen]; rw [hf1, hf2]; omega)
          refine ⟨r, start _ (j3_field S ln e _ st l r (by omega) (by omega) (by omega) hname (by omega) hr1), hr2, fun l' body cl tail hm hd hp => ?_⟩
          rcases line0 l' body cl tail hm hd with ⟨_, k1, _⟩ | ⟨x, l'', h0, hxo, k1, k2⟩
          · exfalso
            apply hname
            have hu : upto 58 (bytes ln) = clB := by rw [k1, upto_app 58 _ _ huc]; simp [upto]
            rw [hu, k1]
            exact List.take_left' rfl
          · subst h0
            unfold fieldOk at hxo
            rw [Bool.and_eq_true] at hxo
            obtain ⟨n1, n2, n3⟩ := name_not hxo.1
            have hu : upto 58 (bytes ln) = bytes x.f0 := by rw [k1, upto_app 58 _ _ n2]; simp [upto]
            have hel : (⟨ln.extract 0 (upto 58 (bytes ln)).length, ln.extract ((upto 58 (bytes ln)).length + 2) ln.size⟩ : Pr) = x := by
              have e0 : ln.extract 0 (upto 58 (bytes ln)).length = x.f0 := by
                apply bytes_inj
                rw [bytes_upto, hu, k1, List.take_left' rfl]
              have e1 : ln.extract ((upto 58 (bytes ln)).length + 2) ln.size = x.f1 := by
                apply bytes_inj
                rw [bytes_from, hu, k1, show bytes x.f0 ++ 58 :: 32 :: bytes x.f1 = (bytes x.f0 ++ [58, 32]) ++ bytes x.f1 by simp, List.drop_left' (by simp)]
              rw [e0, e1]
            rw [hel] at hr3
            have := hr3 l'' body cl tail (by rw [List.append_assoc]; exact hm) k2 (by rw [List.append_assoc]; exact hp)
            rw [List.append_assoc] at this
            exact this
theorem refparse_all (S : ByteArray) (hS : S.size < 4294967281) : ∃ r, Ev (fun k => cloisterref09_Parse.f k S) r ∧ Told (bytes S) r ∧ (∀ st l body cl tail, mayR st l body = true → bytes S = printR st l body cl ++ tail → r = (st, l, body, cl, ((printR st l body cl).length : Int), 0)) := by
  have hss := size_bytes S
  -- a printed reply's first line
  have first : ∀ st l body cl tail, mayR st l body = true → bytes S = printR st l body cl ++ tail →
      200 ≤ st ∧ st ≤ 599 ∧ 15 ≤ S.size ∧ (bytes S).take 9 = [72, 84, 84, 80, 47, 49, 46, 49, 32] ∧ ((bytes S).drop 9).take 3 = itoaL st ∧ (13 : UInt8) ∉ headS st ∧ (bytes S).drop 0 = headS st ++ 13 :: 10 :: (hdrS l ++ (footS body cl ++ tail)) := by
    intro st l body cl tail hm hp
    unfold mayR at hm
    simp only [Bool.and_eq_true, decide_eq_true_eq] at hm
    obtain ⟨⟨⟨h1, h2⟩, h3⟩, h4⟩ := hm
    have hst : i64ok st := ⟨by omega, by omega⟩
    have hp0 : bytes S = headS st ++ 13 :: 10 :: (hdrS l ++ (footS body cl ++ tail)) := by rw [hp]; unfold printR; simp
    have hp1 : bytes S = [72, 84, 84, 80, 47, 49, 46, 49, 32] ++ (itoaL st ++ ([32] ++ bytes (wordsOf (findR st reasonsS)) ++ 13 :: 10 :: (hdrS l ++ (footS body cl ++ tail)))) := by rw [hp0]; unfold headS; simp
    have h3d : (itoaL st).length = 3 := by
      have key : ∀ n : Fin 400, (itoaL ((200 + n.val : Nat) : Int)).length = 3 := by decide +kernel
      have := key ⟨(st - 200).toNat, by omega⟩
      rw [show ((200 + (st - 200).toNat : Nat) : Int) = st by omega] at this
      exact this
    refine ⟨h1.1, h1.2, ?_, ?_, ?_, head_not hst, hp0⟩
    · rw [hss, hp1]; simp only [List.length_append, List.length_cons, List.length_nil]; omega
    · rw [hp1]; exact List.take_left' rfl
    · rw [hp1, List.drop_left' (by rfl)]; exact List.take_left' h3d
  have bad : ∀ (_ : ∀ st l body cl tail, mayR st l body = true → bytes S = printR st l body cl ++ tail → False), Ev (fun k => cloisterref09_Parse.f k S) badR → ∃ r, Ev (fun k => cloisterref09_Parse.f k S) r ∧ Told (bytes S) r ∧ (∀ st l body cl tail, mayR st l body = true → bytes S = printR st l body cl ++ tail → r = (st, l, body, cl, ((printR st l body cl).length : Int), 0)) :=
    fun hno hev => ⟨badR, hev, .inr rfl, fun st l body cl tail hm hp => (hno st l body cl tail hm hp).elim⟩
  by_cases h13 : (S.size : Int) < 13
  · refine bad (fun st l body cl tail hm hp => by have := (first st l body cl tail hm hp).2.2.1; omega) ?_
    unfold cloisterref09_Parse.f
    refine Ev.pos h13 ?_
    refine Ev.step (fun k => by rw [cloisterref09_Parse.j0]) ?_
    exact Ev.pos rfl (Ev.now _)
  · have hx9 : (S.extract 0 9).toList = (bytes S).take 9 := by rw [toList_bytes, bytes_upto]
    by_cases h9 : (bytes S).take 9 = [72, 84, 84, 80, 47, 49, 46, 49, 32]
    · have hb : ((S.extract 0 9).toList != ([72, 84, 84, 80, 47, 49, 46, 49, 32] : List UInt8)) = false := by rw [hx9, h9]; rfl
      have hb3 : bytes (S.extract 9 12) = ((bytes S).drop 9).take 3 := bytes_extract S 9 12
      have hdig := digits_ev (S.extract 9 12) (by rw [size_bytes, hb3, List.length_take]; omega)
      rw [hb3] at hdig
      obtain ⟨e0, he0, hcase⟩ := end_total S (by omega) S.size 0 (by omega) (by omega)
      have start : ∀ r, Ev (fun k => if e0 < 0 then (some ((0 : Int), ([] : List Pr), (⟨#[]⟩ : ByteArray), false, (0 : Int), (90 : Int))) else (cloisterref09_Parse.l0 k S (wrap64 (e0 + 2)) 0 (⟨#[]⟩ : ByteArray) false (digS (((bytes S).drop 9).take 3)) ([] : List Pr) (⟨#[]⟩ : ByteArray) false)) r → Ev (fun k => cloisterref09_Parse.f k S) r := by
        intro r hr
        unfold cloisterref09_Parse.f
        refine Ev.neg h13 (Ev.pos (by decide) (Ev.pos (by omega) ?_))
        rw [hb]
        refine Ev.step (fun k => by rw [cloisterref09_Parse.j0]) ?_
        exact Ev.neg (by decide) (Ev.pos (by decide) (Ev.pos (by omega) (Ev.bind hdig (Ev.bind he0 hr))))
      rcases hcase with rfl | ⟨e, rfl, _, hes⟩
      · refine bad (fun st l body cl tail hm hp => ?_) (start _ (Ev.pos (by decide) (Ev.now _)))
        obtain ⟨_, _, _, _, _, k1, k2⟩ := first st l body cl tail hm hp
        have := Ev.unique he0 (line_at S (by omega) 0 (by omega) _ _ k1 k2).1
        omega
      · have we : wrap64 ((e : Int) + 2) = ((e + 2 : Nat) : Int) := wr_add e 2 (by omega)
        obtain ⟨r, hr1, hr2, hr3⟩ := refl_all S hS (digS (((bytes S).drop 9).take 3)) S.size (e + 2) [] (by omega) (by omega) (by simp; omega) (by simp) (by simp [hdrLen])
        refine ⟨r, start _ (Ev.neg (by omega) (by rw [we]; exact hr1)), hr2, fun st l body cl tail hm hp => ?_⟩
        obtain ⟨k0, k00, _, _, k3, k1, k2⟩ := first st l body cl tail hm hp
        obtain ⟨q1, q2, q3, q4⟩ := line_at S (by omega) 0 (by omega) _ _ k1 k2
        have hu := Ev.unique he0 q1
        rw [k3] at hr3
        have hd : digS (itoaL st) = st := by
          have := digS_itoa (n := st.toNat) (by omega)
          rw [show ((st.toNat : Nat) : Int) = st by omega] at this
          exact this
        rw [hd] at hr3
        simp only [List.nil_append] at hr3
        exact hr3 l body cl tail hm (by rw [show e + 2 = 0 + (headS st).length + 2 by omega]; exact q3) hp
    · refine bad (fun st l body cl tail hm hp => h9 (first st l body cl tail hm hp).2.2.2.1) ?_
      unfold cloisterref09_Parse.f
      refine Ev.neg h13 (Ev.pos (by decide) (Ev.pos (by omega) ?_))
      have hb : ((S.extract 0 9).toList != ([72, 84, 84, 80, 47, 49, 46, 49, 32] : List UInt8)) = true := by rw [hx9]; exact bne_iff_ne.2 h9
      rw [hb]
      refine Ev.step (fun k => by rw [cloisterref09_Parse.j0]) ?_
      exact Ev.pos rfl (Ev.now _)
/-- The two readings of a text tell the same. -/
theorem parses_agree (S : ByteArray) (hS : S.size < 4294967281) : ∃ r, Ev (fun k => reply_Parse.f k S) r ∧ Ev (fun k => cloisterref09_Parse.f k S) r ∧ Told (bytes S) r := by
  obtain ⟨r, h1, h2⟩ := parse_total S hS
  obtain ⟨q, k1, k2, k3⟩ := refparse_all S hS
  refine ⟨r, h1, ?_, h2⟩
  have e : q = r := by
    rcases h2 with ⟨a1, a2, ⟨tail, a3⟩, a4⟩ | rfl
    · have := k3 _ _ _ _ tail a2 a3
      rw [this, ← a4, ← a1]
    · rcases k2 with ⟨b1, b2, ⟨tail, b3⟩, b4⟩ | rfl
      · have := parse_back _ _ _ _ tail S b2 b3 hS
        have := Ev.unique h1 this
        have h90 := congrArg (fun z : Rs => z.2.2.2.2.2) this
        change (90 : Int) = 0 at h90
        omega
      · rfl
  rw [← e]
  exact k1
end Go.Proofs.YtlpmifofgacgiaaDoor.Q
