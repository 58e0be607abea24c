/- reply.Print: what it answers ('f') and that the call answers so ('calls'): a Builder's walk by hand. -/
import Derived.Lib.Hide
import Derived.Test.YtlpmifofgacgiaaDoorQ5
namespace Go.Proofs.YtlpmifofgacgiaaDoor.Q
open Go.RowKit Go.Proofs.YtlpmifofgacgiaaDoorW.PrintWords Go.Proofs.YtlpmifofgacgiaaDoorW.PrintLast

abbrev Pr := S61
def hdrText : List Pr → List UInt8 → Option (List UInt8)
  | [], acc => some acc
  | x :: l, acc => if acc.length + x.f0.size + 2 + x.f1.size + 2 ≤ bigLen then hdrText l (acc ++ x.f0.data.toList ++ [58, 32] ++ x.f1.data.toList ++ [13, 10]) else none
def wordsOf (r : ByteArray × Int) : ByteArray := if r.2 = 0 then r.1 else ⟨#[83, 116, 97, 116, 117, 115]⟩
def reply_Print.f (k : Nat) (st : Int) (l : List Pr) (body : ByteArray) (cl : Bool) : Option (ByteArray × Int) :=
  (reply_may.f k st l body cl).bind fun b => if b = true then
    (reply_Reason.f k st).bind fun r => (strconv_Itoa.f st).bind fun t => (strconv_Itoa.f (body.size : Int)).bind fun n => (reply_end.f cl).bind fun e =>
      if (wordsOf r).size + t.size + n.size + e.size + body.size ≤ 1073741824 then
        (hdrText l ([72, 84, 84, 80, 47, 49, 46, 49, 32] ++ t.data.toList ++ [32] ++ (wordsOf r).data.toList ++ [13, 10])).bind fun acc =>
          if acc.length + 2147483648 ≤ bigLen then
            some (⟨(acc ++ [99, 111, 110, 116, 101, 110, 116, 45, 108, 101, 110, 103, 116, 104, 58, 32] ++ n.data.toList ++ [13, 10, 99, 111, 110, 110, 101, 99, 116, 105, 111, 110, 58, 32] ++ e.data.toList ++ [13, 10, 13, 10] ++ body.data.toList).toArray⟩, 0)
          else none
      else none
    else some (⟨#[]⟩, 90)
theorem reply_Print.mono : ∀ a0 a1 a2 a3 k, LeO (reply_Print.f k a0 a1 a2 a3) (reply_Print.f (k + 1) a0 a1 a2 a3) := by
  intro a0 a1 a2 a3 k
  exact LeO.bind (reply_may.mono _ _ _ _ k) (fun b => LeO.ite (LeO.bind (reply_Reason.mono _ k) (fun r => LeO.refl _)) (LeO.refl _))

set_option maxRecDepth 20000 in
set_option maxHeartbeats 8000000 in
theorem reply_Print.calls (k : Nat) (st : Int) (A0 : Option Addr) (c0 : Nat) (l0 : List Pr) (body : ByteArray) (cl : Bool) (r1 : ByteArray) (r2 : Int) (w : World) (hG : TabsOk w) (hr0 : Kd.C k61 w A0 l0.length l0) (hc0 : l0.length ≤ c0) (h : reply_Print.f k st l0 body cl = some (r1, r2)) :
    Calls Tryd.prog 10 #[.agg #[.int .i64 st, .slice A0 l0.length c0, .string body, .bool cl]] w fun e w' => e = .returned (.tuple #[.string r1, .int .i64 r2]) ∧ Below w.heap.size w w' := by
  have HR := Aside0.mk hr0
  have HcC := Aside0.mk hc0
  clear hr0 hc0
  obtain ⟨b, hb, h⟩ := Option.bind_eq_some_iff.mp h
  have HM := Aside0.mk hb
  clear hb
  cases b
  · rw [if_neg (by decide)] at h
    simp only [Option.some.injEq, Prod.mk.injEq] at h
    obtain ⟨rfl, rfl⟩ := h
    go_enter Tryd.func10, Tryd.ntmps10
    go_wp2_with fail
    refine (reply_may.calls k st A0 c0 l0 body cl false _ (Kd.C_alloc HR.out _) HcC.out HM.out).mono ?_
    rintro e w1 ⟨rfl, hb1⟩
    have BL1 := Aside0.mk (below_then (below_alloc (Below.refl w.heap.size w) (.cells #[.int .i64 st, .slice A0 l0.length c0, .string body, .bool cl] 28)) (by simp) hb1)
    clear hb1
    go_wp2
    go_ret2
    exact ⟨rfl, BL1.out⟩
  · rw [if_pos rfl] at h
    obtain ⟨⟨q1, q2⟩, hq, h⟩ := Option.bind_eq_some_iff.mp h
    obtain ⟨t, ht, h⟩ := Option.bind_eq_some_iff.mp h
    obtain ⟨n, hn, h⟩ := Option.bind_eq_some_iff.mp h
    obtain ⟨e0, he0, h⟩ := Option.bind_eq_some_iff.mp h
    have hsz : (wordsOf (q1, q2)).size + t.size + n.size + e0.size + body.size ≤ 1073741824 := Decidable.byContradiction fun hh => by rw [if_neg hh] at h; cases h
    rw [if_pos hsz] at h
    obtain ⟨acc, hacc, h⟩ := Option.bind_eq_some_iff.mp h
    have hbig : acc.length + 2147483648 ≤ bigLen := Decidable.byContradiction fun hh => by rw [if_neg hh] at h; cases h
    rw [if_pos hbig] at h
    simp only [Option.some.injEq, Prod.mk.injEq] at h
    obtain ⟨rfl, rfl⟩ := h
    have HQ := Aside0.mk hq
    have HT := Aside0.mk ht
    have HN := Aside0.mk hn
    have HE := Aside0.mk he0
    have HS := Aside0.mk hsz
    have HA := Aside0.mk hacc
    have HBig := Aside0.mk hbig
    have HTab := Aside0.mk hG
    clear hq ht hn he0 hsz hacc hbig hG
    go_enter Tryd.func10, Tryd.ntmps10
    have BK0 := Aside0.mk (show Blk w.heap.size 28 #[.int .i64 st, .slice A0 l0.length c0, .string body, .bool cl] (w.alloc (.cells #[.int .i64 st, .slice A0 l0.length c0, .string body, .bool cl] 28)) from heap_alloc_new w _)
    go_wp2_with fail
    refine (reply_may.calls k st A0 c0 l0 body cl true _ (Kd.C_alloc HR.out _) HcC.out HM.out).mono ?_
    rintro e w1 ⟨rfl, hb1⟩
    have BK1 := Aside0.mk (BK0.out.below hb1)
    have BL1 := Aside0.mk (below_then (below_alloc (Below.refl w.heap.size w) (.cells #[.int .i64 st, .slice A0 l0.length c0, .string body, .bool cl] 28)) (by simp) hb1)
    clear hb1 BK0
    have hy0 := BK1.out.cell 0 rfl
    go_wp2_with fail
    refine (reply_Reason.calls k st q1 q2 _ HQ.out).mono ?_
    rintro e w2 ⟨rfl, hb2⟩
    have BK2 := Aside0.mk (BK1.out.below hb2)
    have BL2 := Aside0.mk (below_step BL1.out hb2)
    clear hb2 BK1 BL1 hy0
    have BK3 := Aside0.mk (BK2.out.below (below_alloc (Below.refl _ _) (.cells #[.pointer none, .slice none 0 0] 54)))
    have BL3 := Aside0.mk (below_alloc BL2.out (.cells #[.pointer none, .slice none 0 0] 54))
    have BB3 := Aside0.mk (Bld.fresh w2)
    have HbL := Aside0.mk BL2.out.size
    have hy0 := BK3.out.cell 0 rfl
    by_cases h0 : q2 = 0
    · have hw : wordsOf (q1, q2) = q1 := if_pos h0
      rw [hw] at HS HA
      have cq : (q2 != 0) = false := by rw [h0]; rfl
      clear h0 hw BL2
      go_wp2_with fail
      refine (strconv_Itoa.calls st t _ (HTab.out.below BL3.out) HT.out).mono ?_
      rintro e w4 ⟨rfl, hb4⟩
      have BK4 := Aside0.mk (BK3.out.below hb4)
      have BB4 := Aside0.mk (BB3.out.below hb4)
      have BL4 := Aside0.mk (below_step BL3.out hb4)
      clear BK3 BB3 BL3 hb4 hy0
      have f1 : (9223372036854775807 < 9 + t.size) = False := eq_false (Nat.not_lt.2 (by have := HS.out; omega))
      have f2 : (9223372036854775807 < 9 + t.size + 1) = False := eq_false (Nat.not_lt.2 (by have := HS.out; omega))
      have f3 : (9223372036854775807 < 9 + t.size + 1 + q1.size) = False := eq_false (Nat.not_lt.2 (by have := HS.out; omega))
      have f4 : (9223372036854775807 < 9 + t.size + 1 + q1.size + 2) = False := eq_false (Nat.not_lt.2 (by have := HS.out; omega))
      go_wp2_with fail
      refine (bld_write w2.heap.size [] _ _ BB4.out (by have := HS.out; simp only [List.length_nil, ByteArray.size_append]; unfold bigLen; show 0 + (9 + _ + 1 + _ + 2) ≤ _; omega)).mono ?_
      rintro e w5 ⟨rfl, hbd, hb5, hk5⟩
      have hlm : l0.length ≤ 9223372036854775807 := Kd.C_max HR.out
      have BLT := Aside0.mk (show w.heap.size < w2.heap.size from Blk.lt BK2.out)
      have BK5 := Aside0.mk (BK4.out.kept hk5 (Nat.ne_of_lt BLT.out) (by decide))
      have BB5 := Aside0.mk hbd
      have BL5 := Aside0.mk (below_bld BL4.out hb5 HbL.out)
      clear BK4 BB4 BL4 hbd hb5 hk5
      clear BK2
      have BB6 := Aside0.mk (show Bld w2.heap.size ([72, 84, 84, 80, 47, 49, 46, 49, 32] ++ t.data.toList ++ [32] ++ q1.data.toList ++ [13, 10]) w5 from by have h_ := BB5.out; simpa using h_)
      clear BB5
      have hy1 := BK5.out.cell 1 rfl
      go_wp2_with fail
      go_loopg [32] l0.length (fun g v32 w' => ∃ (i : Nat) (ac : List UInt8), v32 = .int .i64 i ∧ i + g = l0.length ∧ Aside0 (hdrText (l0.drop i) ac = some acc) ∧ Aside0 (Bld w2.heap.size ac w') ∧ Aside0 (Blk w.heap.size 28 #[.int .i64 st, .slice A0 l0.length c0, .string body, .bool cl] w') ∧ Aside0 (Below w.heap.size w w'))
      case atStart => exact ⟨0, _, rfl, by omega, ⟨by simpa using HA.out⟩, BB6, BK5, BL5⟩
      case round =>
        clear HA BB6 BK5 BL5 hy1
        obtain ⟨i, ac, rfl, hig, HA, HBld, HBK, HB⟩ := hrel
        cases gk with
        | zero =>
          obtain rfl : i = l0.length := by omega
          have hr0 := HA.out
          rw [List.drop_length] at hr0
          obtain rfl := Option.some.inj hr0
          clear HA
          have hy2 := HBK.out.cell 2 rfl
          have hy3 := HBK.out.cell 3 rfl
          have HW := Aside0.mk (show ac.length + ((⟨#[99, 111, 110, 116, 101, 110, 116, 45, 108, 101, 110, 103, 116, 104, 58, 32]⟩ : ByteArray) ++ n ++ (⟨#[13, 10, 99, 111, 110, 110, 101, 99, 116, 105, 111, 110, 58, 32]⟩ : ByteArray) ++ e0 ++ (⟨#[13, 10, 13, 10]⟩ : ByteArray) ++ body).size ≤ bigLen from by
            have h1_ := HS.out
            have h2_ := HBig.out
            simp only [ByteArray.size_append]
            show _ + (16 + _ + 14 + _ + 4 + _) ≤ _
            omega)
          have f5 : (9223372036854775807 < 16 + n.size) = False := eq_false (Nat.not_lt.2 (by have := HS.out; omega))
          have f6 : (9223372036854775807 < 16 + n.size + 14) = False := eq_false (Nat.not_lt.2 (by have := HS.out; omega))
          have f7 : (9223372036854775807 < 16 + n.size + 14 + e0.size) = False := eq_false (Nat.not_lt.2 (by have := HS.out; omega))
          have f8 : (9223372036854775807 < 16 + n.size + 14 + e0.size + 4) = False := eq_false (Nat.not_lt.2 (by have := HS.out; omega))
          have f9 : (9223372036854775807 < 16 + n.size + 14 + e0.size + 4 + body.size) = False := eq_false (Nat.not_lt.2 (by have := HS.out; omega))
          go_wp2_with fail
          refine start_ (n := 15) (S := fun w' => w'.cell? ⟨w.heap.size, 2, none⟩ = some (.string body) ∧ w'.cell? ⟨w.heap.size, 3, none⟩ = some (.bool cl) ∧ Bld w2.heap.size ac w' ∧ Below w.heap.size w w') (ds := [14]) #[false, false, false, false, false, false, false, false, false, false, false, false, false, false, false] (by kernel_rfl) rfl rfl ⟨(by simpa using hy2), (by simpa using hy3), (HBld.out.below (below_drew (Below.refl _ _))), (below_drew HB.out)⟩ (fun hHeld => ?_)
          refine pure_ (i := 0) (N := some 45) (v := ?_) (a' := ?_) #[true, false, false, false, false, false, false, false, false, false, false, false, false, false, false] rfl rfl (by kernel_rfl) (fun _ _ _ h => h) (Or.inl ⟨by rfl, ?_⟩) ?_ ?_
          rotate_left
          · intro w'
            go_simp
            with_reducible rfl
          rotate_left
          · simp only [Act.put, List.setIfInBounds_toArray, List.set_cons_zero, List.set_cons_succ, i64_w, i32_w]
            rfl
          refine pure_ (i := 6) (N := some 51) (v := ?_) (a' := ?_) #[true, false, false, false, false, false, true, false, false, false, false, false, false, false, false] rfl rfl (by kernel_rfl) (fun _ _ _ h => h) (Or.inl ⟨by rfl, ?_⟩) ?_ ?_
          rotate_left
          · intro w'
            go_simp
            with_reducible rfl
          rotate_left
          · simp only [Act.put, List.setIfInBounds_toArray, List.set_cons_zero, List.set_cons_succ, i64_w, i32_w]
            rfl
          refine pure_ (i := 11) (N := some 56) (v := ?_) (a' := ?_) #[true, false, false, false, false, false, true, false, false, false, false, true, false, false, false] rfl rfl (by kernel_rfl) (fun _ _ _ h => h) (Or.inl ⟨by rfl, ?_⟩) ?_ ?_
          rotate_left
          · intro w'
            go_simp
            with_reducible rfl
          rotate_left
          · simp only [Act.put, List.setIfInBounds_toArray, List.set_cons_zero, List.set_cons_succ, i64_w, i32_w]
            rfl
          refine take_ (i := 1) (N := some 46) (v := ?_) (a' := ?_) #[true, true, false, false, false, false, true, false, false, false, false, true, false, false, false] rfl rfl (by kernel_rfl) (fun _ _ _ h => h) (Or.inl ⟨by rfl, ?_⟩) hHeld ?_ ?_
          rotate_left
          · rintro w' ⟨s0, s1, s2, s3⟩
            go_simp
            with_reducible rfl
          rotate_left
          · simp only [Act.put, List.setIfInBounds_toArray, List.set_cons_zero, List.set_cons_succ, i64_w, i32_w]
            rfl
          refine pure_ (i := 2) (N := some 47) (v := ?_) (a' := ?_) #[true, true, true, false, false, false, true, false, false, false, false, true, false, false, false] rfl rfl (by kernel_rfl) (fun _ _ _ h => h) (Or.inl ⟨by rfl, ?_⟩) ?_ ?_
          rotate_left
          · intro w'
            go_simp
            with_reducible rfl
          rotate_left
          · simp only [Act.put, List.setIfInBounds_toArray, List.set_cons_zero, List.set_cons_succ, i64_w, i32_w]
            rfl
          refine take_ (i := 7) (N := some 52) (v := ?_) (a' := ?_) #[true, true, true, false, false, false, true, true, false, false, false, true, false, false, false] rfl rfl (by kernel_rfl) (fun _ _ _ h => h) (Or.inl ⟨by rfl, ?_⟩) hHeld ?_ ?_
          rotate_left
          · rintro w' ⟨s0, s1, s2, s3⟩
            go_simp
            with_reducible rfl
          rotate_left
          · simp only [Act.put, List.setIfInBounds_toArray, List.set_cons_zero, List.set_cons_succ, i64_w, i32_w]
            rfl
          refine take_ (i := 12) (N := some 57) (v := ?_) (a' := ?_) #[true, true, true, false, false, false, true, true, false, false, false, true, true, false, false] rfl rfl (by kernel_rfl) (fun _ _ _ h => h) (Or.inl ⟨by rfl, ?_⟩) hHeld ?_ ?_
          rotate_left
          · rintro w' ⟨s0, s1, s2, s3⟩
            go_simp
            with_reducible rfl
          rotate_left
          · simp only [Act.put, List.setIfInBounds_toArray, List.set_cons_zero, List.set_cons_succ, i64_w, i32_w]
            rfl
          refine one_ (i := 3) (N := some 48) #[true, true, true, true, false, false, true, true, false, false, false, true, true, false, false] rfl rfl (by kernel_rfl) (by decide) (fun K hK => ?_)
          refine goes_ Tryd.func30 (by kernel_rfl) rfl #[.int .i64 (body.size : Int)] (by rfl) rfl rfl (by simp only [List.map_toArray, List.map_cons, List.map_nil]; rfl) ?_
          with_reducible refine (strconv_Itoa.calls (body.size : Int) n _ (HTab.out.below hHeld.2.2.2) HN.out).mono ?_
          rintro e w7 ⟨rfl, hb7⟩
          refine ⟨_, rfl, ?_⟩
          refine hK.out _ _ ⟨(pw_cell_below hb7 hHeld.1), (pw_cell_below hb7 hHeld.2.1), (hHeld.2.2.1.below hb7), (below_step hHeld.2.2.2 hb7)⟩ (fun hHeld => ?_)
          clear hK K
          refine norm_ (a' := ?_) ?_ ?_
          rotate_left
          · show Act.put _ (some 48) _ = _
            simp only [Act.put, List.setIfInBounds_toArray, List.set_cons_zero, List.set_cons_succ, i64_w, i32_w]
            rfl
          refine pure_ (i := 4) (N := some 49) (v := ?_) (a' := ?_) #[true, true, true, true, true, false, true, true, false, false, false, true, true, false, false] rfl rfl (by kernel_rfl) (fun _ _ _ h => h) (Or.inl ⟨by rfl, ?_⟩) ?_ ?_
          rotate_left
          · intro w'
            go_simp
            with_reducible rfl
          rotate_left
          · simp only [Act.put, List.setIfInBounds_toArray, List.set_cons_zero, List.set_cons_succ, i64_w, i32_w]
            rfl
          refine pure_ (i := 5) (N := some 50) (v := ?_) (a' := ?_) #[true, true, true, true, true, true, true, true, false, false, false, true, true, false, false] rfl rfl (by kernel_rfl) (fun _ _ _ h => h) (Or.inl ⟨by rfl, ?_⟩) ?_ ?_
          rotate_left
          · intro w'
            go_simp
            with_reducible rfl
          rotate_left
          · simp only [Act.put, List.setIfInBounds_toArray, List.set_cons_zero, List.set_cons_succ, i64_w, i32_w]
            rfl
          refine one_ (i := 8) (N := some 53) #[true, true, true, true, true, true, true, true, true, false, false, true, true, false, false] rfl rfl (by kernel_rfl) (by decide) (fun K hK => ?_)
          refine goes_ Tryd.func31 (by kernel_rfl) rfl #[.bool cl] (by rfl) rfl rfl (by simp only [List.map_toArray, List.map_cons, List.map_nil]; rfl) ?_
          with_reducible refine (reply_end.calls cl e0 _ HE.out).mono ?_
          rintro e w8 ⟨rfl, hd8⟩
          refine ⟨_, rfl, ?_⟩
          refine hK.out _ _ ⟨(pw_cell_below hd8.below hHeld.1), (pw_cell_below hd8.below hHeld.2.1), (hHeld.2.2.1.below hd8.below), (below_step hHeld.2.2.2 hd8.below)⟩ (fun hHeld => ?_)
          clear hK K
          refine norm_ (a' := ?_) ?_ ?_
          rotate_left
          · show Act.put _ (some 53) _ = _
            simp only [Act.put, List.setIfInBounds_toArray, List.set_cons_zero, List.set_cons_succ, i64_w, i32_w]
            rfl
          refine pure_ (i := 9) (N := some 54) (v := ?_) (a' := ?_) #[true, true, true, true, true, true, true, true, true, true, false, true, true, false, false] rfl rfl (by kernel_rfl) (fun _ _ _ h => h) (Or.inl ⟨by rfl, ?_⟩) ?_ ?_
          rotate_left
          · intro w'
            go_simp
            with_reducible rfl
          rotate_left
          · simp only [Act.put, List.setIfInBounds_toArray, List.set_cons_zero, List.set_cons_succ, i64_w, i32_w]
            rfl
          refine pure_ (i := 10) (N := some 55) (v := ?_) (a' := ?_) #[true, true, true, true, true, true, true, true, true, true, true, true, true, false, false] rfl rfl (by kernel_rfl) (fun _ _ _ h => h) (Or.inl ⟨by rfl, ?_⟩) ?_ ?_
          rotate_left
          · intro w'
            go_simp
            with_reducible rfl
          rotate_left
          · simp only [Act.put, List.setIfInBounds_toArray, List.set_cons_zero, List.set_cons_succ, i64_w, i32_w]
            rfl
          refine pure_ (i := 13) (N := some 58) (v := ?_) (a' := ?_) #[true, true, true, true, true, true, true, true, true, true, true, true, true, true, false] rfl rfl (by kernel_rfl) (fun _ _ _ h => h) (Or.inl ⟨by rfl, ?_⟩) ?_ ?_
          rotate_left
          · intro w'
            go_simp
            with_reducible rfl
          rotate_left
          · simp only [Act.put, List.setIfInBounds_toArray, List.set_cons_zero, List.set_cons_succ, i64_w, i32_w]
            rfl
          refine last_ (i := 14) (N := some 59) #[true, true, true, true, true, true, true, true, true, true, true, true, true, true, true] rfl rfl (by kernel_rfl) (by decide) (fun K hK => ?_)
          refine goes_ Tryd.func29 (by kernel_rfl) rfl #[.pointer (some ⟨w2.heap.size, 0, none⟩), .string ((⟨#[99, 111, 110, 116, 101, 110, 116, 45, 108, 101, 110, 103, 116, 104, 58, 32]⟩ : ByteArray) ++ n ++ (⟨#[13, 10, 99, 111, 110, 110, 101, 99, 116, 105, 111, 110, 58, 32]⟩ : ByteArray) ++ e0 ++ (⟨#[13, 10, 13, 10]⟩ : ByteArray) ++ body)] (by rfl) rfl rfl (by simp only [List.map_toArray, List.map_cons, List.map_nil]; rfl) ?_
          with_reducible refine (bld_write w2.heap.size ac ((⟨#[99, 111, 110, 116, 101, 110, 116, 45, 108, 101, 110, 103, 116, 104, 58, 32]⟩ : ByteArray) ++ n ++ (⟨#[13, 10, 99, 111, 110, 110, 101, 99, 116, 105, 111, 110, 58, 32]⟩ : ByteArray) ++ e0 ++ (⟨#[13, 10, 13, 10]⟩ : ByteArray) ++ body) _ hHeld.2.2.1 HW.out).mono ?_
          rintro e w9 ⟨rfl, hbd, hb9, hk9⟩
          refine ⟨_, rfl, ?_⟩
          have BB9 := Aside0.mk hbd
          have BL9 := Aside0.mk (below_bld hHeld.2.2.2 hb9 HbL.out)
          refine hK.out _ _ ?_
          clear hK K
          refine norm_ (a' := ?_) ?_ ?_
          rotate_left
          · show Act.put _ (some 59) _ = _
            simp only [Act.put, List.setIfInBounds_toArray, List.set_cons_zero, List.set_cons_succ, i64_w, i32_w]
            rfl
          refine done_ (by kernel_rfl) ?_
          go_wp2_with fail
          refine (bld_string w2.heap.size _ _ BB9.out).mono ?_
          rintro e w10 ⟨rfl, hb10⟩
          have BL10 := Aside0.mk (below_bld BL9.out hb10 HbL.out)
          clear hb10
          go_wp2
          go_ret2
          refine ⟨?_, BL10.out⟩
          simp
        | succ g =>
          have hi : i < l0.length := by omega
          have hA := HA.out
          rw [List.drop_eq_getElem_cons hi, hdrText] at hA
          obtain ⟨ad, e0, hx0, hx1⟩ := at_T61 HR.out (i : Int) (by omega) (by omega)
          cases e0
          have hel : rd_T61 l0 (i : Int) = l0[i] := by simp [rd_T61, List.getD_eq_getElem?_getD, hi]
          rw [hel, Int.toNat_natCast] at hx0 hx1
          generalize hL : l0[i] = x at *
          clear hL hel
          have hlim : ac.length + x.f0.size + 2 + x.f1.size + 2 ≤ bigLen := Decidable.byContradiction fun hh => by rw [if_neg hh] at hA; cases hA
          rw [if_pos hlim] at hA
          have HA3 := Aside0.mk hA
          have HL := Aside0.mk hlim
          clear hA HA hlim
          replace hx0 := (HB.out.cell (World.block_lt_of_cell? w _ hx0)).trans hx0
          replace hx1 := (HB.out.cell (World.block_lt_of_cell? w _ hx1)).trans hx1
          have p0 := eq_true hi
          have BK1 := Aside0.mk (show Blk wr.heap.size 61 #[.string x.f0, .string x.f1] (wr.alloc (.cells #[.string x.f0, .string x.f1] 61)) from heap_alloc_new wr _)
          have BB1 := Aside0.mk (HBld.out.below (below_alloc (Below.refl _ _) (.cells #[.string x.f0, .string x.f1] 61)))
          have BQ1 := Aside0.mk (HBK.out.below (below_alloc (Below.refl _ _) (.cells #[.string x.f0, .string x.f1] 61)))
          have BL1 := Aside0.mk (below_alloc HB.out (.cells #[.string x.f0, .string x.f1] 61))
          have hq0 := BK1.out.cell 0 rfl
          have hq1 := BK1.out.cell 1 rfl
          have hqb := Aside0.mk (Blk.lt HBK.out)
          clear HBld HB HBK
          have g1 : (9223372036854775807 < x.f0.size + 2) = False := eq_false (Nat.not_lt.2 (by have := HL.out; unfold bigLen at this; omega))
          have g2 : (9223372036854775807 < x.f0.size + 2 + x.f1.size) = False := eq_false (Nat.not_lt.2 (by have := HL.out; unfold bigLen at this; omega))
          have g3 : (9223372036854775807 < x.f0.size + 2 + x.f1.size + 2) = False := eq_false (Nat.not_lt.2 (by have := HL.out; unfold bigLen at this; omega))
          go_wp2_with fail
          refine (bld_write w2.heap.size ac _ _ BB1.out (by have := HL.out; simp only [ByteArray.size_append]; show _ + (x.f0.size + 2 + x.f1.size + 2) ≤ _; omega)).mono ?_
          rintro e w3 ⟨rfl, hbd, hb3, hk3⟩
          have BB3 := Aside0.mk hbd
          have BQ3 := Aside0.mk (BQ1.out.kept hk3 (by have h1_ := BLT.out; exact Nat.ne_of_lt h1_) (by decide))
          have BL3 := Aside0.mk (below_bld BL1.out hb3 HbL.out)
          clear BK1 BB1 BQ1 BL1 hbd hb3 hk3 hq0 hq1
          go_wp2
          go_roundg g
          case measure => omega
          case rel => exact ⟨i + 1, _, by go_num, by omega, HA3, ⟨by have h_ := BB3.out; simpa using h_⟩, BQ3, BL3⟩
    · have hw : wordsOf (q1, q2) = ⟨#[83, 116, 97, 116, 117, 115]⟩ := if_neg h0
      rw [hw] at HS HA
      have cq : (q2 != 0) = true := bne_iff_ne.2 h0
      have h6 : (⟨#[83, 116, 97, 116, 117, 115]⟩ : ByteArray).size = 6 := rfl
      rw [h6] at HS
      clear h0 hw BL2
      go_wp2_with fail
      refine (strconv_Itoa.calls st t _ (HTab.out.below BL3.out) HT.out).mono ?_
      rintro e w4 ⟨rfl, hb4⟩
      have BK4 := Aside0.mk (BK3.out.below hb4)
      have BB4 := Aside0.mk (BB3.out.below hb4)
      have BL4 := Aside0.mk (below_step BL3.out hb4)
      clear BK3 BB3 BL3 hb4 hy0
      have f1 : (9223372036854775807 < 9 + t.size) = False := eq_false (Nat.not_lt.2 (by have := HS.out; omega))
      have f2 : (9223372036854775807 < 9 + t.size + 1) = False := eq_false (Nat.not_lt.2 (by have := HS.out; omega))
      have f3 : (9223372036854775807 < 9 + t.size + 1 + 6) = False := eq_false (Nat.not_lt.2 (by have := HS.out; omega))
      have f4 : (9223372036854775807 < 9 + t.size + 1 + 6 + 2) = False := eq_false (Nat.not_lt.2 (by have := HS.out; omega))
      go_wp2_with fail
      refine (bld_write w2.heap.size [] _ _ BB4.out (by have := HS.out; simp only [List.length_nil, ByteArray.size_append]; unfold bigLen; show 0 + (9 + _ + 1 + _ + 2) ≤ _; omega)).mono ?_
      rintro e w5 ⟨rfl, hbd, hb5, hk5⟩
      have hlm : l0.length ≤ 9223372036854775807 := Kd.C_max HR.out
      have BLT := Aside0.mk (show w.heap.size < w2.heap.size from Blk.lt BK2.out)
      have BK5 := Aside0.mk (BK4.out.kept hk5 (Nat.ne_of_lt BLT.out) (by decide))
      have BB5 := Aside0.mk hbd
      have BL5 := Aside0.mk (below_bld BL4.out hb5 HbL.out)
      clear BK4 BB4 BL4 hbd hb5 hk5
      clear BK2
      have BB6 := Aside0.mk (show Bld w2.heap.size ([72, 84, 84, 80, 47, 49, 46, 49, 32] ++ t.data.toList ++ [32] ++ [83, 116, 97, 116, 117, 115] ++ [13, 10]) w5 from by have h_ := BB5.out; simpa using h_)
      clear BB5
      have hy1 := BK5.out.cell 1 rfl
      go_wp2_with fail
      go_loopg [32] l0.length (fun g v32 w' => ∃ (i : Nat) (ac : List UInt8), v32 = .int .i64 i ∧ i + g = l0.length ∧ Aside0 (hdrText (l0.drop i) ac = some acc) ∧ Aside0 (Bld w2.heap.size ac w') ∧ Aside0 (Blk w.heap.size 28 #[.int .i64 st, .slice A0 l0.length c0, .string body, .bool cl] w') ∧ Aside0 (Below w.heap.size w w'))
      case atStart => exact ⟨0, _, rfl, by omega, ⟨by simpa using HA.out⟩, BB6, BK5, BL5⟩
      case round =>
        clear HA BB6 BK5 BL5 hy1
        obtain ⟨i, ac, rfl, hig, HA, HBld, HBK, HB⟩ := hrel
        cases gk with
        | zero =>
          obtain rfl : i = l0.length := by omega
          have hr0 := HA.out
          rw [List.drop_length] at hr0
          obtain rfl := Option.some.inj hr0
          clear HA
          have hy2 := HBK.out.cell 2 rfl
          have hy3 := HBK.out.cell 3 rfl
          have HW := Aside0.mk (show ac.length + ((⟨#[99, 111, 110, 116, 101, 110, 116, 45, 108, 101, 110, 103, 116, 104, 58, 32]⟩ : ByteArray) ++ n ++ (⟨#[13, 10, 99, 111, 110, 110, 101, 99, 116, 105, 111, 110, 58, 32]⟩ : ByteArray) ++ e0 ++ (⟨#[13, 10, 13, 10]⟩ : ByteArray) ++ body).size ≤ bigLen from by
            have h1_ := HS.out
            have h2_ := HBig.out
            simp only [ByteArray.size_append]
            show _ + (16 + _ + 14 + _ + 4 + _) ≤ _
            omega)
          have f5 : (9223372036854775807 < 16 + n.size) = False := eq_false (Nat.not_lt.2 (by have := HS.out; omega))
          have f6 : (9223372036854775807 < 16 + n.size + 14) = False := eq_false (Nat.not_lt.2 (by have := HS.out; omega))
          have f7 : (9223372036854775807 < 16 + n.size + 14 + e0.size) = False := eq_false (Nat.not_lt.2 (by have := HS.out; omega))
          have f8 : (9223372036854775807 < 16 + n.size + 14 + e0.size + 4) = False := eq_false (Nat.not_lt.2 (by have := HS.out; omega))
          have f9 : (9223372036854775807 < 16 + n.size + 14 + e0.size + 4 + body.size) = False := eq_false (Nat.not_lt.2 (by have := HS.out; omega))
          go_wp2_with fail
          refine start_ (n := 15) (S := fun w' => w'.cell? ⟨w.heap.size, 2, none⟩ = some (.string body) ∧ w'.cell? ⟨w.heap.size, 3, none⟩ = some (.bool cl) ∧ Bld w2.heap.size ac w' ∧ Below w.heap.size w w') (ds := [14]) #[false, false, false, false, false, false, false, false, false, false, false, false, false, false, false] (by kernel_rfl) rfl rfl ⟨(by simpa using hy2), (by simpa using hy3), (HBld.out.below (below_drew (Below.refl _ _))), (below_drew HB.out)⟩ (fun hHeld => ?_)
          refine pure_ (i := 0) (N := some 45) (v := ?_) (a' := ?_) #[true, false, false, false, false, false, false, false, false, false, false, false, false, false, false] rfl rfl (by kernel_rfl) (fun _ _ _ h => h) (Or.inl ⟨by rfl, ?_⟩) ?_ ?_
          rotate_left
          · intro w'
            go_simp
            with_reducible rfl
          rotate_left
          · simp only [Act.put, List.setIfInBounds_toArray, List.set_cons_zero, List.set_cons_succ, i64_w, i32_w]
            rfl
          refine pure_ (i := 6) (N := some 51) (v := ?_) (a' := ?_) #[true, false, false, false, false, false, true, false, false, false, false, false, false, false, false] rfl rfl (by kernel_rfl) (fun _ _ _ h => h) (Or.inl ⟨by rfl, ?_⟩) ?_ ?_
          rotate_left
          · intro w'
            go_simp
            with_reducible rfl
          rotate_left
          · simp only [Act.put, List.setIfInBounds_toArray, List.set_cons_zero, List.set_cons_succ, i64_w, i32_w]
            rfl
          refine pure_ (i := 11) (N := some 56) (v := ?_) (a' := ?_) #[true, false, false, false, false, false, true, false, false, false, false, true, false, false, false] rfl rfl (by kernel_rfl) (fun _ _ _ h => h) (Or.inl ⟨by rfl, ?_⟩) ?_ ?_
          rotate_left
          · intro w'
            go_simp
            with_reducible rfl
          rotate_left
          · simp only [Act.put, List.setIfInBounds_toArray, List.set_cons_zero, List.set_cons_succ, i64_w, i32_w]
            rfl
          refine take_ (i := 1) (N := some 46) (v := ?_) (a' := ?_) #[true, true, false, false, false, false, true, false, false, false, false, true, false, false, false] rfl rfl (by kernel_rfl) (fun _ _ _ h => h) (Or.inl ⟨by rfl, ?_⟩) hHeld ?_ ?_
          rotate_left
          · rintro w' ⟨s0, s1, s2, s3⟩
            go_simp
            with_reducible rfl
          rotate_left
          · simp only [Act.put, List.setIfInBounds_toArray, List.set_cons_zero, List.set_cons_succ, i64_w, i32_w]
            rfl
          refine pure_ (i := 2) (N := some 47) (v := ?_) (a' := ?_) #[true, true, true, false, false, false, true, false, false, false, false, true, false, false, false] rfl rfl (by kernel_rfl) (fun _ _ _ h => h) (Or.inl ⟨by rfl, ?_⟩) ?_ ?_
          rotate_left
          · intro w'
            go_simp
            with_reducible rfl
          rotate_left
          · simp only [Act.put, List.setIfInBounds_toArray, List.set_cons_zero, List.set_cons_succ, i64_w, i32_w]
            rfl
          refine take_ (i := 7) (N := some 52) (v := ?_) (a' := ?_) #[true, true, true, false, false, false, true, true, false, false, false, true, false, false, false] rfl rfl (by kernel_rfl) (fun _ _ _ h => h) (Or.inl ⟨by rfl, ?_⟩) hHeld ?_ ?_
          rotate_left
          · rintro w' ⟨s0, s1, s2, s3⟩
            go_simp
            with_reducible rfl
          rotate_left
          · simp only [Act.put, List.setIfInBounds_toArray, List.set_cons_zero, List.set_cons_succ, i64_w, i32_w]
            rfl
          refine take_ (i := 12) (N := some 57) (v := ?_) (a' := ?_) #[true, true, true, false, false, false, true, true, false, false, false, true, true, false, false] rfl rfl (by kernel_rfl) (fun _ _ _ h => h) (Or.inl ⟨by rfl, ?_⟩) hHeld ?_ ?_
          rotate_left
          · rintro w' ⟨s0, s1, s2, s3⟩
            go_simp
            with_reducible rfl
          rotate_left
          · simp only [Act.put, List.setIfInBounds_toArray, List.set_cons_zero, List.set_cons_succ, i64_w, i32_w]
            rfl
          refine one_ (i := 3) (N := some 48) #[true, true, true, true, false, false, true, true, false, false, false, true, true, false, false] rfl rfl (by kernel_rfl) (by decide) (fun K hK => ?_)
          refine goes_ Tryd.func30 (by kernel_rfl) rfl #[.int .i64 (body.size : Int)] (by rfl) rfl rfl (by simp only [List.map_toArray, List.map_cons, List.map_nil]; rfl) ?_
          with_reducible refine (strconv_Itoa.calls (body.size : Int) n _ (HTab.out.below hHeld.2.2.2) HN.out).mono ?_
          rintro e w7 ⟨rfl, hb7⟩
          refine ⟨_, rfl, ?_⟩
          refine hK.out _ _ ⟨(pw_cell_below hb7 hHeld.1), (pw_cell_below hb7 hHeld.2.1), (hHeld.2.2.1.below hb7), (below_step hHeld.2.2.2 hb7)⟩ (fun hHeld => ?_)
          clear hK K
          refine norm_ (a' := ?_) ?_ ?_
          rotate_left
          · show Act.put _ (some 48) _ = _
            simp only [Act.put, List.setIfInBounds_toArray, List.set_cons_zero, List.set_cons_succ, i64_w, i32_w]
            rfl
          refine pure_ (i := 4) (N := some 49) (v := ?_) (a' := ?_) #[true, true, true, true, true, false, true, true, false, false, false, true, true, false, false] rfl rfl (by kernel_rfl) (fun _ _ _ h => h) (Or.inl ⟨by rfl, ?_⟩) ?_ ?_
          rotate_left
          · intro w'
            go_simp
            with_reducible rfl
          rotate_left
          · simp only [Act.put, List.setIfInBounds_toArray, List.set_cons_zero, List.set_cons_succ, i64_w, i32_w]
            rfl
          refine pure_ (i := 5) (N := some 50) (v := ?_) (a' := ?_) #[true, true, true, true, true, true, true, true, false, false, false, true, true, false, false] rfl rfl (by kernel_rfl) (fun _ _ _ h => h) (Or.inl ⟨by rfl, ?_⟩) ?_ ?_
          rotate_left
          · intro w'
            go_simp
            with_reducible rfl
          rotate_left
          · simp only [Act.put, List.setIfInBounds_toArray, List.set_cons_zero, List.set_cons_succ, i64_w, i32_w]
            rfl
          refine one_ (i := 8) (N := some 53) #[true, true, true, true, true, true, true, true, true, false, false, true, true, false, false] rfl rfl (by kernel_rfl) (by decide) (fun K hK => ?_)
          refine goes_ Tryd.func31 (by kernel_rfl) rfl #[.bool cl] (by rfl) rfl rfl (by simp only [List.map_toArray, List.map_cons, List.map_nil]; rfl) ?_
          with_reducible refine (reply_end.calls cl e0 _ HE.out).mono ?_
          rintro e w8 ⟨rfl, hd8⟩
          refine ⟨_, rfl, ?_⟩
          refine hK.out _ _ ⟨(pw_cell_below hd8.below hHeld.1), (pw_cell_below hd8.below hHeld.2.1), (hHeld.2.2.1.below hd8.below), (below_step hHeld.2.2.2 hd8.below)⟩ (fun hHeld => ?_)
          clear hK K
          refine norm_ (a' := ?_) ?_ ?_
          rotate_left
          · show Act.put _ (some 53) _ = _
            simp only [Act.put, List.setIfInBounds_toArray, List.set_cons_zero, List.set_cons_succ, i64_w, i32_w]
            rfl
          refine pure_ (i := 9) (N := some 54) (v := ?_) (a' := ?_) #[true, true, true, true, true, true, true, true, true, true, false, true, true, false, false] rfl rfl (by kernel_rfl) (fun _ _ _ h => h) (Or.inl ⟨by rfl, ?_⟩) ?_ ?_
          rotate_left
          · intro w'
            go_simp
            with_reducible rfl
          rotate_left
          · simp only [Act.put, List.setIfInBounds_toArray, List.set_cons_zero, List.set_cons_succ, i64_w, i32_w]
            rfl
          refine pure_ (i := 10) (N := some 55) (v := ?_) (a' := ?_) #[true, true, true, true, true, true, true, true, true, true, true, true, true, false, false] rfl rfl (by kernel_rfl) (fun _ _ _ h => h) (Or.inl ⟨by rfl, ?_⟩) ?_ ?_
          rotate_left
          · intro w'
            go_simp
            with_reducible rfl
          rotate_left
          · simp only [Act.put, List.setIfInBounds_toArray, List.set_cons_zero, List.set_cons_succ, i64_w, i32_w]
            rfl
          refine pure_ (i := 13) (N := some 58) (v := ?_) (a' := ?_) #[true, true, true, true, true, true, true, true, true, true, true, true, true, true, false] rfl rfl (by kernel_rfl) (fun _ _ _ h => h) (Or.inl ⟨by rfl, ?_⟩) ?_ ?_
          rotate_left
          · intro w'
            go_simp
            with_reducible rfl
          rotate_left
          · simp only [Act.put, List.setIfInBounds_toArray, List.set_cons_zero, List.set_cons_succ, i64_w, i32_w]
            rfl
          refine last_ (i := 14) (N := some 59) #[true, true, true, true, true, true, true, true, true, true, true, true, true, true, true] rfl rfl (by kernel_rfl) (by decide) (fun K hK => ?_)
          refine goes_ Tryd.func29 (by kernel_rfl) rfl #[.pointer (some ⟨w2.heap.size, 0, none⟩), .string ((⟨#[99, 111, 110, 116, 101, 110, 116, 45, 108, 101, 110, 103, 116, 104, 58, 32]⟩ : ByteArray) ++ n ++ (⟨#[13, 10, 99, 111, 110, 110, 101, 99, 116, 105, 111, 110, 58, 32]⟩ : ByteArray) ++ e0 ++ (⟨#[13, 10, 13, 10]⟩ : ByteArray) ++ body)] (by rfl) rfl rfl (by simp only [List.map_toArray, List.map_cons, List.map_nil]; rfl) ?_
          with_reducible refine (bld_write w2.heap.size ac ((⟨#[99, 111, 110, 116, 101, 110, 116, 45, 108, 101, 110, 103, 116, 104, 58, 32]⟩ : ByteArray) ++ n ++ (⟨#[13, 10, 99, 111, 110, 110, 101, 99, 116, 105, 111, 110, 58, 32]⟩ : ByteArray) ++ e0 ++ (⟨#[13, 10, 13, 10]⟩ : ByteArray) ++ body) _ hHeld.2.2.1 HW.out).mono ?_
          rintro e w9 ⟨rfl, hbd, hb9, hk9⟩
          refine ⟨_, rfl, ?_⟩
          have BB9 := Aside0.mk hbd
          have BL9 := Aside0.mk (below_bld hHeld.2.2.2 hb9 HbL.out)
          refine hK.out _ _ ?_
          clear hK K
          refine norm_ (a' := ?_) ?_ ?_
          rotate_left
          · show Act.put _ (some 59) _ = _
            simp only [Act.put, List.setIfInBounds_toArray, List.set_cons_zero, List.set_cons_succ, i64_w, i32_w]
            rfl
          refine done_ (by kernel_rfl) ?_
          go_wp2_with fail
          refine (bld_string w2.heap.size _ _ BB9.out).mono ?_
          rintro e w10 ⟨rfl, hb10⟩
          have BL10 := Aside0.mk (below_bld BL9.out hb10 HbL.out)
          clear hb10
          go_wp2
          go_ret2
          refine ⟨?_, BL10.out⟩
          simp
        | succ g =>
          have hi : i < l0.length := by omega
          have hA := HA.out
          rw [List.drop_eq_getElem_cons hi, hdrText] at hA
          obtain ⟨ad, e0, hx0, hx1⟩ := at_T61 HR.out (i : Int) (by omega) (by omega)
          cases e0
          have hel : rd_T61 l0 (i : Int) = l0[i] := by simp [rd_T61, List.getD_eq_getElem?_getD, hi]
          rw [hel, Int.toNat_natCast] at hx0 hx1
          generalize hL : l0[i] = x at *
          clear hL hel
          have hlim : ac.length + x.f0.size + 2 + x.f1.size + 2 ≤ bigLen := Decidable.byContradiction fun hh => by rw [if_neg hh] at hA; cases hA
          rw [if_pos hlim] at hA
          have HA3 := Aside0.mk hA
          have HL := Aside0.mk hlim
          clear hA HA hlim
          replace hx0 := (HB.out.cell (World.block_lt_of_cell? w _ hx0)).trans hx0
          replace hx1 := (HB.out.cell (World.block_lt_of_cell? w _ hx1)).trans hx1
          have p0 := eq_true hi
          have BK1 := Aside0.mk (show Blk wr.heap.size 61 #[.string x.f0, .string x.f1] (wr.alloc (.cells #[.string x.f0, .string x.f1] 61)) from heap_alloc_new wr _)
          have BB1 := Aside0.mk (HBld.out.below (below_alloc (Below.refl _ _) (.cells #[.string x.f0, .string x.f1] 61)))
          have BQ1 := Aside0.mk (HBK.out.below (below_alloc (Below.refl _ _) (.cells #[.string x.f0, .string x.f1] 61)))
          have BL1 := Aside0.mk (below_alloc HB.out (.cells #[.string x.f0, .string x.f1] 61))
          have hq0 := BK1.out.cell 0 rfl
          have hq1 := BK1.out.cell 1 rfl
          have hqb := Aside0.mk (Blk.lt HBK.out)
          clear HBld HB HBK
          have g1 : (9223372036854775807 < x.f0.size + 2) = False := eq_false (Nat.not_lt.2 (by have := HL.out; unfold bigLen at this; omega))
          have g2 : (9223372036854775807 < x.f0.size + 2 + x.f1.size) = False := eq_false (Nat.not_lt.2 (by have := HL.out; unfold bigLen at this; omega))
          have g3 : (9223372036854775807 < x.f0.size + 2 + x.f1.size + 2) = False := eq_false (Nat.not_lt.2 (by have := HL.out; unfold bigLen at this; omega))
          go_wp2_with fail
          refine (bld_write w2.heap.size ac _ _ BB1.out (by have := HL.out; simp only [ByteArray.size_append]; show _ + (x.f0.size + 2 + x.f1.size + 2) ≤ _; omega)).mono ?_
          rintro e w3 ⟨rfl, hbd, hb3, hk3⟩
          have BB3 := Aside0.mk hbd
          have BQ3 := Aside0.mk (BQ1.out.kept hk3 (by have h1_ := BLT.out; exact Nat.ne_of_lt h1_) (by decide))
          have BL3 := Aside0.mk (below_bld BL1.out hb3 HbL.out)
          clear BK1 BB1 BQ1 BL1 hbd hb3 hk3 hq0 hq1
          go_wp2
          go_roundg g
          case measure => omega
          case rel => exact ⟨i + 1, _, by go_num, by omega, HA3, ⟨by have h_ := BB3.out; simpa using h_⟩, BQ3, BL3⟩
end Go.Proofs.YtlpmifofgacgiaaDoor.Q
