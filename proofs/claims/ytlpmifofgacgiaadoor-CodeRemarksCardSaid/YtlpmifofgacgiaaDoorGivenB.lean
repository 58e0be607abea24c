/- code.Check and code.Print, walked by hand: a function value handed to slices.IndexFunc; a strings.Builder. -/
import Derived.Test.YtlpmifofgacgiaaDoorGivenA
import Derived.Test.YtlpmifofgacgiaaDoorQ5
import Derived.Test.YtlpmifofgacgiaaDoorWLast
import Derived.Lib.Hide
import Derived.Test.YtlpmifofgacgiaaDoorBld
namespace Go.Proofs.YtlpmifofgacgiaaDoor.Q
open Go.RowKit Go.Proofs.YtlpmifofgacgiaaDoorW.PrintWords Go.Proofs.YtlpmifofgacgiaaDoorW.PrintLast

/-! ### code.Check -/
def code_bad (k : Nat) (n : Int) : List (S85) → Int → Option (Option Int)
  | [], _ => some none
  | x :: l, i => (code_may.f k x.f0 x.f1 n).bind fun b => if b = true then code_bad k n l (i + 1) else some (some i)
def code_Check.f (k : Nat) (l : List (S85)) : Option (Int × Int) := if l.length < 1 then some (2, 0) else if 1024 < l.length then some (2, 0) else (code_bad k l.length l 0).bind fun o => match o with | none => some (0, 0) | some i => some (130, i)

theorem check1.calls (k : Nat) (a0 a1 : Int) (b : Nat) (A : Option Addr) (n c : Nat) (r : Bool) (w : World) (hc : w.cell? ⟨b, 0, none⟩ = some (.slice A n c)) (h : code_may.f k a0 a1 n = some r) :
    Calls Tryd.prog 41 #[.agg #[.int .i64 a0, .int .i64 a1], .pointer (some ⟨b, 0, none⟩)] w fun e w' => e = .returned (.bool !r) ∧ Below w.heap.size w w' := by
  have H := Aside0.mk h
  clear h
  have hb : b < w.heap.size := World.block_lt_of_cell? w _ hc
  go_enter Tryd.func41, Tryd.ntmps41
  go_wp2_with (go_at_call 42; (with_reducible refine (code_may.calls k a0 a1 n r _ H.out).mono ?_); rintro e w1 ⟨rfl, hb1⟩)
  go_ret
  exact ⟨rfl, below_then (below_alloc (Below.refl _ _) _) (by simp) hb1⟩

set_option maxHeartbeats 4000000 in
theorem indexFunc1.calls (k : Nat) (b : Nat) (A : Option Addr) (c : Nat) (l : List (S85)) (r : Option Int) (w : World) (hc : w.cell? ⟨b, 0, none⟩ = some (.slice A l.length c)) (hr : Kd.C k85 w A l.length l)
    (hlm : l.length ≤ 1024) (h : code_bad k l.length l 0 = some r) :
    Calls Tryd.prog 40 #[.slice A l.length c, .func (.func 41) #[] #[.pointer (some ⟨b, 0, none⟩)]] w fun e w' => e = .returned (.int .i64 (r.getD (-1))) ∧ Below w.heap.size w w' := by
  have H := Aside0.mk h
  have HR := Aside0.mk hr
  have HC := Aside0.mk hc
  clear h hr hc
  have HB := Aside0.mk (Below.refl w.heap.size w)
  go_enter Tryd.func40, Tryd.ntmps40
  go_wp2
  go_loopg [8] l.length (fun g v8 w' => ∃ i : Nat, v8 = .int .i64 i ∧ i + g = l.length ∧ Aside0 (code_bad k l.length (l.drop i) i = some r) ∧ Aside0 (Below w.heap.size w w'))
  case atStart => exact ⟨0, rfl, by omega, ⟨by simpa using H.out⟩, HB⟩
  case round =>
    obtain ⟨i, rfl, hig, HA, HB⟩ := hrel
    clear H
    cases gk with
    | zero =>
      obtain rfl : i = l.length := by omega
      have hr0 : r = none := by
        have := HA.out
        rw [List.drop_length] at this
        exact (Option.some.inj this).symm
      subst hr0
      go_wp2
      go_ret
      exact ⟨rfl, HB.out⟩
    | succ g =>
      have hi : i < l.length := by omega
      have hA := HA.out
      rw [List.drop_eq_getElem_cons hi, code_bad] at hA
      obtain ⟨t, ht, hA⟩ := Option.bind_eq_some_iff.mp hA
      have HT := Aside0.mk ht
      have HA2 := Aside0.mk hA
      clear ht HA
      obtain ⟨ad, e0, hx0, hx1⟩ := at_T85 HR.out (i : Int) (by omega) (by omega)
      cases e0
      have hel : rd_T85 l (i : Int) = l[i] := by simp [rd_T85, List.getD_eq_getElem?_getD, hi]
      rw [hel, Int.toNat_natCast] at hx0 hx1
      replace hx0 := (HB.out.cell (World.block_lt_of_cell? w _ hx0)).trans hx0
      replace hx1 := (HB.out.cell (World.block_lt_of_cell? w _ hx1)).trans hx1
      have HCn := Aside0.mk ((HB.out.cell (World.block_lt_of_cell? w _ HC.out)).trans HC.out)
      have p0 := eq_true hi
      clear hel
      cases t
      · have hr0 : r = some (i : Int) := by
          have := HA2.out
          rw [if_neg (by decide)] at this
          exact (Option.some.inj this).symm
        subst hr0
        clear hA HA2
        go_wp2_with (go_at_call 41; (with_reducible refine (check1.calls k _ _ b _ _ _ false _ HCn.out HT.out).mono ?_); rintro e w1 ⟨rfl, hb1⟩)
        go_ret
        exact ⟨rfl, below_step HB.out hb1⟩
      · have HA3 : Aside0 (code_bad k l.length (l.drop (i + 1)) ((i + 1 : Nat) : Int) = some r) := ⟨by have := HA2.out; rw [if_pos rfl] at this; exact this⟩
        clear HA2 hA
        go_wp2_with (go_at_call 41; (with_reducible refine (check1.calls k _ _ b _ _ _ true _ HCn.out HT.out).mono ?_); rintro e w1 ⟨rfl, hb1⟩)
        go_roundg g
        case measure => omega
        case rel => exact ⟨i + 1, by go_num, by omega, HA3, ⟨below_step HB.out hb1⟩⟩

theorem code_bad_pos (k : Nat) (n : Int) : ∀ (l : List (S85)) (j i : Int), code_bad k n l j = some (some i) → j ≤ i := by
  intro l
  induction l with
  | nil => intro j i h; cases h
  | cons x l ih =>
    intro j i h
    rw [code_bad] at h
    obtain ⟨b, _, h⟩ := Option.bind_eq_some_iff.mp h
    cases b
    · rw [if_neg (by decide)] at h
      have := Option.some.inj (Option.some.inj h)
      omega
    · rw [if_pos rfl] at h
      have := ih _ _ h
      omega
theorem LeO_codeBad (n : Int) (k : Nat) : ∀ (l : List (S85)) (i : Int), LeO (code_bad k n l i) (code_bad (k + 1) n l i) := by
  intro l
  induction l with
  | nil => intro i; exact LeO.refl _
  | cons x l ih =>
    intro i
    refine LeO.bind (code_may.mono _ _ _ k) (fun b => LeO.ite (ih _) (LeO.refl _))
theorem code_Check.mono : ∀ a0 k, LeO (code_Check.f k a0) (code_Check.f (k + 1) a0) := by
  intro a0 k
  exact LeO.ite (LeO.refl _) (LeO.ite (LeO.refl _) (LeO.bind (LeO_codeBad _ k _ _) (fun _ => LeO.refl _)))

set_option maxHeartbeats 4000000 in
theorem code_Check.calls (k : Nat) (A0 : Option Addr) (c0 : Nat) (l0 : List (S85)) (r1 r2 : Int) (w : World) (hr0 : Kd.C k85 w A0 l0.length l0) (_hc0 : l0.length ≤ c0) (h : code_Check.f k l0 = some (r1, r2)) :
    Calls Tryd.prog 17 #[.slice A0 l0.length c0] w fun e w' => e = .returned (.tuple #[.int .i64 r1, .int .i64 r2]) ∧ Below w.heap.size w w' := by
  have HR := Aside0.mk hr0
  clear hr0
  unfold code_Check.f at h
  by_cases h1 : l0.length < 1
  · rw [if_pos h1] at h
    simp only [Option.some.injEq, Prod.mk.injEq] at h
    obtain ⟨rfl, rfl⟩ := h
    have b1 : decide ((l0.length : Int) < 1) = true := decide_eq_true (by omega)
    have b2 : decide (l0.length < 1) = true := decide_eq_true h1
    clear h1
    go_enter Tryd.func17, Tryd.ntmps17
    go_wp2
    repeat (go_quiet (fail); try go_wp2)
    go_ret2
    exact ⟨rfl, by repeat (first | exact Below.refl _ _ | apply below_alloc | apply pw_below_drewN | apply below_drew)⟩
  · rw [if_neg h1] at h
    have b1 : decide ((l0.length : Int) < 1) = false := decide_eq_false (by omega)
    have b2 : decide (l0.length < 1) = false := decide_eq_false h1
    clear h1
    by_cases h2 : 1024 < l0.length
    · rw [if_pos h2] at h
      simp only [Option.some.injEq, Prod.mk.injEq] at h
      obtain ⟨rfl, rfl⟩ := h
      have b3 : decide ((1024 : Int) < (l0.length : Int)) = true := decide_eq_true (by omega)
      have b4 : decide (1024 < l0.length) = true := decide_eq_true h2
      clear h2
      go_enter Tryd.func17, Tryd.ntmps17
      go_wp2
      repeat (go_quiet (fail); try go_wp2)
      go_ret2
      exact ⟨rfl, by repeat (first | exact Below.refl _ _ | apply below_alloc | apply pw_below_drewN | apply below_drew)⟩
    · rw [if_neg h2] at h
      obtain ⟨o, ho, h⟩ := Option.bind_eq_some_iff.mp h
      have HO := Aside0.mk ho
      have H := Aside0.mk h
      have hlm : l0.length ≤ 1024 := by omega
      have b3 : decide ((1024 : Int) < (l0.length : Int)) = false := decide_eq_false (by omega)
      have b4 : decide (1024 < l0.length) = false := decide_eq_false h2
      clear h2 h ho
      go_enter Tryd.func17, Tryd.ntmps17
      have HR1 := Aside0.mk (Kd.C_below HR.out (below_alloc (Below.refl w.heap.size w) (.cells #[.slice A0 l0.length c0] 38)))
      have HC1 := Aside0.mk (show (w.alloc (.cells #[.slice A0 l0.length c0] 38)).cell? ⟨w.heap.size, 0, none⟩ = some (.slice A0 l0.length c0) from by simp)
      have HP := Aside0.mk (show 0 ≤ o.getD 0 from by cases o with | none => exact Int.le_refl _ | some i => exact code_bad_pos _ _ _ 0 i HO.out)
      cases o with
      | none =>
        have hr := H.out
        simp only [Option.some.injEq, Prod.mk.injEq] at hr
        obtain ⟨rfl, rfl⟩ := hr
        clear H HP
        go_wp2_with (go_at_call 40; (with_reducible refine (indexFunc1.calls k w.heap.size A0 c0 l0 none _ HC1.out HR1.out hlm HO.out).mono ?_); rintro e w1 ⟨rfl, hb1⟩; simp only [Option.getD_none])
        go_ret2
        exact ⟨rfl, below_then (below_alloc (Below.refl _ _) _) (by simp) hb1⟩
      | some i =>
        have hr := H.out
        simp only [Option.some.injEq, Prod.mk.injEq] at hr
        obtain ⟨rfl, rfl⟩ := hr
        have hp : 0 ≤ i := HP.out
        clear H HP
        go_wp2_with (go_at_call 40; (with_reducible refine (indexFunc1.calls k w.heap.size A0 c0 l0 (some i) _ HC1.out HR1.out hlm HO.out).mono ?_); rintro e w1 ⟨rfl, hb1⟩; simp only [Option.getD_some])
        go_ret2
        exact ⟨rfl, below_then (below_alloc (Below.refl _ _) _) (by simp) hb1⟩

/-! ### code.Print -/
def code_text (k : Nat) : List (S85) → List UInt8 → Option (List UInt8)
  | [], acc => some acc
  | x :: l, acc => (code_Name.f x.f0).bind fun n => (code_takes.f k x.f0).bind fun t =>
      if t = true then (strconv_Itoa.f x.f1).bind fun s => if acc.length + n.1.size + 1 + s.size + 1 ≤ bigLen then code_text k l (acc ++ n.1.data.toList ++ (32 :: s.data.toList) ++ [10]) else none
      else if acc.length + n.1.size + 1 ≤ bigLen then code_text k l (acc ++ n.1.data.toList ++ [10]) else none
def code_Print.f (k : Nat) (l : List (S85)) : Option (ByteArray × Int) := (code_Check.f k l).bind fun e => if e.1 = 0 then (code_text k l []).bind fun t => some (⟨t.toArray⟩, 0) else some (⟨#[]⟩, e.1)

theorem LeO_codeText (k : Nat) : ∀ (l : List (S85)) (acc : List UInt8), LeO (code_text k l acc) (code_text (k + 1) l acc) := by
  intro l
  induction l with
  | nil => intro i; exact LeO.refl _
  | cons x l ih =>
    intro acc
    exact LeO.bind (LeO.refl _) (fun n => LeO.bind (code_takes.mono _ k) (fun b => LeO.ite (LeO.bind (LeO.refl _) (fun s => LeO.ite (ih _) (LeO.refl _))) (LeO.ite (ih _) (LeO.refl _))))
theorem code_Print.mono : ∀ a0 k, LeO (code_Print.f k a0) (code_Print.f (k + 1) a0) := by
  intro a0 k
  exact LeO.bind (code_Check.mono _ k) (fun e => LeO.ite (LeO.bind (LeO_codeText k _ _) (fun _ => LeO.refl _)) (LeO.refl _))

set_option maxHeartbeats 8000000 in
theorem code_Print.calls (k : Nat) (A0 : Option Addr) (c0 : Nat) (l0 : List (S85)) (r1 : ByteArray) (r2 : Int) (w : World) (hG : TabsOk w) (hr0 : Kd.C k85 w A0 l0.length l0) (hc0 : l0.length ≤ c0) (h : code_Print.f k l0 = some (r1, r2)) :
    Calls Tryd.prog 19 #[.slice A0 l0.length c0] w fun e w' => e = .returned (.tuple #[.string r1, .int .i64 r2]) ∧ Below w.heap.size w w' := by
  have HR := Aside0.mk hr0
  have HcC := Aside0.mk hc0
  clear hr0 hc0
  obtain ⟨⟨e1, e2⟩, he, h⟩ := Option.bind_eq_some_iff.mp h
  have HE := Aside0.mk he
  clear he
  by_cases h0 : e1 = 0
  · subst h0
    rw [if_pos rfl] at h
    obtain ⟨t, ht, h⟩ := Option.bind_eq_some_iff.mp h
    simp only [Option.some.injEq, Prod.mk.injEq] at h
    obtain ⟨rfl, rfl⟩ := h
    have HT := Aside0.mk ht
    clear ht
    have HTab := Aside0.mk hG
    clear hG
    have hlm : l0.length ≤ 1024 := by
      have := HE.out
      unfold code_Check.f at this
      split at this
      · cases this
      · split at this
        · cases this
        · omega
    go_enter Tryd.func19, Tryd.ntmps19
    go_wp2_with (go_at_call 17; (with_reducible refine (code_Check.calls k A0 c0 l0 0 e2 _ HR.out HcC.out HE.out).mono ?_); rintro e w1 ⟨rfl, hb1⟩)
    have HB := Aside0.mk (below_alloc hb1 (.cells #[.pointer none, .slice none 0 0] 54))
    have HBld := Aside0.mk (Bld.fresh w1)
    have HbL := Aside0.mk hb1.size
    clear hb1
    go_loopg [21] l0.length (fun g v21 w' => ∃ (i : Nat) (acc : List UInt8), v21 = .int .i64 i ∧ i + g = l0.length ∧ Aside0 (code_text k (l0.drop i) acc = some t) ∧ Aside0 (Bld w1.heap.size acc w') ∧ Aside0 (Below w.heap.size w w'))
    case atStart => exact ⟨0, [], rfl, by omega, ⟨by simpa using HT.out⟩, HBld, HB⟩
    case round =>
      clear HT HBld HB
      obtain ⟨i, acc, rfl, hig, HA, HBld, HB⟩ := hrel
      cases gk with
      | zero =>
        obtain rfl : i = l0.length := by omega
        have hr0 := HA.out
        rw [List.drop_length] at hr0
        obtain rfl := Option.some.inj hr0
        clear HA
        go_wp2_with (go_at_call 32; (with_reducible refine (bld_string w1.heap.size _ _ HBld.out).mono ?_); rintro e w2 ⟨rfl, hb2⟩)
        go_ret2
        exact ⟨rfl, below_bld HB.out hb2 HbL.out⟩
      | succ g =>
        have hi : i < l0.length := by omega
        have hA := HA.out
        rw [List.drop_eq_getElem_cons hi, code_text] at hA
        obtain ⟨n, hn, hA⟩ := Option.bind_eq_some_iff.mp hA
        obtain ⟨n1, n2⟩ := n
        have HN := Aside0.mk hn
        obtain ⟨b, hb, hA⟩ := Option.bind_eq_some_iff.mp hA
        have HTk := Aside0.mk hb
        have HA2 := Aside0.mk hA
        clear hn hA HA hb
        obtain ⟨ad, e0, hx0, hx1⟩ := at_T85 HR.out (i : Int) (by omega) (by omega)
        cases e0
        have hel : rd_T85 l0 (i : Int) = l0[i] := by simp [rd_T85, List.getD_eq_getElem?_getD, hi]
        rw [hel, Int.toNat_natCast] at hx0 hx1
        generalize hL : l0[i] = x at *
        clear hL hel
        replace hx0 := (HB.out.cell (World.block_lt_of_cell? w _ hx0)).trans hx0
        replace hx1 := (HB.out.cell (World.block_lt_of_cell? w _ hx1)).trans hx1
        have p0 := eq_true hi
        have BK1 := Aside0.mk (show Blk wr.heap.size 85 #[.int .i64 x.f0, .int .i64 x.f1] (wr.alloc (.cells #[.int .i64 x.f0, .int .i64 x.f1] 85)) from heap_alloc_new wr _)
        have BB1 := Aside0.mk (HBld.out.below (below_alloc (Below.refl _ _) (.cells #[.int .i64 x.f0, .int .i64 x.f1] 85)))
        have BL1 := Aside0.mk (below_alloc HB.out (.cells #[.int .i64 x.f0, .int .i64 x.f1] 85))
        have hne := Aside0.mk (show wr.heap.size ≠ w1.heap.size from fun e => by have := HBld.out.lt; omega)
        clear HBld HB
        go_wp2_with fail
        refine (code_Name.calls x.f0 n1 n2 _ HN.out).mono ?_
        rintro e w2 ⟨rfl, hb2⟩
        have BK2 := Aside0.mk (BK1.out.below hb2)
        have BB2 := Aside0.mk (BB1.out.below hb2)
        have BL2 := Aside0.mk (below_step BL1.out hb2)
        clear BK1 BB1 BL1 hb2 hx0 hx1 HN
        cases b
        · have hA := HA2.out
          rw [if_neg (by decide)] at hA
          have hlim : acc.length + n1.size + 1 ≤ bigLen := Decidable.byContradiction fun hh => by rw [if_neg hh] at hA; cases hA
          rw [if_pos hlim] at hA
          have HA3 := Aside0.mk hA
          have HL := Aside0.mk hlim
          clear hA HA2 hlim
          go_wp2_with fail
          refine (bld_write w1.heap.size acc n1 _ BB2.out (by have := HL.out; omega)).mono ?_
          rintro e w3 ⟨rfl, hbd, hb3, hk3⟩
          have BK3 := Aside0.mk (BK2.out.kept hk3 hne.out (by decide))
          have BB3 := Aside0.mk hbd
          have BL3 := Aside0.mk (below_bld BL2.out hb3 HbL.out)
          clear BK2 BB2 BL2 hbd hb3 hk3
          have hy0 := BK3.out.cell 0 rfl
          go_wp2_with fail
          refine (code_takes.calls k x.f0 false _ HTk.out).mono ?_
          rintro e w4 ⟨rfl, hb4⟩
          have BB4 := Aside0.mk (BB3.out.below hb4)
          have BL4 := Aside0.mk (below_step BL3.out hb4)
          clear BK3 BB3 BL3 hb4 hy0 HTk
          go_wp2_with fail
          refine (bld_write w1.heap.size _ _ _ BB4.out (by have := HL.out; simp only [List.length_append, data_length]; show _ + 1 ≤ _; omega)).mono ?_
          rintro e w5 ⟨rfl, hbd, hb5, hk5⟩
          have BB5 := Aside0.mk hbd
          have BL5 := Aside0.mk (below_bld BL4.out hb5 HbL.out)
          clear BB4 BL4 hbd hb5 hk5
          go_wp2
          go_roundg g
          case measure => omega
          case rel => exact ⟨i + 1, _, by go_num, by omega, HA3, BB5, BL5⟩
        · have hA := HA2.out
          rw [if_pos rfl] at hA
          obtain ⟨s, hs, hA⟩ := Option.bind_eq_some_iff.mp hA
          have HS := Aside0.mk hs
          have hlim : acc.length + n1.size + 1 + s.size + 1 ≤ bigLen := Decidable.byContradiction fun hh => by rw [if_neg hh] at hA; cases hA
          rw [if_pos hlim] at hA
          have HA3 := Aside0.mk hA
          have HL := Aside0.mk hlim
          clear hA HA2 hlim hs
          go_wp2_with fail
          refine (bld_write w1.heap.size acc n1 _ BB2.out (by have := HL.out; omega)).mono ?_
          rintro e w3 ⟨rfl, hbd, hb3, hk3⟩
          have BK3 := Aside0.mk (BK2.out.kept hk3 hne.out (by decide))
          have BB3 := Aside0.mk hbd
          have BL3 := Aside0.mk (below_bld BL2.out hb3 HbL.out)
          clear BK2 BB2 BL2 hbd hb3 hk3
          have hy0 := BK3.out.cell 0 rfl
          go_wp2_with fail
          refine (code_takes.calls k x.f0 true _ HTk.out).mono ?_
          rintro e w4 ⟨rfl, hb4⟩
          have BK4 := Aside0.mk (BK3.out.below hb4)
          have BB4 := Aside0.mk (BB3.out.below hb4)
          have BL4 := Aside0.mk (below_step BL3.out hb4)
          clear BK3 BB3 BL3 hb4 hy0 HTk
          have hy1 := BK4.out.cell 1 rfl
          go_wp2_with fail
          refine (strconv_Itoa.calls x.f1 s _ (HTab.out.below BL4.out) HS.out).mono ?_
          rintro e w5 ⟨rfl, hb5⟩
          have BB5 := Aside0.mk (BB4.out.below hb5)
          have BL5 := Aside0.mk (below_step BL4.out hb5)
          clear BK4 BB4 BL4 hb5 hy1 HS
          have f1 : (9223372036854775807 < 1 + s.size) = False := eq_false (Nat.not_lt.2 (by have := HL.out; unfold bigLen at this; omega))
          go_wp2_with fail
          refine (bld_write w1.heap.size _ _ _ BB5.out (by have := HL.out; simp only [List.length_append, ByteArray.size_append, data_length]; show _ + (1 + _) ≤ _; omega)).mono ?_
          rintro e w6 ⟨rfl, hbd, hb6, hk6⟩
          have BB6 := Aside0.mk hbd
          have BL6 := Aside0.mk (below_bld BL5.out hb6 HbL.out)
          clear BB5 BL5 hbd hb6 hk6
          go_wp2_with fail
          refine (bld_write w1.heap.size _ _ _ BB6.out (by have := HL.out; simp only [List.length_append, ByteArray.data_append, Array.toList_append, data_length]; show _ + (1 + _) + 1 ≤ _; omega)).mono ?_
          rintro e w7 ⟨rfl, hbd, hb7, hk7⟩
          have BB7 := Aside0.mk hbd
          have BL7 := Aside0.mk (below_bld BL6.out hb7 HbL.out)
          clear BB6 BL6 hbd hb7 hk7
          go_wp2
          go_roundg g
          case measure => omega
          case rel => exact ⟨i + 1, _, by go_num, by omega, HA3, ⟨by have h_ := BB7.out; simpa using h_⟩, BL7⟩
  · rw [if_neg h0] at h
    simp only [Option.some.injEq, Prod.mk.injEq] at h
    obtain ⟨rfl, rfl⟩ := h
    have b0 : (e1 != 0) = true := bne_iff_ne.2 h0
    have b1 : (e1 == 0) = false := beq_eq_false_iff_ne.2 h0
    clear h0
    go_enter Tryd.func19, Tryd.ntmps19
    go_wp2_with (go_at_call 17; (with_reducible refine (code_Check.calls k A0 c0 l0 e1 e2 _ HR.out HcC.out HE.out).mono ?_); rintro e w1 ⟨rfl, hb1⟩)
    go_ret2
    exact ⟨rfl, hb1⟩
end Go.Proofs.YtlpmifofgacgiaaDoor.Q
