/- strings.IndexAny at the cutset of a blank and a tab, at every text (the shelf has it at more than eight bytes, and at ASCII). -/
import Derived.Test.YtlpmifofgacgiaaDoorGivenA
import Derived.Lib.SpaceUEq
import Derived.Lib.QuoteLoop
import Derived.Lib.RuneCount
import Derived.Lib.OthersKept
import Derived.Laws.RangeAny
import Derived.WalkMore
namespace Go.Proofs.YtlpmifofgacgiaaDoor.Q
open Go.RowKit Go.Proofs.YtlpmifofgacgiaaDoorW.PrintWords

set_option maxRecDepth 100000 in
set_option maxHeartbeats 4000000 in
theorem indexRune_high (c : ByteArray) (hc : c = ⟨#[32, 9]⟩) (r : Int) (h128 : 128 ≤ r) (hr : r ≤ 2147483647) (hv : Lib.validRune r = true) (w : World) :
    Calls Tryd.prog 95 #[.string c, .int .i32 r] w fun e w' => e = .returned (.int .i64 (-1)) ∧ Below w.heap.size w w' := by
  have b1 : decide (r < 128) = false := decide_eq_false (by omega)
  have b2 : decide (0 ≤ r) = true := decide_eq_true (by omega)
  have hsz : c.size = 2 := by rw [hc]; rfl
  have hb0 : ∀ h : 0 < c.size, (c[0]'h).toNat = 32 := by subst hc; intro h; rfl
  have hb1 : ∀ h : 1 < c.size, (c[1]'h).toNat = 9 := by subst hc; intro h; rfl
  have HE := Aside0.mk (show ∀ x : UInt8, Lib.indexByte (c.extract 2 2).data.toList x = -1 by subst hc; intro x; rfl)
  clear hc
  by_cases h : r = 65533
  · subst h
    have HS := Aside0.mk hsz
    clear hsz
    have HB0 := Aside0.mk hb0
    have HB1 := Aside0.mk hb1
    clear hb0 hb1
    go_enter Tryd.func95, Tryd.ntmps95
    go_wp2
    go_loopg [] 2 (fun g wx => ∃ i : Nat, i + g = 2 ∧ wx = w.iter c i)
    case atStart => exact ⟨0, rfl, rfl⟩
    case round =>
      obtain ⟨i, hig, rfl⟩ := hrel
      cases gk with
      | zero =>
        obtain rfl : i = c.size := by rw [HS.out]; omega
        have hnx := run_next_end (P := Tryd.prog) w c c.size
        go_wp2
        go_ret
        exact ⟨rfl, below_alloc (Below.refl _ _) _⟩
      | succ g =>
        have hi : i = 0 ∨ i = 1 := by omega
        rcases hi with rfl | rfl
        · have h0 : 0 < c.size := by rw [HS.out]; omega
          have hx := HB0.out h0
          have hnx := fun ty => run_next_ascii (P := Tryd.prog) w c 0 ty h0 (by rw [hx]; omega)
          go_wp2
          go_roundg g
          case measure => omega
          case rel => exact ⟨1, by omega, rfl⟩
        · have h0 : 1 < c.size := by rw [HS.out]; omega
          have hx := HB1.out h0
          have hnx := fun ty => run_next_ascii (P := Tryd.prog) w c 1 ty h0 (by rw [hx]; omega)
          go_wp2
          go_roundg g
          case measure => omega
          case rel => exact ⟨2, by omega, rfl⟩
  · have hval : Utf8.valid r = true := by
      simp only [Lib.validRune, decide_eq_true_eq] at hv
      simp only [Utf8.valid, Bool.or_eq_true, Bool.and_eq_true, decide_eq_true_eq]
      omega
    obtain ⟨e1, e2, e3⟩ := encode_facts r hval h128
    have HV := Aside0.mk hv
    have b3 : (r == 65533) = false := beq_eq_false_iff_ne.2 h
    have l3 := e3 (by omega)
    clear e3 hval hv h
    by_cases h2 : (Utf8.encode r).size = 2
    · have L3 : ∃ x : UInt8, 128 ≤ x.toNat ∧ ∀ h : 1 < (Utf8.encode r).size, (Utf8.encode r)[1]'h = x := ⟨_, l3, fun h => by simp [h2]⟩
      obtain ⟨x, hx1, hx2⟩ := L3
      have hx3 : (9 != (x.toNat : Int)) = true := bne_iff_ne.2 (by omega)
      clear e1 e2 l3
      go_enter Tryd.func95, Tryd.ntmps95
      go_wp2_with (go_at_call 117; (with_reducible refine (Tryd.utf8_ValidRune r _).mono ?_); rintro e w1 ⟨rfl, rfl⟩; rw [HV.out])
      go_step3
      go_wp2
      go_loopg [9] 1 (fun g v9 w' => v9 = .int .i64 1 ∧ w' = w1)
      case atStart => exact ⟨by simp, rfl⟩
      case round =>
        obtain ⟨rfl, rfl⟩ := hrel
        go_wp2
        go_step3
        go_wp2_with fail
        go_quiet (fail)
        have HQ := Aside0.mk (pw_below_drewN (Below.refl wr.heap.size wr) nq)
        revert HQ
        generalize wr.drewN nq = wq
        intro HQ
        go_wp2_with fail
        have hw : IntKind.i64.wrap 2 = 2 := by decide
        have HC := Aside0.mk (fun w : World => Tryd.strings_IndexByte ByteArray.empty (x.toNat : Int) w)
        have hneg : ∀ y, Lib.indexByte ByteArray.empty.data.toList y = -1 := fun y => rfl
        simp only [hneg] at HC
        clear hneg
        go_quiet ((go_at_call 79; exact Calls.quiet_of_same (HC.out _)))
        go_wp2
        rw [Exit.noGoto_ret]
        go_wp2
        rw [Exit.noGoto_ret]
        go_wp2
        go_ret
        exact ⟨rfl, by repeat (first | exact HQ.out | apply pw_below_drewN)⟩
    · have hge : ¬ (Utf8.encode r).size - 1 < 2 := by omega
      have hge2 : ¬ ((Utf8.encode r).size : Int) - 1 < 2 := by omega
      clear l3 h2
      go_enter Tryd.func95, Tryd.ntmps95
      go_wp2_with (go_at_call 117; (with_reducible refine (Tryd.utf8_ValidRune r _).mono ?_); rintro e w1 ⟨rfl, rfl⟩; rw [HV.out])
      go_step3
      go_wp2
      go_loopg [9] 1 (fun g v9 w' => v9 = .int .i64 (((Utf8.encode r).size : Int) - 1) ∧ w' = w1)
      case atStart => exact ⟨rfl, rfl⟩
      case round =>
        obtain ⟨rfl, rfl⟩ := hrel
        go_wp2
        rw [Exit.noGoto_ret]
        go_wp2
        go_ret
        exact ⟨rfl, Below.refl _ _⟩

theorem get_at! (s : ByteArray) (k : Nat) (b : UInt8) (h : s.data.toList[k]? = some b) : s.get! k = b := by
  obtain ⟨hk, rfl⟩ := List.getElem?_eq_some_iff.1 h
  have hk' : k < s.data.size := by simpa using hk
  show s.data[k]! = _
  rw [getElem!_pos s.data k hk']
  simp
theorem decode_skip (s : ByteArray) (i : Nat) (hi : i < s.size) (h : 128 ≤ (s[i]'hi).toNat) :
    i + (Utf8.decode s i).2 ≤ s.size ∧ ∀ (j : Nat) b, i ≤ j → j < i + (Utf8.decode s i).2 → s.data.toList[j]? = some b → 128 ≤ b.toNat := by
  rw [Lib.decode_at]
  obtain ⟨c1, c2, c3, c4⟩ := Lib.decodeN_conts (s.size - i) (s.get! i).toNat (s.get! (i + 1)).toNat (s.get! (i + 2)).toNat (s.get! (i + 3)).toNat
  have hn := Lib.decodeN_width_le (s.size - i) (s.get! i).toNat (s.get! (i + 1)).toNat (s.get! (i + 2)).toNat (s.get! (i + 3)).toNat (by omega)
  refine ⟨by omega, fun j b h1 h2 h3 => ?_⟩
  have h4 := get_at! s j b h3
  have hj : j = i ∨ j = i + 1 ∨ j = i + 2 ∨ j = i + 3 := by omega
  rcases hj with rfl | rfl | rfl | rfl
  · have : s.data.toList[j]? = some (s[j]'hi) := Lib.data_getElem? s j hi
    rw [this] at h3
    obtain rfl := Option.some.inj h3
    exact h
  · have := (c1 (by omega)).1
    rw [h4] at this
    omega
  · have := (c2 (by omega)).1
    rw [h4] at this
    omega
  · have := (c3 (by omega)).1
    rw [h4] at this
    omega
theorem noAny_skip {s chars : List UInt8} {i k : Nat} (h : Lib.NoAny s chars i) (h2 : ∀ (j : Nat) b, i ≤ j → j < i + k → s[j]? = some b → chars.contains b = false) : Lib.NoAny s chars (i + k) := by
  intro j b hj hb
  rcases Nat.lt_or_ge j i with h' | h'
  · exact h j b h' hb
  · exact h2 j b h' hj hb

def blankTab : ByteArray := ⟨#[32, 9]⟩
set_option maxHeartbeats 8000000 in
set_option maxRecDepth 1000000 in
theorem indexAny_short (s c : ByteArray) (hc : c = ⟨#[32, 9]⟩) (w : World) (h8 : s.size ≤ 8) :
    Calls Tryd.prog 76 #[.string s, .string c] w fun e w' => e = .returned (.int .i64 (Lib.indexAny s.data.toList c.data.toList)) ∧ Below w.heap.size w w' := by
  have HC := Aside0.mk hc
  have hemp : c.toList.isEmpty = false := by rw [Lib.toList_data, hc]; rfl
  have hn1 : ((c.size : Int) == 1) = false := by rw [hc]; rfl
  have h8z : decide ((8 : Int) < (s.size : Int)) = false := decide_eq_false (by omega)
  clear hc
  go_enter Tryd.func76, Tryd.ntmps76
  go_wp2_with (go_at_call 96; refine (Any.strings_shouldUseASCIISet { Tryd.lays153 with } _ _).mono ?_; rintro e w' ⟨rfl, hw⟩; rw [hw, h8z])
  go_loopg [9, 10] s.size (fun g _ _ wx => ∃ i : Nat, s.size ≤ i + g ∧ i ≤ s.size ∧ wx.heap[w.heap.size]? = some (.stringIter s i) ∧ Aside0 (Below w.heap.size w wx) ∧ Aside0 (Lib.NoAny s.data.toList c.data.toList i))
  case atStart => exact ⟨0, by omega, Nat.zero_le _, heap_alloc_new w _, ⟨below_alloc (Below.refl _ _) _⟩, ⟨Lib.NoAny.zero _ _⟩⟩
  case round =>
    obtain ⟨i, hig, his, hk, HB, HN⟩ := hrel
    by_cases hi : i < s.size
    · cases gk with
      | zero => omega
      | succ g =>
        obtain ⟨x, hx⟩ : ∃ x : UInt8, s[i]'hi = x := ⟨_, rfl⟩
        have hxl : s.data.toList[i]? = some x := by rw [← hx]; exact Lib.data_getElem? s i hi
        by_cases hx128 : x.toNat < 128
        · have hnx := fun ty => Lib.run_next_ascii_at (P := Tryd.prog) wr w.heap.size s i ty hk hi (by rw [hx]; exact hx128)
          rw [hx] at hnx
          have Hx := Aside0.mk hxl
          have hk2 := Aside0.mk (Lib.iterAt_heap wr w.heap.size s i (i + 1) hk)
          have HB2 := Aside0.mk (Lib.below_iterAt HB.out (Nat.le_refl _) s (i + 1))
          clear hxl hx hk HB
          have hcon := Lib.contains_iff_indexByte c.data.toList x
          have hback : ((x.toNat : Int)).toNat.toUInt8 = x := by simp
          cases hin : c.data.toList.contains x
          · rw [hin] at hcon
            have hlt : ¬ ((0 : Int) ≤ Lib.indexByte c.data.toList x) := of_decide_eq_false hcon.symm
            clear hcon
            go_wp2_with (go_at_call 95; refine (Any.strings_IndexRune_ascii { Tryd.lays153 with } _ _ _ (by omega) (by omega)).mono ?_; rintro e w' ⟨rfl, hw⟩; rw [hw, hback])
            go_roundg g
            case measure => omega
            case rel => exact ⟨i + 1, by omega, by omega, hk2.out, HB2, ⟨HN.out.succ Hx.out hin⟩⟩
          · rw [hin] at hcon
            have hge : (0 : Int) ≤ Lib.indexByte c.data.toList x := of_decide_eq_true hcon.symm
            clear hcon
            have HR := Aside0.mk (Lib.indexAny_hit HN.out Hx.out hin)
            go_wp2_with (go_at_call 95; refine (Any.strings_IndexRune_ascii { Tryd.lays153 with } _ _ _ (by omega) (by omega)).mono ?_; rintro e w' ⟨rfl, hw⟩; rw [hw, hback])
            go_ret
            exact ⟨by rw [HR.out]; rfl, HB2.out⟩
        · obtain ⟨d1, d2⟩ := decode_skip s i hi (by rw [hx]; omega)
          obtain ⟨h1, h2⟩ := decode_high s i hi (by rw [hx]; omega)
          have h3 := decode_le s i
          have hv : Lib.validRune ((Utf8.decode s i).1 : Int) = true := by
            have := Lib.decodeN_valid (s.size - i) (s.get! i).toNat (s.get! (i + 1)).toNat (s.get! (i + 2)).toNat (s.get! (i + 3)).toNat (s.get! i).toNat_lt
            rw [← Lib.decode_at] at this
            simp only [Lib.validRune, decide_eq_true_eq]
            omega
          have hnx := fun ty => Lib.run_next_any_at (P := Tryd.prog) wr w.heap.size s i ty hk hi
          generalize hd : Utf8.decode s i = rd at *
          obtain ⟨r, k⟩ := rd
          simp only at d1 d2 h1 h2 h3 hv hnx
          have HV := Aside0.mk hv
          have HD := Aside0.mk d2
          clear hd hx hxl hx128 hv d2
          have HLt := Aside0.mk (Array.getElem?_eq_some_iff.1 hk).1
          have hk2 := Aside0.mk (Lib.iterAt_heap wr w.heap.size s i (i + k) hk)
          have HB2 := Aside0.mk (Lib.below_iterAt HB.out (Nat.le_refl _) s (i + k))
          clear hk HB
          have HN2 := Aside0.mk (noAny_skip (k := k) HN.out (fun j b h1 h2 h3 => by
            have := HD.out j b h1 h2 h3
            rw [HC.out]
            simp only [List.contains_cons, List.contains_nil, Bool.or_false, Bool.or_eq_false_iff, beq_eq_false_iff_ne]
            constructor <;> (intro e; subst e; simp at this)))
          clear HN HD
          go_wp2_with (go_at_call 95; refine (indexRune_high c HC.out _ (by omega) (by omega) HV.out _).mono ?_; rintro e w' ⟨rfl, hb⟩)
          go_roundg g
          case measure => omega
          case rel => exact ⟨i + k, by omega, d1, (hb.block _ (by rw [Lib.iterAt_size]; exact HLt.out)).trans hk2.out, ⟨below_step HB2.out hb⟩, HN2⟩
    · have hnx := fun ty => Lib.run_next_end_at (P := Tryd.prog) wr w.heap.size s i ty hk hi
      have HR := Aside0.mk (Lib.indexAny_none (s := s.data.toList) (chars := c.data.toList) (by rw [← Lib.size_eq]; have h_ := HN.out; rwa [show i = s.size from by omega] at h_))
      clear hk HN
      go_wp2
      go_ret
      exact ⟨by rw [HR.out]; rfl, HB.out⟩

def strings_IndexAny.f (s c : ByteArray) : Option Int := if s.size < 4294967281 ∧ c.data.toList = [32, 9] then some (Lib.indexAny s.data.toList [32, 9]) else none
theorem strings_IndexAny.calls (a0 a1 : ByteArray) (r : Int) (w : World) (h : strings_IndexAny.f a0 a1 = some r) :
    Calls Tryd.prog 76 #[.string a0, .string a1] w fun e w' => e = .returned (.int .i64 r) ∧ Below w.heap.size w w' := by
  unfold strings_IndexAny.f at h
  split at h
  · rename_i hc
    obtain rfl := Option.some.inj h
    have ha1 : a1 = ⟨#[32, 9]⟩ := by
      obtain ⟨⟨l⟩⟩ := a1
      have : l = [32, 9] := hc.2
      rw [this]
    have h12 : (Lib.indexAny a0.data.toList [32, 9]) = Lib.indexAny a0.data.toList a1.data.toList := by rw [hc.2]
    rw [h12]
    by_cases h8 : a0.size ≤ 8
    · exact indexAny_short a0 a1 ha1 w h8
    · have z := zero_of_info (P := Tryd.prog) (t := 111) (v := .agg (Array.replicate 256 (.bool false))) (n := 256) (by kernel_rfl)
      refine (Tryd.strings_IndexAny_long z.1 a0 a1 w (by rw [ha1]; decide) (by omega) hc.1 (by rw [ha1]; decide) (by rw [ha1]; exact ascii_of_all (by decide))).mono ?_
      rintro e w' ⟨rfl, rfl⟩
      exact ⟨rfl, below_alloc (below_alloc (Below.refl _ _) _) _⟩
  · cases h
end Go.Proofs.YtlpmifofgacgiaaDoor.Q
