/- The plain law of the reference's Trim (no program). -/
import Derived.Lib.Hide
import Derived.Test.YtlpmifofgacgiaaDoorQ5
import Derived.Test.YtlpmifofgacgiaaDoorQ6
import Derived.Test.YtlpmifofgacgiaaDoorQ0
import Derived.Test.YtlpmifofgacgiaaDoorWWords
import Derived.Lib.SplitLaws
import Derived.Lib.CutLaws
import Derived.Lib.SlTrimSet
import Derived.Lib.IndexAny
import Derived.Lib.Split
import Derived.Lib.AtoiAllCases
import Derived.Lib.ItoaNum
import Derived.Test.YtlpmifofgacgiaaDoorGivenC
import Derived.Test.YtlpmifofgacgiaaDoorK
namespace Go.Proofs.YtlpmifofgacgiaaDoor.Q
open Go.RowKit Go.Proofs.YtlpmifofgacgiaaDoorW.PrintWords Go.Proofs.YtlpmifofgacgiaaDoorW.PrintLast

abbrev Ou := S70
def joinO (conn : Int) : List Ou → List UInt8 → Bool → Option (List UInt8 × Bool)
  | [], acc, cl => some (acc, cl)
  | x :: l, acc, cl => if x.f1 = conn then (if acc.length + x.f2.size ≤ bigLen then joinO conn l (acc ++ x.f2.data.toList) (cl || x.f3) else none) else joinO conn l acc cl
def parseN : Nat → ByteArray → Int → Option Int
  | 0, _, _ => none
  | k + 1, s, n => (reply_Parse.f k s).bind fun r => if r.2.2.2.2.2 = 0 then (if 0 ≤ r.2.2.2.2.1 then (if r.2.2.2.2.1 ≤ (s.size : Int) then parseN k (s.extract r.2.2.2.2.1.toNat s.size) (wrap64 (n + 1)) else none) else none) else some n
def meter_Count.f (k : Nat) (l : List Ou) (conn : Int) : Option (Int × Bool) :=
  (joinO conn l [] false).bind fun p => (parseN k ⟨p.1.toArray⟩ 0).bind fun n => some (n, p.2)
theorem parseN_mono : ∀ k s n, LeO (parseN k s n) (parseN (k + 1) s n) := by
  intro k
  induction k with
  | zero => intro s n r h; cases h
  | succ k ih =>
    intro s n
    exact LeO.bind (reply_Parse.mono _ k) (fun r => LeO.ite (LeO.ite (LeO.ite (ih _ _) (LeO.refl _)) (LeO.refl _)) (LeO.refl _))
theorem meter_Count.mono : ∀ a0 a1 k, LeO (meter_Count.f k a0 a1) (meter_Count.f (k + 1) a0 a1) := by
  intro a0 a1 k
  exact LeO.bind (LeO.refl _) (fun p => LeO.bind (parseN_mono k _ _) (fun _ => LeO.refl _))

set_option maxRecDepth 20000 in
set_option maxHeartbeats 8000000 in
theorem meter_Count.calls (k : Nat) (A0 : Option Addr) (c0 : Nat) (l0 : List Ou) (conn : Int) (r1 : Int) (r2 : Bool) (w : World) (hG : TabsOk w) (hr0 : Kd.C k70 w A0 l0.length l0) (hc0 : l0.length ≤ c0) (h : meter_Count.f k l0 conn = some (r1, r2)) :
    Calls Tryd.prog 14 #[.slice A0 l0.length c0, .int .i64 conn] w fun e w' => e = .returned (.tuple #[.int .i64 r1, .bool r2]) ∧ Below w.heap.size w w' := by
  have hu1 := Tryd.underlying28
  have HR := Aside0.mk hr0
  have HcC := Aside0.mk hc0
  clear hr0 hc0
  obtain ⟨⟨tx, cl⟩, hj, h⟩ := Option.bind_eq_some_iff.mp h
  obtain ⟨m, hp, h⟩ := Option.bind_eq_some_iff.mp h
  simp only [Option.some.injEq, Prod.mk.injEq] at h
  obtain ⟨rfl, rfl⟩ := h
  have HJ := Aside0.mk hj
  have HP := Aside0.mk hp
  have HTab := Aside0.mk hG
  have hlm : l0.length ≤ 9223372036854775807 := Kd.C_max HR.out
  clear hj hp hG
  go_enter Tryd.func14, Tryd.ntmps14
  have BB0 := Aside0.mk (Bld.fresh w)
  have BL0 := Aside0.mk (below_alloc (Below.refl w.heap.size w) (.cells #[.pointer none, .slice none 0 0] 54))
  go_wp2_with fail
  go_loopg [15, 5] l0.length (fun g v15 v5 w' => ∃ (i : Nat) (ac : List UInt8) (c : Bool), v15 = .int .i64 i ∧ v5 = .bool c ∧ i + g = l0.length ∧ Aside0 (joinO conn (l0.drop i) ac c = some (tx, cl)) ∧ Aside0 (Bld w.heap.size ac w') ∧ Aside0 (Below w.heap.size w w'))
  case atStart => exact ⟨0, [], false, rfl, rfl, by omega, ⟨by simpa using HJ.out⟩, BB0, BL0⟩
  case round =>
    clear HJ BB0 BL0
    obtain ⟨i, ac, c, rfl, rfl, hig, HA, HBld, HB⟩ := hrel
    cases gk with
    | zero =>
      obtain rfl : i = l0.length := by omega
      have hr0 := HA.out
      rw [List.drop_length] at hr0
      have hr1 := Option.some.inj hr0
      obtain ⟨rfl, rfl⟩ := Prod.mk.inj hr1
      clear HA hr0 hr1
      go_wp2_with fail
      refine (bld_string w.heap.size _ _ HBld.out).mono ?_
      rintro e w2 ⟨rfl, hb2⟩
      have BL2 := Aside0.mk (below_bld HB.out hb2 (Nat.le_refl _))
      clear HBld HB hb2
      go_wp2_with fail
      go_loopg [9, 4, 5] k (fun g v9 v4 v5 w' => ∃ (s : ByteArray) (n : Int), v9 = .string s ∧ v4 = .int .i64 n ∧ v5 = .bool c ∧ Aside0 (parseN g s n = some m) ∧ Aside0 (Below w.heap.size w w'))
      case atStart => exact ⟨_, _, rfl, rfl, rfl, HP, BL2⟩
      case round =>
        clear HP BL2
        obtain ⟨s, n, rfl, rfl, rfl, HA, HB⟩ := hrel
        cases gk with
        | zero => exact absurd HA.out (by simp [parseN])
        | succ g =>
          have hA := HA.out
          rw [parseN] at hA
          obtain ⟨⟨q1, q2, q3, q4, q5, q6⟩, hq, hA⟩ := Option.bind_eq_some_iff.mp hA
          have HQ := Aside0.mk hq
          have HA2 := Aside0.mk hA
          clear hq hA HA
          go_wp2_with fail
          refine (reply_Parse.calls g s q1 q2 q3 q4 q5 q6 _ (HTab.out.below HB.out) HQ.out).mono ?_
          rintro e w3 ⟨v1, rfl, ho3, hb3⟩
          obtain ⟨Ao, co, rfl⟩ := Kd.R_slice ho3
          have BL3 := Aside0.mk (below_step HB.out hb3)
          clear ho3 hb3 HB
          by_cases h0 : q6 = 0
          · have hA := HA2.out
            rw [if_pos h0] at hA
            have h1 : 0 ≤ q5 := Decidable.byContradiction fun hh => by rw [if_neg hh] at hA; cases hA
            rw [if_pos h1] at hA
            have h2 : q5 ≤ (s.size : Int) := Decidable.byContradiction fun hh => by rw [if_neg hh] at hA; cases hA
            rw [if_pos h2] at hA
            have HA3 := Aside0.mk hA
            have cq : (q6 != 0) = false := by rw [h0]; rfl
            clear hA HA2 h0
            go_wp2
            go_roundg g
            case measure => omega
            case rel => exact ⟨_, _, rfl, rfl, rfl, HA3, ⟨below_alloc BL3.out _⟩⟩
          · have hA := HA2.out
            rw [if_neg h0] at hA
            obtain rfl := Option.some.inj hA
            have cq : (q6 != 0) = true := bne_iff_ne.2 h0
            clear hA HA2 h0
            have BL4 := Aside0.mk (below_alloc BL3.out (.cells #[.int .i64 q1, .slice Ao q2.length co, .string q3, .bool q4] 28))
            go_wp2
            go_ret2
            exact ⟨rfl, BL4.out⟩
    | succ g =>
      have hi : i < l0.length := by omega
      have hA := HA.out
      rw [List.drop_eq_getElem_cons hi, joinO] at hA
      obtain ⟨ad, e0, hx0, hx1, hx2, hx3⟩ := at_T70 HR.out (i : Int) (by omega) (by omega)
      cases e0
      have hel : rd_T70 l0 (i : Int) = l0[i] := by simp [rd_T70, List.getD_eq_getElem?_getD, hi]
      rw [hel, Int.toNat_natCast] at hx0 hx1 hx2 hx3
      generalize hL : l0[i] = x at *
      clear hL hel
      have HA2 := Aside0.mk hA
      clear hA HA
      replace hx0 := (HB.out.cell (World.block_lt_of_cell? w _ hx0)).trans hx0
      replace hx1 := (HB.out.cell (World.block_lt_of_cell? w _ hx1)).trans hx1
      replace hx2 := (HB.out.cell (World.block_lt_of_cell? w _ hx2)).trans hx2
      replace hx3 := (HB.out.cell (World.block_lt_of_cell? w _ hx3)).trans hx3
      have p0 := eq_true hi
      have BK1 := Aside0.mk (show Blk wr.heap.size 70 #[.int .i64 x.f0, .int .i64 x.f1, .string x.f2, .bool x.f3] (wr.alloc (.cells #[.int .i64 x.f0, .int .i64 x.f1, .string x.f2, .bool x.f3] 70)) from heap_alloc_new wr _)
      have BB1 := Aside0.mk (HBld.out.below (below_alloc (Below.refl _ _) (.cells #[.int .i64 x.f0, .int .i64 x.f1, .string x.f2, .bool x.f3] 70)))
      have BL1 := Aside0.mk (below_alloc HB.out (.cells #[.int .i64 x.f0, .int .i64 x.f1, .string x.f2, .bool x.f3] 70))
      have hne := Aside0.mk (show wr.heap.size ≠ w.heap.size from fun e => by have := HBld.out.lt; omega)
      have hq1 := BK1.out.cell 1 rfl
      have hq2 := BK1.out.cell 2 rfl
      clear HBld HB
      by_cases hc : x.f1 = conn
      · have hA := HA2.out
        rw [if_pos hc] at hA
        have hlim : ac.length + x.f2.size ≤ bigLen := Decidable.byContradiction fun hh => by rw [if_neg hh] at hA; cases hA
        rw [if_pos hlim] at hA
        have HA3 := Aside0.mk hA
        have HL := Aside0.mk hlim
        clear hA HA2 hlim
        have cq : (x.f1 == conn) = true := beq_iff_eq.2 hc
        clear hc
        go_wp2_with fail
        refine (bld_write w.heap.size ac x.f2 _ BB1.out HL.out).mono ?_
        rintro e w3 ⟨rfl, hbd, hb3, hk3⟩
        have BK3 := Aside0.mk (BK1.out.kept hk3 hne.out (by decide))
        have BB3 := Aside0.mk hbd
        have BL3 := Aside0.mk (below_bld BL1.out hb3 (Nat.le_refl _))
        clear BK1 BB1 BL1 hbd hb3 hk3 hq1 hq2
        have hy3 := BK3.out.cell 3 rfl
        cases c
        · go_wp2
          go_roundg g
          case measure => omega
          case rel => exact ⟨i + 1, _, _, by go_num, rfl, by omega, HA3, BB3, BL3⟩
        · go_wp2
          go_roundg g
          case measure => omega
          case rel => exact ⟨i + 1, _, _, by go_num, rfl, by omega, HA3, BB3, BL3⟩
      · have hA := HA2.out
        rw [if_neg hc] at hA
        have HA3 := Aside0.mk hA
        clear hA HA2
        have cq : (x.f1 == conn) = false := beq_eq_false_iff_ne.2 hc
        clear hc
        go_wp2
        go_roundg g
        case measure => omega
        case rel => exact ⟨i + 1, _, _, by go_num, rfl, by omega, HA3, BB1, BL1⟩
end Go.Proofs.YtlpmifofgacgiaaDoor.Q
namespace Go.Proofs.YtlpmifofgacgiaaDoor.Q

abbrev In := S85
/-- what a whole number of Go's int can be -/
def i64ok (z : Int) : Prop := -9223372036854775808 ≤ z ∧ z ≤ 9223372036854775807
def inOk (x : In) : Prop := i64ok x.f0 ∧ i64ok x.f1
end Go.Proofs.YtlpmifofgacgiaaDoor.Q
namespace Go.Proofs.YtlpmifofgacgiaaDoor.Q
open Go.RowKit Go.Proofs.YtlpmifofgacgiaaDoorW.PrintWords

abbrev Bs := List UInt8
def bytes (s : ByteArray) : Bs := s.data.toList
theorem bytes_mk (l : Bs) : bytes ⟨l.toArray⟩ = l := rfl
theorem mk_bytes (s : ByteArray) : (⟨(bytes s).toArray⟩ : ByteArray) = s := Lib.mk_data s
theorem bytes_inj {s t : ByteArray} (h : bytes s = bytes t) : s = t := by rw [← mk_bytes s, h, mk_bytes]
theorem toList_bytes (s : ByteArray) : s.toList = bytes s := Lib.toList_data s
theorem size_bytes (s : ByteArray) : s.size = (bytes s).length := Lib.size_eq s
theorem bytes_append (s t : ByteArray) : bytes (s ++ t) = bytes s ++ bytes t := by simp [bytes, ByteArray.data_append]
theorem bytes_extract (s : ByteArray) (a b : Nat) : bytes (s.extract a b) = ((bytes s).drop a).take (b - a) := Lib.extract_data s a b
theorem bytes_from (s : ByteArray) (a : Nat) : bytes (s.extract a s.size) = (bytes s).drop a := by
  rw [bytes_extract, List.take_of_length_le (by rw [List.length_drop, size_bytes]; omega)]
theorem bytes_upto (s : ByteArray) (b : Nat) : bytes (s.extract 0 b) = (bytes s).take b := by rw [bytes_extract]; simp
theorem bytes_sub (s : ByteArray) (a b : Nat) (_h : a ≤ b) : bytes (s.extract a b) = ((bytes s).take b).drop a := by rw [bytes_extract, List.drop_take]

theorem bt_nat (s : ByteArray) (i : Nat) (h : i < (bytes s).length) : bt s (i : Int) = ((bytes s)[i].toNat : Int) := by
  have h' : ((i : Int)).toNat < s.size := by rw [size_bytes]; simpa using h
  unfold bt
  rw [dif_pos h']
  simp only [Int.toNat_natCast]
  rfl
theorem bt_mid {s : ByteArray} {pre rest : Bs} {c : UInt8} (h : bytes s = pre ++ c :: rest) : bt s (pre.length : Int) = (c.toNat : Int) := by
  have hl : pre.length < (bytes s).length := by rw [h]; simp
  rw [bt_nat s _ hl]
  congr 2
  have : (bytes s)[pre.length]? = some c := by rw [h]; simp
  exact (List.getElem?_eq_some_iff.1 this).2
theorem u8_eq {a b : UInt8} (h : a.toNat = b.toNat) : a = b := UInt8.toNat_inj.1 h
theorem u8_int {a : UInt8} {n : Nat} (hn : n < 256) : ((a.toNat : Int) = (n : Int)) ↔ a = UInt8.ofNat n := by
  constructor
  · intro h
    refine u8_eq ?_
    rw [UInt8.toNat_ofNat']
    omega
  · rintro rfl
    rw [UInt8.toNat_ofNat']
    omega

/-! ### numbers -/
theorem wr_add (n m : Nat) (h : n + m ≤ 9223372036854775807) : wrap64 ((n : Int) + (m : Int)) = ((n + m : Nat) : Int) := by unfold wrap64; omega
theorem wr_succ (n : Nat) (h : n < 9223372036854775807) : wrap64 ((n : Int) + 1) = ((n + 1 : Nat) : Int) := by unfold wrap64; omega
theorem wr_pred (n : Nat) (h : n < 9223372036854775807) : wrap64 (((n + 1 : Nat) : Int) - 1) = (n : Int) := by unfold wrap64; omega
theorem wr_id {z : Int} (h0 : -9223372036854775808 ≤ z) (h1 : z ≤ 9223372036854775807) : wrap64 z = z := by unfold wrap64; omega

/-! ### rounds -/
theorem Ev.pos {α : Type} {c : Prop} [Decidable c] {a b : Nat → Option α} {r : α} (hc : c) (h : Ev a r) : Ev (fun k => if c then a k else b k) r := Ev.congr (fun _ => if_pos hc) h
theorem Ev.neg {α : Type} {c : Prop} [Decidable c] {a b : Nat → Option α} {r : α} (hc : ¬ c) (h : Ev b r) : Ev (fun k => if c then a k else b k) r := Ev.congr (fun _ => if_neg hc) h
theorem Ev.const {α : Type} {g : Nat → Option α} {r : α} (h : ∀ k, g k = some r) : Ev g r := ⟨0, fun k _ => h k⟩
theorem Ev.from1 {α : Type} {g : Nat → Option α} {r : α} (h : ∀ k, g (k + 1) = some r) : Ev g r := Ev.step h (Ev.now r)
theorem Ev.bindC {α β : Type} {g : Option α} {f : Nat → α → Option β} {a : α} {r : β} (h : g = some a) (k : Ev (fun n => f n a) r) : Ev (fun n => g.bind (f n)) r := by
  subst h
  exact k
theorem Ev.unique {α : Type} {g : Nat → Option α} {r q : α} (h : Ev g r) (k : Ev g q) : r = q := by
  obtain ⟨K, h⟩ := h
  obtain ⟨K', k⟩ := k
  have h1 := h (max K K') (Nat.le_max_left _ _)
  have h2 := k (max K K') (Nat.le_max_right _ _)
  rw [h1] at h2
  exact Option.some.inj h2
end Go.Proofs.YtlpmifofgacgiaaDoor.Q
namespace Go.Proofs.YtlpmifofgacgiaaDoor.Q
open Go.RowKit Go.Proofs.YtlpmifofgacgiaaDoorW.PrintWords

/-! ### the first place of a byte -/
def upto (c : UInt8) (l : Bs) : Bs := l.takeWhile (fun b => b != c)
theorem upto_not (c : UInt8) : ∀ l : Bs, c ∉ upto c l := by
  intro l
  induction l with
  | nil => simp [upto]
  | cons b l ih =>
    unfold upto at ih ⊢
    rw [List.takeWhile_cons]
    by_cases h : b = c
    · subst h; simp
    · have : (b != c) = true := bne_iff_ne.2 h
      rw [this]
      simp only [if_true, List.mem_cons, not_or]
      exact ⟨fun e => h e.symm, ih⟩
theorem upto_split (c : UInt8) : ∀ l : Bs, c ∈ l → ∃ r, l = upto c l ++ c :: r := by
  intro l
  induction l with
  | nil => intro h; cases h
  | cons b l ih =>
    intro h
    unfold upto at ih ⊢
    rw [List.takeWhile_cons]
    by_cases hb : b = c
    · subst hb; exact ⟨l, by simp⟩
    · have e : (b != c) = true := bne_iff_ne.2 hb
      rw [e]
      obtain ⟨r, hr⟩ := ih (by rcases List.mem_cons.1 h with h | h; exact absurd h.symm hb; exact h)
      refine ⟨r, ?_⟩
      simp only [if_true, List.cons_append]
      rw [← hr]
theorem upto_all (c : UInt8) : ∀ l : Bs, c ∉ l → upto c l = l := by
  intro l
  induction l with
  | nil => intro _; rfl
  | cons b l ih =>
    intro h
    simp only [List.mem_cons, not_or] at h
    unfold upto at ih ⊢
    rw [List.takeWhile_cons, bne_iff_ne.2 (fun e => h.1 e.symm), if_pos rfl, ih h.2]
theorem upto_app (c : UInt8) (a b : Bs) (h : c ∉ a) : upto c (a ++ b) = a ++ upto c b := by
  induction a with
  | nil => rfl
  | cons x a ih =>
    simp only [List.mem_cons, not_or] at h
    unfold upto at ih ⊢
    rw [List.cons_append, List.takeWhile_cons, bne_iff_ne.2 (fun e => h.1 e.symm), if_pos rfl, ih h.2, List.cons_append]
theorem index_one (c : UInt8) : ∀ l : Bs, Lib.index l [c] = if c ∈ l then ((upto c l).length : Int) else -1 := by
  intro l
  induction l with
  | nil => simp [Lib.index]
  | cons b l ih =>
    rw [Lib.index]
    by_cases h : b = c
    · subst h
      have e : List.isPrefixOf [b] (b :: l) = true := by simp [List.isPrefixOf]
      rw [if_pos e, if_pos (by simp)]
      simp [upto]
    · have hcb : ¬ c = b := fun e => h e.symm
      have e : List.isPrefixOf [c] (b :: l) = false := by simp [List.isPrefixOf, hcb]
      rw [e, if_neg (by decide), ih]
      have eu : upto c (b :: l) = b :: upto c l := by unfold upto; rw [List.takeWhile_cons, bne_iff_ne.2 h, if_pos rfl]
      by_cases hm : c ∈ l
      · rw [if_pos hm, if_pos (List.mem_cons_of_mem _ hm), eu]
        have : ((((upto c l).length : Int) == -1) = true) = False := eq_false (by rw [beq_iff_eq]; omega)
        rw [if_neg (by rw [this]; exact id)]
        simp
      · rw [if_neg hm, if_neg (fun hh => (List.mem_cons.1 hh).elim hcb hm)]
        simp
theorem cut_one (c : UInt8) (l : Bs) : (Lib.cut l [c]).1 = upto c l := by
  unfold Lib.cut
  rw [index_one]
  by_cases h : c ∈ l
  · rw [if_pos h, if_pos (by omega)]
    obtain ⟨r, hr⟩ := upto_split c l h
    show l.take _ = _
    have e : ((upto c l).length : Int).toNat = (upto c l).length := by omega
    rw [e]
    generalize upto c l = u at hr ⊢
    subst hr
    exact List.take_left' rfl
  · rw [if_neg h, if_neg (by decide), upto_all c l h]

/-! ### lines -/
def linesOf (c : UInt8) : Bs → List Bs
  | [] => [[]]
  | b :: r => if b = c then [] :: linesOf c r else match linesOf c r with
    | [] => [[b]]
    | h :: t => (b :: h) :: t
theorem linesOf_ne (c : UInt8) : ∀ l, linesOf c l ≠ [] := by
  intro l
  cases l with
  | nil => simp [linesOf]
  | cons b r =>
    rw [linesOf]
    split
    · simp
    · split <;> simp
theorem linesOf_app (c : UInt8) (r : Bs) : ∀ a : Bs, c ∉ a → linesOf c (a ++ c :: r) = a :: linesOf c r := by
  intro a
  induction a with
  | nil => intro _; simp [linesOf]
  | cons b a ih =>
    intro h
    simp only [List.mem_cons, not_or] at h
    rw [List.cons_append, linesOf, if_neg (fun e => h.1 e.symm), ih h.2]
theorem linesOf_one (c : UInt8) : ∀ a : Bs, c ∉ a → linesOf c a = [a] := by
  intro a
  induction a with
  | nil => intro _; simp [linesOf]
  | cons b a ih =>
    intro h
    simp only [List.mem_cons, not_or] at h
    rw [linesOf, if_neg (fun e => h.1 e.symm), ih h.2]
theorem splitK_lines (c : UInt8) : ∀ (k : Nat) (l : Bs), l.count c = k → Lib.splitK [c] 0 k l = linesOf c l := by
  intro k
  induction k with
  | zero =>
    intro l h
    rw [linesOf_one c l (List.count_eq_zero.1 h)]
    rfl
  | succ k ih =>
    intro l h
    have hm : c ∈ l := List.count_pos_iff.1 (by omega)
    obtain ⟨r, hr⟩ := upto_split c l hm
    have hn := upto_not c l
    rw [Lib.splitK, index_one, if_pos hm]
    have : ((((upto c l).length : Int) == -1) = true) = False := eq_false (by rw [beq_iff_eq]; omega)
    rw [if_neg (by rw [this]; exact id)]
    have e : ((upto c l).length : Int).toNat = (upto c l).length := by omega
    rw [e]
    generalize hU : upto c l = u at *
    subst hr
    rw [linesOf_app c r u hn, Nat.add_zero, List.take_left' rfl]
    have ed : (u ++ c :: r).drop (u.length + [c].length) = r := by simp
    rw [ed, ih r (by
      rw [List.count_append, List.count_cons_self, List.count_eq_zero.2 hn] at h
      omega)]

/-! ### blanks -/
def blank (b : UInt8) : Bool := b == 32 || b == 9
theorem blank_contains (b : UInt8) : ([32, 9] : Bs).contains b = blank b := by
  have h : (([32, 9] : Bs).contains b) = (b == 32 || (b == 9 || false)) := rfl
  rw [h, Bool.or_false]
  rfl
def trimW (l : Bs) : Bs := Lib.trimS l [32, 9]
def lead (l : Bs) : Bs := l.takeWhile blank
def word (l : Bs) : Bs := l.takeWhile (fun b => !blank b)
def behind (l : Bs) : Bs := l.dropWhile (fun b => !blank b)
theorem trimLeft_eq (l : Bs) : Lib.trimLeftS l [32, 9] = l.dropWhile blank := by
  unfold Lib.trimLeftS
  congr 1
  funext b
  exact blank_contains b
theorem trimRight_eq (l : Bs) : Lib.trimRightS l [32, 9] = (l.reverse.dropWhile blank).reverse := by
  unfold Lib.trimRightS
  congr 2
  funext b
  exact blank_contains b
theorem lead_drop (l : Bs) : (lead l).length + (l.dropWhile blank).length = l.length := by
  unfold lead
  have := congrArg List.length (List.takeWhile_append_dropWhile (p := blank) (l := l))
  rw [List.length_append] at this
  exact this
theorem word_behind (l : Bs) : word l ++ behind l = l := List.takeWhile_append_dropWhile
theorem word_not (l : Bs) : ∀ b ∈ word l, blank b = false := by
  induction l with
  | nil => intro b hb; simp [word] at hb
  | cons x l ih =>
    intro b hb
    unfold word at ih hb
    rw [List.takeWhile_cons] at hb
    cases hx : blank x with
    | true => rw [hx] at hb; simp at hb
    | false =>
      rw [hx] at hb
      simp only [Bool.not_false, if_true, List.mem_cons] at hb
      rcases hb with rfl | hb
      · exact hx
      · exact ih b hb
theorem behind_cases (l : Bs) : behind l = [] ∨ ∃ b r, behind l = b :: r ∧ blank b = true := by
  unfold behind
  cases h : l.dropWhile (fun b => !blank b) with
  | nil => exact .inl rfl
  | cons b r =>
    right
    have hn : l.dropWhile (fun b => !blank b) ≠ [] := by rw [h]; simp
    have := List.head_dropWhile_not (fun b => !blank b) hn
    simp only [h, List.head_cons] at this
    exact ⟨b, r, rfl, by simpa using this⟩
theorem indexAny_word : ∀ l : Bs, Lib.indexAny l [32, 9] = if behind l = [] then -1 else ((word l).length : Int) := by
  intro l
  induction l with
  | nil => simp [Lib.indexAny, behind]
  | cons b l ih =>
    rw [Lib.indexAny, blank_contains]
    unfold behind word at ih ⊢
    rw [List.dropWhile_cons, List.takeWhile_cons]
    cases hb : blank b
    · simp only [Bool.not_false, if_true, Bool.false_eq_true, if_false]
      rw [ih]
      split
      · simp
      · rename_i h
        have : (((((l.takeWhile (fun b => !blank b)).length : Nat) : Int) == -1) = true) = False := eq_false (by rw [beq_iff_eq]; omega)
        rw [if_neg (by rw [this]; exact id)]
        simp
    · simp
/-- A text without blanks at its ends. -/
def Trim (l : Bs) : Prop := trimW l = l
theorem trim_at (l : Bs) (a b : Nat) (hab : a ≤ b) (hb : b ≤ l.length) (h1 : ∀ (j : Nat) x, j < a → l[j]? = some x → blank x = true) (h2 : ∀ (j : Nat) x, b ≤ j → l[j]? = some x → blank x = true)
    (h3 : a < b → (∀ x, l[a]? = some x → blank x = false) ∧ (∀ x, l[b - 1]? = some x → blank x = false)) : trimW l = (l.take b).drop a := by
  unfold trimW Lib.trimS
  by_cases h : a < b
  · obtain ⟨h4, h5⟩ := h3 h
    rw [Lib.trimRightS_take l [32, 9] b hb (fun j x hj hx => by rw [blank_contains]; exact h2 j x hj hx) (fun x _ hx => by rw [blank_contains]; exact h5 x hx)]
    exact Lib.trimLeftS_drop (l.take b) [32, 9] a (by rw [List.length_take]; omega)
      (fun j x hj hx => by rw [blank_contains]; rw [List.getElem?_take_of_lt (by omega)] at hx; exact h1 j x hj hx)
      (fun x hx => by rw [blank_contains]; rw [List.getElem?_take_of_lt h] at hx; exact h4 x hx)
  · obtain rfl : a = b := by omega
    rw [Lib.trimRightS_take l [32, 9] 0 (by omega) (fun j x _ hx => by
      rw [blank_contains]
      by_cases hj : j < a
      · exact h1 j x hj hx
      · exact h2 j x (by omega) hx) (fun x hx => absurd hx (by omega))]
    rw [List.take_zero, Lib.trimLeftS_nil]
    exact (List.drop_eq_nil_of_le (by rw [List.length_take]; omega)).symm
end Go.Proofs.YtlpmifofgacgiaaDoor.Q
namespace Go.Proofs.YtlpmifofgacgiaaDoor.Q

def dig (c : UInt8) : Bool := decide (48 ≤ c.toNat ∧ c.toNat ≤ 57)
def step10 (m : Nat) (c : UInt8) : Nat := 10 * m + (c.toNat - 48)
def valD (m : Nat) (l : List UInt8) : Nat := l.foldl step10 m
theorem valD_cons (m : Nat) (c : UInt8) (r : List UInt8) : valD m (c :: r) = valD (10 * m + (c.toNat - 48)) r := by unfold valD; rw [List.foldl_cons, step10]
theorem valD_nil (m : Nat) : valD m [] = m := by unfold valD; rw [List.foldl_nil]
theorem valD_le (l : List UInt8) : ∀ m, m ≤ valD m l := by
  induction l with
  | nil => intro m; rw [valD_nil]; exact Nat.le_refl _
  | cons c r ih => intro m; have := ih (10 * m + (c.toNat - 48)); rw [valD_cons]; omega
theorem valD_append (a b : List UInt8) (m : Nat) : valD m (a ++ b) = valD (valD m a) b := by unfold valD; rw [List.foldl_append]
theorem dig_of {u : Nat} (h : u < 10) : (UInt8.ofNat (48 + u)).toNat = 48 + u := by simp; omega
/-- The digits spell the number; they are digits; the first is no '0' unless the number is 0. -/
theorem decDigits_spells : ∀ u : Nat, valD 0 (Lib.decDigits u) = u ∧ (Lib.decDigits u).all dig = true ∧ ∃ c r, Lib.decDigits u = c :: r ∧ (c.toNat = 48 → u = 0 ∧ r = []) := by
  intro u
  induction u using Nat.strongRecOn with
  | _ u ih =>
    rw [Lib.decDigits]
    by_cases h : u < 10
    · rw [dif_pos h]
      have e := dig_of h
      refine ⟨?_, ?_, _, [], rfl, fun h0 => ⟨?_, rfl⟩⟩
      · rw [valD_cons, valD_nil, e]; omega
      · simp only [List.all_cons, List.all_nil, Bool.and_true, dig, e]; exact decide_eq_true (by omega)
      · rw [e] at h0; omega
    · rw [dif_neg h]
      obtain ⟨h1, h2, c, r, h3, h4⟩ := ih (u / 10) (by omega)
      have e := dig_of (Nat.mod_lt u (by omega) : u % 10 < 10)
      refine ⟨?_, ?_, c, r ++ [UInt8.ofNat (48 + u % 10)], by rw [h3]; rfl, fun h0 => ?_⟩
      · rw [valD_append, h1, valD_cons, valD_nil, e]; omega
      · rw [List.all_append, h2]
        simp only [List.all_cons, List.all_nil, Bool.and_true, Bool.true_and, dig, e]; exact decide_eq_true (by omega)
      · have := (h4 h0).1; omega
/-- Digits without a needless '0' ahead are the digits of the number that they spell. -/
theorem decDigits_of : ∀ (n : Nat) (l : List UInt8), l.length = n + 1 → l.all dig = true → (∀ c r, l = c :: r → c.toNat = 48 → r = []) → Lib.decDigits (valD 0 l) = l := by
  intro n
  induction n with
  | zero =>
    intro l hl ha _
    match l, hl with
    | [c], _ =>
      simp only [List.all_cons, List.all_nil, Bool.and_true, dig, decide_eq_true_eq] at ha
      have e : valD 0 [c] = c.toNat - 48 := by rw [valD_cons, valD_nil]; omega
      rw [e, Lib.decDigits, dif_pos (by omega)]
      have : 48 + (c.toNat - 48) = c.toNat := by omega
      rw [this, UInt8.ofNat_toNat]
  | succ n ih =>
    intro l hl ha h0
    have hne : l ≠ [] := by intro e; rw [e] at hl; cases hl
    obtain ⟨l', c, rfl⟩ : ∃ l' c, l = l' ++ [c] := ⟨l.dropLast, l.getLast hne, (List.dropLast_concat_getLast hne).symm⟩
    rw [List.length_append] at hl
    simp only [List.length_cons, List.length_nil] at hl
    rw [List.all_append, Bool.and_eq_true] at ha
    obtain ⟨ha1, ha2⟩ := ha
    simp only [List.all_cons, List.all_nil, Bool.and_true, dig, decide_eq_true_eq] at ha2
    have hl' : l'.length = n + 1 := by omega
    obtain ⟨d, r, rfl⟩ : ∃ d r, l' = d :: r := by cases l' with
      | nil => cases hl'
      | cons d r => exact ⟨d, r, rfl⟩
    have hd : d.toNat ≠ 48 := fun e => by have := h0 d (r ++ [c]) rfl e; simp at this
    have hd1 : dig d = true := by simp only [List.all_cons, Bool.and_eq_true] at ha1; exact ha1.1
    simp only [dig, decide_eq_true_eq] at hd1
    have ihl := ih (d :: r) hl' ha1 (fun c' r' e h => by cases e; exact absurd h hd)
    have hv : 1 ≤ valD 0 (d :: r) := by
      have := valD_le r (10 * 0 + (d.toNat - 48))
      rw [valD_cons]; omega
    rw [valD_append]
    generalize hV : valD 0 (d :: r) = V at *
    have e : valD V [c] = 10 * V + (c.toNat - 48) := by rw [valD_cons, valD_nil]
    rw [e, Lib.decDigits, dif_neg (by omega)]
    have e1 : (10 * V + (c.toNat - 48)) / 10 = V := by omega
    have e2 : 48 + (10 * V + (c.toNat - 48)) % 10 = c.toNat := by omega
    rw [e1, e2, ihl, UInt8.ofNat_toNat]

/-- A whole number's text, without a needless '0', '-' or '+': the number. -/
def canonD (l : List UInt8) : Prop := l ≠ [] ∧ l.all dig = true ∧ ∀ c r, l = c :: r → c.toNat = 48 → r = []
theorem canonD_iff (l : List UInt8) : canonD l ↔ l = Lib.decDigits (valD 0 l) := by
  constructor
  · rintro ⟨h1, h2, h3⟩
    exact (decDigits_of (l.length - 1) l (by have := List.length_pos_iff.2 h1; omega) h2 h3).symm
  · intro h
    obtain ⟨_, h2, c, r, h3, h4⟩ := decDigits_spells (valD 0 l)
    rw [← h] at h2 h3
    exact ⟨by rw [h3]; simp, h2, fun c' r' e h0 => by rw [h3] at e; cases e; exact (h4 h0).2⟩

/-! ### strconv's reading -/
theorem parse_digits : ∀ (l : List UInt8) (m : Nat), l.all dig = true → valD m l < 18446744073709551616 → Lib.parseUint10 m l = .ok (valD m l) := by
  intro l
  induction l with
  | nil => intro m _ _; rw [valD_nil]; rfl
  | cons c r ih =>
    intro m ha hv
    simp only [List.all_cons, Bool.and_eq_true, dig, decide_eq_true_eq] at ha
    rw [valD_cons] at hv
    have hm := valD_le r (10 * m + (c.toNat - 48))
    rw [Lib.parseUint10, if_pos ha.1, if_neg (by omega), if_neg (by omega)]
    have e : m * 10 + (c.toNat - 48) = 10 * m + (c.toNat - 48) := by omega
    rw [e, ih _ ha.2 hv, valD_cons]
theorem atoi_itoa {n : Int} (h0 : -9223372036854775808 ≤ n) (h1 : n ≤ 9223372036854775807) : Lib.atoiAll (Lib.itoa n) = .ok n := by
  unfold Lib.itoa
  by_cases hn : n < 0
  · rw [if_pos hn, Lib.atoiAll_minus]
    obtain ⟨a1, a2, c, r, a3, _⟩ := decDigits_spells n.natAbs
    have : Lib.parseMag (Lib.decDigits n.natAbs) = .ok n.natAbs := by
      unfold Lib.parseMag
      rw [if_neg (by rw [a3]; simp), parse_digits _ 0 a2 (by rw [a1]; omega), a1]
    rw [this]
    simp only [Lib.signed]
    rw [if_neg (by omega)]
    congr 1
    omega
  · rw [if_neg hn]
    obtain ⟨a1, a2, c, r, a3, _⟩ := decDigits_spells n.toNat
    have hm : Lib.parseMag (Lib.decDigits n.toNat) = .ok n.toNat := by
      unfold Lib.parseMag
      rw [if_neg (by rw [a3]; simp), parse_digits _ 0 a2 (by rw [a1]; omega), a1]
    have hc : 48 ≤ c.toNat ∧ c.toNat ≤ 57 := by
      rw [a3] at a2
      simp only [List.all_cons, Bool.and_eq_true, dig, decide_eq_true_eq] at a2
      exact a2.1
    rw [a3] at hm ⊢
    rw [Lib.atoiAll_plain c r (by omega) (by omega), hm]
    simp only [Lib.signless]
    rw [if_neg (by omega)]
    congr 1
    omega

/-! ### the reference's reading: digits from the left, the negative of the number -/
def accR (m : Nat) : List UInt8 → Option Nat
  | [] => some m
  | c :: r => if dig c = true ∧ 10 * m + (c.toNat - 48) ≤ 9223372036854775808 then accR (10 * m + (c.toNat - 48)) r else none
theorem accR_iff : ∀ (l : List UInt8) (m v : Nat), m ≤ 9223372036854775808 → (accR m l = some v ↔ l.all dig = true ∧ valD m l = v ∧ v ≤ 9223372036854775808) := by
  intro l
  induction l with
  | nil =>
    intro m v hm
    rw [valD_nil]
    simp only [accR, Option.some.injEq, List.all_nil, true_and]
    constructor
    · intro h; subst h; exact ⟨rfl, hm⟩
    · intro h; exact h.1
  | cons c r ih =>
    intro m v hm
    rw [valD_cons]
    simp only [accR, List.all_cons, Bool.and_eq_true]
    have hle := valD_le r (10 * m + (c.toNat - 48))
    by_cases h : dig c = true ∧ 10 * m + (c.toNat - 48) ≤ 9223372036854775808
    · rw [if_pos h, ih _ v h.2]
      simp [h.1]
    · rw [if_neg h]
      constructor
      · intro e; cases e
      · rintro ⟨⟨h1, _⟩, h2, h3⟩
        exact absurd ⟨h1, by omega⟩ h
def numR (t : List UInt8) : Option Int :=
  match t with
  | [] => none
  | c :: r =>
    if c.toNat = 45 ∧ r ≠ [] then
      (match r with
       | [] => none
       | d :: _ => if d.toNat = 48 then none else (accR 0 r).map fun (m : Nat) => -(m : Int))
    else if c.toNat = 48 ∧ r ≠ [] then none
    else match accR 0 (c :: r) with
      | some m => if m = 9223372036854775808 then none else some (m : Int)
      | none => none
theorem numR_iff (t : List UInt8) (v : Int) : numR t = some v ↔ -9223372036854775808 ≤ v ∧ v ≤ 9223372036854775807 ∧ Lib.itoa v = t := by
  constructor
  · intro h
    match t, h with
    | c :: r, h =>
      unfold numR at h
      simp only at h
      split at h
      · rename_i hc
        match r, h, hc with
        | d :: q, h, hc =>
          simp only at h
          split at h
          · cases h
          · rename_i hd
            obtain ⟨m, hm, hv⟩ := Option.map_eq_some_iff.1 h
            obtain ⟨a1, a2, a3⟩ := (accR_iff _ 0 m (by omega)).1 hm
            have hcan : canonD (d :: q) := ⟨by simp, a1, fun c' r' e h0 => by cases e; exact absurd h0 hd⟩
            have hdec := (canonD_iff _).1 hcan
            rw [a2] at hdec
            have hm0 : m ≠ 0 := by
              intro e
              subst e
              rw [Lib.decDigits, dif_pos (by omega)] at hdec
              simp only [List.cons.injEq] at hdec
              exact hd (by rw [hdec.1]; rfl)
            subst hv
            refine ⟨by omega, by omega, ?_⟩
            unfold Lib.itoa
            rw [if_pos (by omega), show ((-(m : Int)).natAbs) = m by omega, ← hdec]
            congr 1
            exact (UInt8.toNat_inj.1 (hc.1 : c.toNat = (45 : UInt8).toNat)).symm
      · rename_i hc
        split at h
        · cases h
        · rename_i h48
          split at h
          · rename_i m hm
            split at h
            · cases h
            · rename_i hbig
              cases h
              obtain ⟨a1, a2, a3⟩ := (accR_iff _ 0 m (by omega)).1 hm
              have hcan : canonD (c :: r) := ⟨by simp, a1, fun c' r' e h0 => by cases e; exact Decidable.byContradiction fun hr => h48 ⟨h0, hr⟩⟩
              have hdec := (canonD_iff _).1 hcan
              rw [a2] at hdec
              refine ⟨by omega, by omega, ?_⟩
              unfold Lib.itoa
              rw [if_neg (by omega), show ((m : Int)).toNat = m by omega, ← hdec]
          · cases h
  · rintro ⟨h0, h1, rfl⟩
    unfold Lib.itoa
    by_cases hn : v < 0
    · rw [if_pos hn]
      obtain ⟨a1, a2, c, r, a3, a4⟩ := decDigits_spells v.natAbs
      unfold numR
      simp only
      rw [if_pos ⟨by rfl, by rw [a3]; simp⟩]
      have hacc : accR 0 (Lib.decDigits v.natAbs) = some v.natAbs := (accR_iff _ 0 _ (by omega)).2 ⟨a2, a1, by omega⟩
      rw [a3] at hacc ⊢
      simp only
      rw [if_neg (fun e => by have := (a4 e).1; omega), hacc]
      simp only [Option.map_some, Option.some.injEq]
      omega
    · rw [if_neg hn]
      obtain ⟨a1, a2, c, r, a3, a4⟩ := decDigits_spells v.toNat
      have hacc : accR 0 (Lib.decDigits v.toNat) = some v.toNat := (accR_iff _ 0 _ (by omega)).2 ⟨a2, a1, by omega⟩
      rw [a3] at hacc a2 ⊢
      have hc : 48 ≤ c.toNat ∧ c.toNat ≤ 57 := by
        simp only [List.all_cons, Bool.and_eq_true, dig, decide_eq_true_eq] at a2
        exact a2.1
      unfold numR
      simp only
      rw [if_neg (fun e => by have := e.1; omega), if_neg (fun e => e.2 (a4 e.1).2), hacc]
      simp only
      rw [if_neg (by omega)]
      congr 1
      omega
end Go.Proofs.YtlpmifofgacgiaaDoor.Q
namespace Go.Proofs.YtlpmifofgacgiaaDoor.Q
open Go.RowKit Go.Proofs.YtlpmifofgacgiaaDoorW.PrintWords

theorem itoa_ok {n : Int} (h : i64ok n) : strconv_Itoa.f n = some ⟨(itoaL n).toArray⟩ := by unfold strconv_Itoa.f; exact if_pos h
theorem itoaF_length : ∀ (f u : Nat), (itoaF f u).length ≤ f := by
  intro f
  induction f with
  | zero => intro u; simp [itoaF]
  | succ f ih =>
    intro u
    rw [itoaF]
    split
    · simp
    · have := ih (u / 10)
      simp
      omega
theorem itoaL_length {n : Int} (_h : i64ok n) : (itoaL n).length ≤ 21 := by
  unfold itoaL
  split
  · have := itoaF_length 20 n.natAbs
    simp
    omega
  · have := itoaF_length 20 n.toNat
    omega
theorem atoi_ok {s : ByteArray} {v : Int} (hs : s.size ≤ 281474976710656) (h : Lib.atoiAll (bytes s) = .ok v) : strconv_Atoi.f s = some (v, none) := by
  unfold strconv_Atoi.f
  rw [if_pos hs, show Lib.atoiAll s.data.toList = .ok v from h]
theorem atoi_bad {s : ByteArray} (hs : s.size ≤ 281474976710656) (h : ∀ v, Lib.atoiAll (bytes s) ≠ .ok v) : ∃ z, strconv_Atoi.f s = some (z, some 0) := by
  unfold strconv_Atoi.f
  rw [if_pos hs]
  rcases hx : Lib.atoiAll s.data.toList with v | _ | _
  · exact absurd hx (h v)
  · exact ⟨_, rfl⟩
  · exact ⟨_, rfl⟩
theorem blanks_ascii : asciiSet (⟨#[32, 9]⟩ : ByteArray) = true := by decide +kernel
theorem trim_f (s : ByteArray) (hs : s.size ≤ 9223372036854775807) : strings_Trim.f s (⟨#[32, 9]⟩ : ByteArray) = some ⟨(trimW (bytes s)).toArray⟩ := by
  unfold strings_Trim.f
  rw [if_pos ⟨hs, blanks_ascii⟩]
  rfl
theorem itoa_bytes {n : Int} (h : i64ok n) : itoaL n ≠ [] ∧ ∀ b ∈ itoaL n, b.toNat = 45 ∨ (48 ≤ b.toNat ∧ b.toNat ≤ 57) := by
  rw [itoaL_eq h.1 h.2]
  have key : ∀ u : Nat, Lib.decDigits u ≠ [] ∧ ∀ b ∈ Lib.decDigits u, 48 ≤ b.toNat ∧ b.toNat ≤ 57 := by
    intro u
    obtain ⟨_, h2, c, r, h3, _⟩ := decDigits_spells u
    refine ⟨by rw [h3]; simp, fun b hb => ?_⟩
    have := List.all_eq_true.1 h2 b hb
    simpa [dig] using this
  unfold Lib.itoa
  split
  · refine ⟨by simp, fun b hb => ?_⟩
    rcases List.mem_cons.1 hb with rfl | hb
    · exact .inl rfl
    · exact .inr ((key _).2 b hb)
  · exact ⟨(key _).1, fun b hb => .inr ((key _).2 b hb)⟩
theorem size_mk (l : Bs) : (⟨l.toArray⟩ : ByteArray).size = l.length := by rw [size_bytes, bytes_mk l]
end Go.Proofs.YtlpmifofgacgiaaDoor.Q
namespace Go.Proofs.YtlpmifofgacgiaaDoor.Q
open Go.RowKit Go.Proofs.YtlpmifofgacgiaaDoorW.PrintWords

/-! ### names -/
def symL : Bs := [33, 35, 36, 37, 38, 39, 42, 43, 45, 46, 94, 95, 96, 124, 126]
def tokB (c : UInt8) : Bool := if c.toNat < 97 ∨ 122 < c.toNat then (if c.toNat < 48 ∨ 57 < c.toNat then decide (0 ≤ Lib.indexByte symL c) else true) else true
def clB : Bs := [99, 111, 110, 116, 101, 110, 116, 45, 108, 101, 110, 103, 116, 104]
def coB : Bs := [99, 111, 110, 110, 101, 99, 116, 105, 111, 110]
def nameEnd (s : Bs) : Bool := if s = [] then false else if s = clB then false else s != coB
def nameOk (s : Bs) : Bool := s.all tokB && nameEnd s
theorem name_ev (s : ByteArray) (hs : s.size < 9223372036854775807) : Ev (fun k => reply_name.f k s) (nameOk (bytes s)) := by
  have hsz := size_bytes s
  have loop : ∀ (rest pre : Bs), bytes s = pre ++ rest → pre.all tokB = true → Ev (fun k => reply_name.l0 k s (s.size : Int) (pre.length : Int)) (nameOk (bytes s)) := by
    intro rest
    induction rest with
    | nil =>
      intro pre hp ha
      rw [List.append_nil] at hp
      have hl : pre.length = s.size := by rw [hsz, hp]
      refine Ev.step (fun k => by rw [reply_name.l0]) ?_
      refine Ev.neg (by omega) ?_
      unfold nameOk
      rw [hp, ha, ← hp, toList_bytes, Bool.true_and]
      by_cases h1 : bytes s = []
      · have e : nameEnd (bytes s) = false := if_pos h1
        rw [e]
        exact Ev.pos h1 (Ev.now _)
      · refine Ev.neg h1 ?_
        by_cases h2 : bytes s = clB
        · have e : nameEnd (bytes s) = false := (if_neg h1).trans (if_pos h2)
          rw [e]
          exact Ev.pos h2 (Ev.now _)
        · have e : nameEnd (bytes s) = (bytes s != coB) := (if_neg h1).trans (if_neg h2)
          rw [e]
          exact Ev.neg h2 (Ev.now _)
    | cons c r ih =>
      intro pre hp ha
      have hl : pre.length < s.size := by rw [hsz, hp]; simp
      have hc := UInt8.toNat_lt c
      have hb : bt s (pre.length : Int) = (c.toNat : Int) := bt_mid hp
      have next : tokB c = true → Ev (fun k => reply_name.l0 k s (s.size : Int) (wrap64 ((pre.length : Int) + 1))) (nameOk (bytes s)) := by
        intro ht
        rw [wr_succ pre.length (by omega)]
        have := ih (pre ++ [c]) (by rw [hp]; simp) (by rw [List.all_append, ha]; simp [ht])
        rw [List.length_append] at this
        exact this
      have stop : tokB c = false → nameOk (bytes s) = false := by
        intro ht
        unfold nameOk
        rw [hp, List.all_append, List.all_cons, ht]
        simp
      have hib : strings_IndexByte.f (⟨#[33, 35, 36, 37, 38, 39, 42, 43, 45, 46, 94, 95, 96, 124, 126]⟩ : ByteArray) (c.toNat : Int) = some (Lib.indexByte symL c) := by
        unfold strings_IndexByte.f
        have e : ((c.toNat : Int)).toNat.toUInt8 = c := by rw [Int.toNat_natCast]; exact UInt8.ofNat_toNat
        rw [e]
        rfl
      have ask : ((c.toNat < 97 ∨ 122 < c.toNat) ∧ (c.toNat < 48 ∨ 57 < c.toNat)) → Ev (fun k => (strings_IndexByte.f (⟨#[33, 35, 36, 37, 38, 39, 42, 43, 45, 46, 94, 95, 96, 124, 126]⟩ : ByteArray) (c.toNat : Int)).bind fun t101 => (if t101 < 0 then (some false) else (reply_name.l0 k s (s.size : Int) (wrap64 ((pre.length : Int) + 1))))) (nameOk (bytes s)) := by
        rintro ⟨h1, h2⟩
        refine Ev.bindC hib ?_
        have et : tokB c = decide (0 ≤ Lib.indexByte symL c) := by unfold tokB; rw [if_pos h1, if_pos h2]
        by_cases h3 : Lib.indexByte symL c < 0
        · rw [stop (by rw [et]; exact decide_eq_false (by omega))]
          exact Ev.pos h3 (Ev.now _)
        · exact Ev.neg h3 (next (by rw [et]; exact decide_eq_true (by omega)))
      have fine : ¬ ((c.toNat < 97 ∨ 122 < c.toNat) ∧ (c.toNat < 48 ∨ 57 < c.toNat)) → tokB c = true := by
        intro h
        unfold tokB
        by_cases h1 : c.toNat < 97 ∨ 122 < c.toNat
        · rw [if_pos h1, if_neg (fun h2 => h ⟨h1, h2⟩)]
        · rw [if_neg h1]
      refine Ev.step (fun k => by rw [reply_name.l0]) ?_
      refine Ev.pos (by omega) (Ev.pos (by omega) (Ev.pos (by omega) ?_))
      rw [hb]
      by_cases h97 : (c.toNat : Int) < 97
      · refine Ev.pos h97 ?_
        by_cases h48 : (c.toNat : Int) < 48
        · exact Ev.pos h48 (ask ⟨by omega, by omega⟩)
        · refine Ev.neg h48 ?_
          by_cases h57 : (c.toNat : Int) > 57
          · exact Ev.pos h57 (ask ⟨by omega, by omega⟩)
          · exact Ev.neg h57 (next (fine (by omega)))
      · refine Ev.neg h97 ?_
        by_cases h122 : (c.toNat : Int) > 122
        · refine Ev.pos h122 ?_
          by_cases h48 : (c.toNat : Int) < 48
          · exact Ev.pos h48 (ask ⟨by omega, by omega⟩)
          · refine Ev.neg h48 ?_
            by_cases h57 : (c.toNat : Int) > 57
            · exact Ev.pos h57 (ask ⟨by omega, by omega⟩)
            · exact Ev.neg h57 (next (fine (by omega)))
        · exact Ev.neg h122 (next (fine (by omega)))
  exact loop (bytes s) [] rfl rfl

/-! ### values -/
def valB (c : UInt8) : Bool := decide (c.toNat = 9 ∨ (32 ≤ c.toNat ∧ c.toNat ≤ 126))
def valueOk (s : Bs) : Bool := s.all valB && (trimW s == s)
theorem value_ev (s : ByteArray) (hs : s.size < 9223372036854775807) : Ev (fun k => reply_value.f k s) (valueOk (bytes s)) := by
  have hsz := size_bytes s
  have loop : ∀ (rest pre : Bs), bytes s = pre ++ rest → pre.all valB = true → Ev (fun k => reply_value.l0 k s (s.size : Int) (pre.length : Int)) (valueOk (bytes s)) := by
    intro rest
    induction rest with
    | nil =>
      intro pre hp ha
      rw [List.append_nil] at hp
      have hl : pre.length = s.size := by rw [hsz, hp]
      refine Ev.step (fun k => by rw [reply_value.l0]) ?_
      refine Ev.neg (by omega) ?_
      refine Ev.bindC (trim_f s (by omega)) ?_
      unfold valueOk
      rw [hp, ha, ← hp, toList_bytes, toList_bytes, bytes_mk (trimW (bytes s)), Bool.true_and]
      exact Ev.now _
    | cons c r ih =>
      intro pre hp ha
      have hl : pre.length < s.size := by rw [hsz, hp]; simp
      have hc := UInt8.toNat_lt c
      have hb : bt s (pre.length : Int) = (c.toNat : Int) := bt_mid hp
      have next : valB c = true → Ev (fun k => reply_value.l0 k s (s.size : Int) (wrap64 ((pre.length : Int) + 1))) (valueOk (bytes s)) := by
        intro ht
        rw [wr_succ pre.length (by omega)]
        have := ih (pre ++ [c]) (by rw [hp]; simp) (by rw [List.all_append, ha]; simp [ht])
        rw [List.length_append] at this
        exact this
      have stop : valB c = false → valueOk (bytes s) = false := by
        intro ht
        unfold valueOk
        rw [hp, List.all_append, List.all_cons, ht]
        simp
      refine Ev.step (fun k => by rw [reply_value.l0]) ?_
      refine Ev.pos (by omega) (Ev.pos (by omega) (Ev.pos (by omega) ?_))
      rw [hb]
      by_cases h9 : (c.toNat : Int) = 9
      · exact Ev.pos h9 (next (decide_eq_true (by omega)))
      refine Ev.neg h9 ?_
      by_cases h32 : (c.toNat : Int) < 32
      · rw [stop (decide_eq_false (by omega))]
        exact Ev.pos h32 (Ev.now _)
      refine Ev.neg h32 ?_
      by_cases h126 : (c.toNat : Int) > 126
      · rw [stop (decide_eq_false (by omega))]
        exact Ev.pos h126 (Ev.now _)
      · exact Ev.neg h126 (next (decide_eq_true (by omega)))
  exact loop (bytes s) [] rfl rfl

/-! ### may -/
def fieldOk (x : Pr) : Bool := nameOk (bytes x.f0) && valueOk (bytes x.f1)
def mayR (st : Int) (l : List Pr) (body : ByteArray) : Bool := decide (200 ≤ st ∧ st ≤ 599) && decide (l.length ≤ 32) && decide (body.size ≤ 1048576) && l.all fieldOk
def pairSmall (x : Pr) : Prop := x.f0.size < 9223372036854775807 ∧ x.f1.size < 9223372036854775807
theorem may_ev9 (st : Int) (l : List Pr) (body : ByteArray) (cl : Bool) (hl : ∀ x ∈ l, pairSmall x) : Ev (fun k => reply_may.f k st l body cl) (mayR st l body) := by
  have stop : Ev (fun k => reply_may.j0 k true st l body cl) false := by
    refine Ev.step (fun k => by rw [reply_may.j0, if_pos rfl]) ?_
    exact Ev.now _
  unfold reply_may.f
  by_cases h1 : st < 200
  · have e : mayR st l body = false := by unfold mayR; rw [decide_eq_false (show ¬ (200 ≤ st ∧ st ≤ 599) by omega)]; rfl
    rw [e]; exact Ev.pos h1 stop
  refine Ev.neg h1 ?_
  by_cases h2 : st > 599
  · have e : mayR st l body = false := by unfold mayR; rw [decide_eq_false (show ¬ (200 ≤ st ∧ st ≤ 599) by omega)]; rfl
    rw [e]; exact Ev.pos h2 stop
  refine Ev.neg h2 ?_
  by_cases h3 : (l.length : Int) > 32
  · have e : mayR st l body = false := by unfold mayR; rw [decide_eq_false (show ¬ l.length ≤ 32 by omega), Bool.and_false, Bool.false_and, Bool.false_and]
    rw [e]; exact Ev.pos h3 stop
  refine Ev.neg h3 ?_
  by_cases h4 : (body.size : Int) > 1048576
  · have e : mayR st l body = false := by unfold mayR; rw [decide_eq_false (show ¬ body.size ≤ 1048576 by omega), Bool.and_false, Bool.false_and]
    rw [e, decide_eq_true h4]; exact stop
  rw [decide_eq_false h4]
  have e : mayR st l body = l.all fieldOk := by
    unfold mayR
    rw [decide_eq_true (show 200 ≤ st ∧ st ≤ 599 by omega), decide_eq_true (show l.length ≤ 32 by omega), decide_eq_true (show body.size ≤ 1048576 by omega)]
    simp
  rw [e]
  refine Ev.step (fun k => by rw [reply_may.j0, if_neg (by decide)]) ?_
  have loop : ∀ (g i : Nat), i + g = l.length → (l.take i).all fieldOk = true → Ev (fun k => reply_may.l0 k l (l.length : Int) (i : Int)) (l.all fieldOk) := by
    intro g
    induction g with
    | zero =>
      intro i hi ha
      obtain rfl : i = l.length := by omega
      rw [List.take_length] at ha
      rw [ha]
      refine Ev.step (fun k => by rw [reply_may.l0]) ?_
      exact Ev.neg (by omega) (Ev.now _)
    | succ g ih =>
      intro i hi ha
      have hlt : i < l.length := by omega
      have hel : rd_T61 l (i : Int) = l[i] := by simp [rd_T61, List.getD_eq_getElem?_getD, hlt]
      obtain ⟨hs1, hs2⟩ := hl l[i] (List.getElem_mem hlt)
      have bad : fieldOk l[i] = false → l.all fieldOk = false := by
        intro h
        cases h2 : l.all fieldOk with
        | false => rfl
        | true =>
          have := List.all_eq_true.1 h2 l[i] (List.getElem_mem hlt)
          rw [h] at this
          cases this
      refine Ev.step (fun k => by rw [reply_may.l0]) ?_
      refine Ev.pos (by omega) (Ev.pos (by omega) (Ev.pos (by omega) ?_))
      rw [hel]
      refine Ev.bind (name_ev l[i].f0 hs1) ?_
      cases hn : nameOk (bytes l[i].f0) with
      | false =>
        rw [bad (by unfold fieldOk; rw [hn]; rfl)]
        first
        | exact Ev.neg (by decide) (Ev.now _)
        | exact Ev.pos (by decide) (Ev.now _)
      | true =>
        refine Ev.pos rfl (Ev.bind (value_ev l[i].f1 hs2) ?_)
        cases hv : valueOk (bytes l[i].f1) with
        | false =>
          rw [bad (by unfold fieldOk; rw [hn, hv]; rfl)]
          exact Ev.neg (by decide) (Ev.now _)
        | true =>
          refine Ev.pos rfl ?_
          rw [wr_succ i (by omega)]
          refine ih (i + 1) (by omega) ?_
          rw [List.take_add_one, List.getElem?_eq_getElem hlt, List.all_append, ha]
          simp [fieldOk, hn, hv]
  exact loop l.length 0 (by omega) rfl

/-! ### Reason, Print -/
def reasonsS : List (Int × ByteArray) := [(200, ⟨#[79, 75]⟩), (201, ⟨#[67, 114, 101, 97, 116, 101, 100]⟩), (204, ⟨#[78, 111, 32, 67, 111, 110, 116, 101, 110, 116]⟩), (400, ⟨#[66, 97, 100, 32, 82, 101, 113, 117, 101, 115, 116]⟩), (401, ⟨#[85, 110, 97, 117, 116, 104, 111, 114, 105, 122, 101, 100]⟩), (403, ⟨#[70, 111, 114, 98, 105, 100, 100, 101, 110]⟩), (404, ⟨#[78, 111, 116, 32, 70, 111, 117, 110, 100]⟩), (409, ⟨#[67, 111, 110, 102, 108, 105, 99, 116]⟩), (413, ⟨#[67, 111, 110, 116, 101, 110, 116, 32, 84, 111, 111, 32, 76, 97, 114, 103, 101]⟩), (431, ⟨#[82, 101, 113, 117, 101, 115, 116, 32, 72, 101, 97, 100, 101, 114, 32, 70, 105, 101, 108, 100, 115, 32, 84, 111, 111, 32, 76, 97, 114, 103, 101]⟩), (500, ⟨#[73, 110, 116, 101, 114, 110, 97, 108, 32, 83, 101, 114, 118, 101, 114, 32, 69, 114, 114, 111, 114]⟩), (503, ⟨#[83, 101, 114, 118, 105, 99, 101, 32, 85, 110, 97, 118, 97, 105, 108, 97, 98, 108, 101]⟩), (505, ⟨#[72, 84, 84, 80, 32, 86, 101, 114, 115, 105, 111, 110, 32, 78, 111, 116, 32, 83, 117, 112, 112, 111, 114, 116, 101, 100]⟩)]
def findR (st : Int) : List (Int × ByteArray) → ByteArray × Int
  | [] => (⟨#[]⟩, 3)
  | x :: r => if x.1 = st then (x.2, 0) else findR st r
theorem reason_ev (st : Int) : Ev (fun k => reply_Reason.f k st) (findR st reasonsS) := by
  unfold reply_Reason.f
  have hr : ∃ L, reply_reasons.f = some L ∧ L.map (fun x => (x.f0, x.f1)) = reasonsS := ⟨_, rfl, rfl⟩
  obtain ⟨L, h1, h2⟩ := hr
  refine Ev.bindC h1 ?_
  have hlen : L.length = 13 := by
    have := congrArg List.length h2
    rw [List.length_map] at this
    exact this
  have loop : ∀ (g i : Nat), i + g = L.length → Ev (fun k => reply_Reason.l0 k st L (L.length : Int) (i : Int)) (findR st ((L.drop i).map (fun x => (x.f0, x.f1)))) := by
    intro g
    induction g with
    | zero =>
      intro i hi
      obtain rfl : i = L.length := by omega
      rw [List.drop_length]
      refine Ev.step (fun k => by rw [reply_Reason.l0]) ?_
      exact Ev.neg (by omega) (Ev.now _)
    | succ g ih =>
      intro i hi
      have hlt : i < L.length := by omega
      have hel : rd_T101 L (i : Int) = L[i] := by simp [rd_T101, List.getD_eq_getElem?_getD, hlt]
      rw [List.drop_eq_getElem_cons hlt, List.map_cons, findR]
      refine Ev.step (fun k => by rw [reply_Reason.l0]) ?_
      refine Ev.pos (by omega) (Ev.pos (by omega) (Ev.pos (by omega) ?_))
      rw [hel]
      by_cases h : L[i].f0 = st
      · rw [if_pos h]; exact Ev.pos h (Ev.now _)
      · rw [if_neg h]
        refine Ev.neg h ?_
        rw [wr_succ i (by omega)]
        exact ih (i + 1) (by omega)
  have := loop L.length 0 (by omega)
  rw [List.drop_zero, h2] at this
  exact this
theorem findR_words (st : Int) : ∀ b ∈ bytes (wordsOf (findR st reasonsS)), 32 ≤ b.toNat ∧ b.toNat ≤ 126 := by
  have hall : ∀ x ∈ reasonsS, ∀ b ∈ bytes x.2, 32 ≤ b.toNat ∧ b.toNat ≤ 126 := by decide +kernel
  have key : ∀ L : List (Int × ByteArray), (∀ x ∈ L, ∀ b ∈ bytes x.2, 32 ≤ b.toNat ∧ b.toNat ≤ 126) → ∀ b ∈ bytes (wordsOf (findR st L)), 32 ≤ b.toNat ∧ b.toNat ≤ 126 := by
    intro L
    induction L with
    | nil =>
      intro _
      show ∀ b ∈ bytes (⟨#[83, 116, 97, 116, 117, 115]⟩ : ByteArray), _
      decide +kernel
    | cons x L ih =>
      intro h
      rw [findR]
      by_cases hx : x.1 = st
      · rw [if_pos hx]
        exact h x (by simp)
      · rw [if_neg hx]
        exact ih (fun y hy => h y (by simp [hy]))
  exact key reasonsS hall
theorem findR_len (st : Int) : (wordsOf (findR st reasonsS)).size ≤ 40 := by
  have hall : ∀ x ∈ reasonsS, x.2.size ≤ 40 := by decide +kernel
  have key : ∀ L : List (Int × ByteArray), (∀ x ∈ L, x.2.size ≤ 40) → (wordsOf (findR st L)).size ≤ 40 := by
    intro L
    induction L with
    | nil => intro _; show (⟨#[83, 116, 97, 116, 117, 115]⟩ : ByteArray).size ≤ 40; decide
    | cons x L ih =>
      intro h
      rw [findR]
      by_cases hx : x.1 = st
      · rw [if_pos hx]
        exact h x (by simp)
      · rw [if_neg hx]
        exact ih (fun y hy => h y (by simp [hy]))
  exact key reasonsS hall

def hdrS : List Pr → Bs
  | [] => []
  | x :: l => bytes x.f0 ++ [58, 32] ++ bytes x.f1 ++ [13, 10] ++ hdrS l
def endS (cl : Bool) : Bs := if cl = true then [99, 108, 111, 115, 101] else [107, 101, 101, 112, 45, 97, 108, 105, 118, 101]
def headS (st : Int) : Bs := [72, 84, 84, 80, 47, 49, 46, 49, 32] ++ itoaL st ++ [32] ++ bytes (wordsOf (findR st reasonsS))
def footS (body : ByteArray) (cl : Bool) : Bs := clB ++ [58, 32] ++ itoaL (body.size : Int) ++ [13, 10] ++ (coB ++ [58, 32] ++ endS cl ++ [13, 10, 13, 10] ++ bytes body)
def printR (st : Int) (l : List Pr) (body : ByteArray) (cl : Bool) : Bs := headS st ++ [13, 10] ++ (hdrS l ++ footS body cl)
def hdrLen : List Pr → Nat
  | [] => 0
  | x :: l => x.f0.size + x.f1.size + 4 + hdrLen l
theorem size_mk' (l : Bs) : (⟨l.toArray⟩ : ByteArray).size = l.length := by rw [size_bytes, bytes_mk l]
theorem hdrS_len : ∀ l : List Pr, (hdrS l).length = hdrLen l := by
  intro l
  induction l with
  | nil => rfl
  | cons x l ih =>
    have h0 := size_bytes x.f0
    have h1 := size_bytes x.f1
    rw [hdrS, hdrLen]
    simp only [List.length_append, List.length_cons, List.length_nil]
    omega
theorem hdrText_ev : ∀ (l : List Pr) (acc : Bs), acc.length + hdrLen l ≤ bigLen → hdrText l acc = some (acc ++ hdrS l) := by
  intro l
  induction l with
  | nil => intro acc _; simp [hdrText, hdrS]
  | cons x l ih =>
    intro acc h
    rw [hdrLen] at h
    have h0 := size_bytes x.f0
    have h1 := size_bytes x.f1
    rw [hdrText, if_pos (by omega), ih _ (by
      show (acc ++ bytes x.f0 ++ [58, 32] ++ bytes x.f1 ++ [13, 10]).length + hdrLen l ≤ bigLen
      simp only [List.length_append, List.length_cons, List.length_nil]
      omega)]
    congr 1
    show acc ++ bytes x.f0 ++ [58, 32] ++ bytes x.f1 ++ [13, 10] ++ hdrS l = _
    simp [hdrS]
theorem print_ev9 (st : Int) (l : List Pr) (body : ByteArray) (cl : Bool) (hl : hdrLen l ≤ 1000000000000) (hb : body.size < 9223372036854775807) :
    Ev (fun k => reply_Print.f k st l body cl) (if mayR st l body = true then (⟨(printR st l body cl).toArray⟩, 0) else (⟨#[]⟩, 90)) := by
  have hsm : ∀ x ∈ l, pairSmall x := by
    have key : ∀ l : List Pr, hdrLen l ≤ 1000000000000 → ∀ x ∈ l, pairSmall x := by
      intro l
      induction l with
      | nil => intro _ x hx; cases hx
      | cons y l ih =>
        intro h x hx
        rw [hdrLen] at h
        rcases List.mem_cons.1 hx with rfl | hx
        · exact ⟨by omega, by omega⟩
        · exact ih (by omega) x hx
    exact key l hl
  unfold reply_Print.f
  refine Ev.bind (may_ev9 st l body cl hsm) ?_
  cases hm : mayR st l body with
  | false =>
    rw [if_neg (by decide)]
    exact Ev.neg (by decide) (Ev.now _)
  | true =>
    rw [if_pos rfl]
    refine Ev.pos rfl ?_
    have hmm := hm
    unfold mayR at hmm
    simp only [Bool.and_eq_true, decide_eq_true_eq] at hmm
    obtain ⟨⟨⟨h1, h2⟩, h3⟩, _⟩ := hmm
    refine Ev.bind (reason_ev st) ?_
    have hst : i64ok st := ⟨by omega, by omega⟩
    have hbs : i64ok (body.size : Int) := ⟨by omega, by omega⟩
    refine Ev.bindC (itoa_ok hst) (Ev.bindC (itoa_ok hbs) ?_)
    have he : reply_end.f cl = some ⟨(endS cl).toArray⟩ := by
      unfold reply_end.f endS
      cases cl <;> rfl
    refine Ev.bindC he ?_
    have l1 := itoaL_length hst
    have l2 := itoaL_length hbs
    have l3 : (endS cl).length ≤ 10 := by cases cl <;> decide
    have l4 := findR_len st
    have e1 := size_mk' (itoaL st)
    have e2 := size_mk' (itoaL (body.size : Int))
    have e3 := size_mk' (endS cl)
    refine Ev.pos (by rw [e1, e2, e3]; omega) ?_
    have l5 : (bytes (wordsOf (findR st reasonsS))).length ≤ 40 := by rw [← size_bytes]; exact l4
    refine Ev.bindC (hdrText_ev l _ ?_) ?_
    · show ([72, 84, 84, 80, 47, 49, 46, 49, 32] ++ itoaL st ++ [32] ++ bytes (wordsOf (findR st reasonsS)) ++ [13, 10]).length + hdrLen l ≤ bigLen
      simp only [List.length_append, List.length_cons, List.length_nil]
      unfold bigLen
      omega
    · have hh := hdrS_len l
      refine Ev.pos ?_ (Ev.const fun _ => ?_)
      · show ([72, 84, 84, 80, 47, 49, 46, 49, 32] ++ itoaL st ++ [32] ++ bytes (wordsOf (findR st reasonsS)) ++ [13, 10] ++ hdrS l).length + 2147483648 ≤ bigLen
        simp only [List.length_append, List.length_cons, List.length_nil]
        unfold bigLen
        omega
      · congr 2
        show (⟨([72, 84, 84, 80, 47, 49, 46, 49, 32] ++ itoaL st ++ [32] ++ bytes (wordsOf (findR st reasonsS)) ++ [13, 10] ++ hdrS l ++ [99, 111, 110, 116, 101, 110, 116, 45, 108, 101, 110, 103, 116, 104, 58, 32] ++ itoaL (body.size : Int) ++ [13, 10, 99, 111, 110, 110, 101, 99, 116, 105, 111, 110, 58, 32] ++ endS cl ++ [13, 10, 13, 10] ++ bytes body).toArray⟩ : ByteArray) = _
        congr 2
        unfold printR headS footS clB coB
        simp
end Go.Proofs.YtlpmifofgacgiaaDoor.Q
namespace Go.Proofs.YtlpmifofgacgiaaDoor.Q
open Go.RowKit Go.Proofs.YtlpmifofgacgiaaDoorW.PrintWords Go.Proofs.YtlpmifofgacgiaaDoorW.PrintLast Go.Proofs.YtlpmifofgacgiaaDoorW.PrintMore
attribute [local go_sem] max2_int min2_int max_two min_two max_three min_three max_four min_four   -- for this text's walks alone
set_option linter.unusedVariables false
set_option linter.unusedSimpArgs false

/-! ### cloisterref07_Small: function 108 -/
def cloisterref07_Small.l0 : Nat → ByteArray → List Int → Int → Option (ByteArray)
 | 0, _, _, _ => none
 | k + 1, x0, x3, x4 => if x4 < (x0.size : Int) then (if 0 ≤ x4 then (if (bt x0 x4) ≥ 65 then (if (bt x0 x4) ≤ 90 then (if x3.length < 140737488355328 then (cloisterref07_Small.l0 k x0 (x3 ++ [((bt x0 x4) + 32) % 256]) (wrap64 (x4 + 1))) else (none)) else (if x3.length < 140737488355328 then (cloisterref07_Small.l0 k x0 (x3 ++ [bt x0 x4]) (wrap64 (x4 + 1))) else (none))) else (if x3.length < 140737488355328 then (cloisterref07_Small.l0 k x0 (x3 ++ [bt x0 x4]) (wrap64 (x4 + 1))) else (none))) else (none)) else (some (strOfNums x3))
def cloisterref07_Small.f (k : Nat) (a0 : ByteArray) : Option (ByteArray) := cloisterref07_Small.l0 k a0 ([] : List Int) 0
theorem cloisterref07_Small.mono_l : ∀ k, (∀ y0 y1 y2, LeO (cloisterref07_Small.l0 k y0 y1 y2) (cloisterref07_Small.l0 (k + 1) y0 y1 y2))
 | 0 => fun _ _ _ r h => by simp [cloisterref07_Small.l0] at h
 | k + 1 => by
  have ih0 := cloisterref07_Small.mono_l k
  ·intro y0 y1 y2
   unfold cloisterref07_Small.l0
   repeat' first
   | (with_reducible exact ih0 _ _ _)
   | (with_reducible exact LeO.refl _)
   | (with_reducible exact LeO.none _)
   | (with_reducible refine LeO.ite ?_ ?_)
   | (with_reducible refine LeO.bind ?_ (fun _ => ?_))
   | exact ih0 _ _ _
   | exact LeO.none _
   | refine LeO.ite ?_ ?_
   | refine LeO.bind ?_ (fun _ => ?_)
theorem cloisterref07_Small.mono : ∀ a0 k, LeO (cloisterref07_Small.f k a0) (cloisterref07_Small.f (k + 1) a0) := by
 intro a0 k
 have ih0 := cloisterref07_Small.mono_l k
 unfold cloisterref07_Small.f
 repeat' first
   | (with_reducible exact ih0 _ _ _)
   | (with_reducible exact LeO.refl _)
   | (with_reducible exact LeO.none _)
   | (with_reducible refine LeO.ite ?_ ?_)
   | (with_reducible refine LeO.bind ?_ (fun _ => ?_))
   | exact ih0 _ _ _
   | exact LeO.none _
   | refine LeO.ite ?_ ?_
   | refine LeO.bind ?_ (fun _ => ?_)
set_option maxHeartbeats 8000000 in
set_option maxRecDepth 100000 in
theorem cloisterref07_Small.calls (k : Nat) (a0 : ByteArray) (r : ByteArray) (w : World) (h : cloisterref07_Small.f k a0 = some r) :
  Calls Tryd.prog 108 #[.string a0] w fun e w' => e = .returned (.string r) ∧ Below w.heap.size w w' := by
 have HB := Aside0.mk (Below.refl w.heap.size w)
 have H : (cloisterref07_Small.l0 k a0 ([] : List Int) 0) = some r := h
 clear h
 have H' := Aside0.mk H
 clear H
 go_enter Tryd.func108, Tryd.ntmps108
 go_wp2
 go_loopg [3, 4] k (fun kq v3 v4 w' => ∃ (x3_1 : List Int) (x4_1 : Int), v4 = .int .i64 x4_1 ∧ Aside0 (cloisterref07_Small.l0 kq a0 x3_1 x4_1 = some r) ∧ Aside0 (kq ≤ k) ∧ Aside0 (Kd.R (Kd.int .u8) 5 w' w.heap.size (fun _ => True) v3 x3_1) ∧ Aside0 (Below w.heap.size w w'))
 case atStart => exact ⟨(([] : List Int)), (0), meq, H', ⟨Nat.le_refl _⟩, ⟨by first | exact Kd.R_nil _ _ _ _ _ | exact Kd.N_nil _ _ _ _ _ | exact Kd.V_nil _ _ _ _ _ | exact Kd.Q_nil _ _ _ _ _ | exact Kd.S_nil _ _ _ _ _⟩, ⟨bwl⟩⟩
 case round =>
  clear H'
  obtain ⟨x3_1, x4_1, rfl, HA, HK1, HO_3, HB⟩ := hrel
  cases gk with
  | zero => exact absurd HA.out (by simp [cloisterref07_Small.l0])
  | succ k1 =>
   have H := HA.out
   clear HA
   simp only [cloisterref07_Small.l0] at H
   by_cases c2 : x4_1 < (a0.size : Int)
   ·rw [if_pos c2] at H
    have c2b0 : decide (x4_1 < (a0.size : Int)) = true := decide_eq_true c2
    clear c2
    obtain ⟨c3, H⟩ := ifn H
    have c3b0 : decide (0 ≤ x4_1) = true := decide_eq_true c3
    clear c3
    by_cases c5 : (bt a0 x4_1) ≥ 65
    ·rw [if_pos c5] at H
     have c5b0 : decide (65 ≤ (bt a0 x4_1)) = true := decide_eq_true c5
     clear c5
     by_cases c6 : (bt a0 x4_1) ≤ 90
     ·rw [if_pos c6] at H
      have c6b0 : decide ((bt a0 x4_1) ≤ 90) = true := decide_eq_true c6
      clear c6
      obtain ⟨c7, H⟩ := ifn H
      have LMc7 := Aside0.mk c7
      clear c7
      obtain ⟨y204, hy204⟩ : ∃ y_ : List Int, y_ = (x3_1 ++ [((bt a0 x4_1) + 32) % 256]) := ⟨_, rfl⟩
      replace H : (cloisterref07_Small.l0 k1 a0 y204 (wrap64 (x4_1 + 1))) = some r := by first | (rw [hy204]; with_reducible exact H) | (have H2_ := (Option.bind_some _ _).symm.trans H; rw [hy204]; with_reducible exact H2_) | (have H2_ := (Option.bind_some _ _).symm.trans H; with_reducible exact H2_) | with_reducible exact H | (rw [hy204]; exact H) | exact H
      have Ny204 := Aside0.mk hy204
      clear hy204
      have H' := Aside0.mk H
      clear H
      have p4 : 0 ≤ (x4_1 : Int) := of_decide_eq_true (by first | (with_reducible assumption) | assumption)
      have q4 : x4_1 < (a0.size : Int) := of_decide_eq_true (by first | (with_reducible assumption) | assumption)
      have hx4 := bt_at a0 x4_1
      replace p4 := eq_true p4
      replace q4 := eq_true q4
      go_wp2_with (first | ((with_reducible refine gate_builtin (b := .append) (xs := #[.tmp 23, .tmp 25]) rfl ?_); at_builtin; refine Kd.R_append (Kd.int .u8) (w0 := w) w.heap.size rfl (.tmp 23) (.tmp 25) 52 5 (.int .u8 0) 1 rfl Tryd.underlying52 info5 rfl (by decide) (by omega) u3 x3_1 (((bt a0 x4_1) + 32) % 256) [.int .u8 (((bt a0 x4_1) + 32) % 256)] (fun _ => True) (fun _ => False) rfl rfl ?aP (fun _ hk => hk.elim) ?aF ?aO ?aB ?aS ?aL ?_; (case aP => exact rfl); (case aB => exact bwl); (case aF => exact (fun _ _ => trivial)); (case aO => exact (by (with_reducible repeat (first | apply Kd.R_alloc | apply Kd.R_drewN | apply Kd.R_drew)); exact HO_3.out)); (case aS => exact (below_size bwl)); (case aL => have := LMc7.out; omega); intro v205 w8 ho hb hg hat; rw [← Ny204.out] at ho; have n0_ := Aside0.mk (hb); have n1_ := Aside0.mk (ho); clear HB; clear HO_3; have HB := n0_; have HO206 := n1_; clear n0_ n1_; clear ho hb hg hat))
      go_roundg k1
      case measure => have := HK1.out; omega
      case rel => exact ⟨(y204), (wrap64 (x4_1 + 1)), meq, H', ⟨by have := HK1.out; omega⟩, ⟨by (with_reducible repeat (first | apply Kd.R_alloc | apply Kd.R_drewN | apply Kd.R_drew)); exact HO206.out⟩, ⟨bwl⟩⟩
     ·rw [if_neg c6] at H
      have c6b0 : decide ((bt a0 x4_1) ≤ 90) = false := decide_eq_false c6
      clear c6
      obtain ⟨c9, H⟩ := ifn H
      have LMc9 := Aside0.mk c9
      clear c9
      obtain ⟨y207, hy207⟩ : ∃ y_ : List Int, y_ = (x3_1 ++ [bt a0 x4_1]) := ⟨_, rfl⟩
      replace H : (cloisterref07_Small.l0 k1 a0 y207 (wrap64 (x4_1 + 1))) = some r := by first | (rw [hy207]; with_reducible exact H) | (have H2_ := (Option.bind_some _ _).symm.trans H; rw [hy207]; with_reducible exact H2_) | (have H2_ := (Option.bind_some _ _).symm.trans H; with_reducible exact H2_) | with_reducible exact H | (rw [hy207]; exact H) | exact H
      have Ny207 := Aside0.mk hy207
      clear hy207
      have H' := Aside0.mk H
      clear H
      have p4 : 0 ≤ (x4_1 : Int) := of_decide_eq_true (by first | (with_reducible assumption) | assumption)
      have q4 : x4_1 < (a0.size : Int) := of_decide_eq_true (by first | (with_reducible assumption) | assumption)
      have hx4 := bt_at a0 x4_1
      replace p4 := eq_true p4
      replace q4 := eq_true q4
      go_wp2_with (first | ((with_reducible refine gate_builtin (b := .append) (xs := #[.tmp 23, .tmp 25]) rfl ?_); at_builtin; refine Kd.R_append (Kd.int .u8) (w0 := w) w.heap.size rfl (.tmp 23) (.tmp 25) 52 5 (.int .u8 0) 1 rfl Tryd.underlying52 info5 rfl (by decide) (by omega) u3 x3_1 (bt a0 x4_1) [.int .u8 (bt a0 x4_1)] (fun _ => True) (fun _ => False) rfl rfl ?aP (fun _ hk => hk.elim) ?aF ?aO ?aB ?aS ?aL ?_; (case aP => exact rfl); (case aB => exact bwl); (case aF => exact (fun _ _ => trivial)); (case aO => exact (by (with_reducible repeat (first | apply Kd.R_alloc | apply Kd.R_drewN | apply Kd.R_drew)); exact HO_3.out)); (case aS => exact (below_size bwl)); (case aL => have := LMc9.out; omega); intro v208 w10 ho hb hg hat; rw [← Ny207.out] at ho; have n0_ := Aside0.mk (hb); have n1_ := Aside0.mk (ho); clear HB; clear HO_3; have HB := n0_; have HO209 := n1_; clear n0_ n1_; clear ho hb hg hat))
      go_roundg k1
      case measure => have := HK1.out; omega
      case rel => exact ⟨(y207), (wrap64 (x4_1 + 1)), meq, H', ⟨by have := HK1.out; omega⟩, ⟨by (with_reducible repeat (first | apply Kd.R_alloc | apply Kd.R_drewN | apply Kd.R_drew)); exact HO209.out⟩, ⟨bwl⟩⟩
    ·rw [if_neg c5] at H
     have c5b0 : decide (65 ≤ (bt a0 x4_1)) = false := decide_eq_false c5
     clear c5
     obtain ⟨c11, H⟩ := ifn H
     have LMc11 := Aside0.mk c11
     clear c11
     obtain ⟨y210, hy210⟩ : ∃ y_ : List Int, y_ = (x3_1 ++ [bt a0 x4_1]) := ⟨_, rfl⟩
     replace H : (cloisterref07_Small.l0 k1 a0 y210 (wrap64 (x4_1 + 1))) = some r := by first | (rw [hy210]; with_reducible exact H) | (have H2_ := (Option.bind_some _ _).symm.trans H; rw [hy210]; with_reducible exact H2_) | (have H2_ := (Option.bind_some _ _).symm.trans H; with_reducible exact H2_) | with_reducible exact H | (rw [hy210]; exact H) | exact H
     have Ny210 := Aside0.mk hy210
     clear hy210
     have H' := Aside0.mk H
     clear H
     have p4 : 0 ≤ (x4_1 : Int) := of_decide_eq_true (by first | (with_reducible assumption) | assumption)
     have q4 : x4_1 < (a0.size : Int) := of_decide_eq_true (by first | (with_reducible assumption) | assumption)
     have hx4 := bt_at a0 x4_1
     replace p4 := eq_true p4
     replace q4 := eq_true q4
     go_wp2_with (first | ((with_reducible refine gate_builtin (b := .append) (xs := #[.tmp 23, .tmp 25]) rfl ?_); at_builtin; refine Kd.R_append (Kd.int .u8) (w0 := w) w.heap.size rfl (.tmp 23) (.tmp 25) 52 5 (.int .u8 0) 1 rfl Tryd.underlying52 info5 rfl (by decide) (by omega) u3 x3_1 (bt a0 x4_1) [.int .u8 (bt a0 x4_1)] (fun _ => True) (fun _ => False) rfl rfl ?aP (fun _ hk => hk.elim) ?aF ?aO ?aB ?aS ?aL ?_; (case aP => exact rfl); (case aB => exact bwl); (case aF => exact (fun _ _ => trivial)); (case aO => exact (by (with_reducible repeat (first | apply Kd.R_alloc | apply Kd.R_drewN | apply Kd.R_drew)); exact HO_3.out)); (case aS => exact (below_size bwl)); (case aL => have := LMc11.out; omega); intro v211 w12 ho hb hg hat; rw [← Ny210.out] at ho; have n0_ := Aside0.mk (hb); have n1_ := Aside0.mk (ho); clear HB; clear HO_3; have HB := n0_; have HO212 := n1_; clear n0_ n1_; clear ho hb hg hat))
     go_roundg k1
     case measure => have := HK1.out; omega
     case rel => exact ⟨(y210), (wrap64 (x4_1 + 1)), meq, H', ⟨by have := HK1.out; omega⟩, ⟨by (with_reducible repeat (first | apply Kd.R_alloc | apply Kd.R_drewN | apply Kd.R_drew)); exact HO212.out⟩, ⟨bwl⟩⟩
   ·rw [if_neg c2] at H
    have c2b0 : decide (x4_1 < (a0.size : Int)) = false := decide_eq_false c2
    clear c2
    obtain rfl := Option.some.inj H
    have hcv13 := own_string (P := Tryd.prog) Tryd.underlying52 Tryd.underlying5 Tryd.underlying9 (Kd.own_of_R HO_3.out)
    go_wp2
    go_ret
    exact ⟨by first | rfl | (simp [errW_none, errW_some] <;> rfl) | (simp [*, errW_none, errW_some] <;> rfl), bwl⟩

/-! ### cloisterref06_Trim: function 52 -/
mutual
def cloisterref06_Trim.j1 : Nat → ByteArray → Int → Int → Option (ByteArray)
 | 0, _, _, _ => none
 | k + 1, x0, x3, x4 => cloisterref06_Trim.l1 k x0 x3 x4
def cloisterref06_Trim.l1 : Nat → ByteArray → Int → Int → Option (ByteArray)
 | 0, _, _, _ => none
 | k + 1, x0, x3, x4 => if x4 > x3 then (if 0 ≤ (wrap64 (x4 - 1)) then (if (wrap64 (x4 - 1)) < (x0.size : Int) then (if (bt x0 (wrap64 (x4 - 1))) = 32 then (cloisterref06_Trim.l1 k x0 x3 (wrap64 (x4 - 1))) else (if (bt x0 (wrap64 (x4 - 1))) = 9 then (cloisterref06_Trim.l1 k x0 x3 (wrap64 (x4 - 1))) else (if 0 ≤ x3 then (if x3 ≤ x4 then (if x4 ≤ (x0.size : Int) then (some (x0.extract (x3 : Int).toNat (x4 : Int).toNat)) else (none)) else (none)) else (none)))) else (none)) else (none)) else (if 0 ≤ x3 then (if x3 ≤ x4 then (if x4 ≤ (x0.size : Int) then (some (x0.extract (x3 : Int).toNat (x4 : Int).toNat)) else (none)) else (none)) else (none))
def cloisterref06_Trim.l0 : Nat → ByteArray → Int → Int → Option (ByteArray)
 | 0, _, _, _ => none
 | k + 1, x0, x3, x4 => if x3 < x4 then (if 0 ≤ x3 then (if x3 < (x0.size : Int) then (if (bt x0 x3) = 32 then (cloisterref06_Trim.l0 k x0 (wrap64 (x3 + 1)) x4) else (if (bt x0 x3) = 9 then (cloisterref06_Trim.l0 k x0 (wrap64 (x3 + 1)) x4) else (cloisterref06_Trim.j1 k x0 x3 x4))) else (none)) else (none)) else (cloisterref06_Trim.j1 k x0 x3 x4)
end
def cloisterref06_Trim.f (k : Nat) (a0 : ByteArray) : Option (ByteArray) := cloisterref06_Trim.l0 k a0 0 (a0.size : Int)
theorem cloisterref06_Trim.mono_l : ∀ k, (∀ y0 y1 y2, LeO (cloisterref06_Trim.j1 k y0 y1 y2) (cloisterref06_Trim.j1 (k + 1) y0 y1 y2)) ∧ (∀ y0 y1 y2, LeO (cloisterref06_Trim.l1 k y0 y1 y2) (cloisterref06_Trim.l1 (k + 1) y0 y1 y2)) ∧ (∀ y0 y1 y2, LeO (cloisterref06_Trim.l0 k y0 y1 y2) (cloisterref06_Trim.l0 (k + 1) y0 y1 y2))
 | 0 => ⟨fun _ _ _ r h => by simp [cloisterref06_Trim.j1] at h, fun _ _ _ r h => by simp [cloisterref06_Trim.l1] at h, fun _ _ _ r h => by simp [cloisterref06_Trim.l0] at h⟩
 | k + 1 => by
  obtain ⟨ih0, ih1, ih2⟩ := cloisterref06_Trim.mono_l k
  refine ⟨?_, ?_, ?_⟩
  ·intro y0 y1 y2
   unfold cloisterref06_Trim.j1
   repeat' first
   | (with_reducible exact ih0 _ _ _)
   | (with_reducible exact ih1 _ _ _)
   | (with_reducible exact ih2 _ _ _)
   | (with_reducible exact LeO.refl _)
   | (with_reducible exact LeO.none _)
   | (with_reducible refine LeO.ite ?_ ?_)
   | (with_reducible refine LeO.bind ?_ (fun _ => ?_))
   | exact ih0 _ _ _
   | exact ih1 _ _ _
   | exact ih2 _ _ _
   | exact LeO.none _
   | refine LeO.ite ?_ ?_
   | refine LeO.bind ?_ (fun _ => ?_)
  ·intro y0 y1 y2
   unfold cloisterref06_Trim.l1
   repeat' first
   | (with_reducible exact ih0 _ _ _)
   | (with_reducible exact ih1 _ _ _)
   | (with_reducible exact ih2 _ _ _)
   | (with_reducible exact LeO.refl _)
   | (with_reducible exact LeO.none _)
   | (with_reducible refine LeO.ite ?_ ?_)
   | (with_reducible refine LeO.bind ?_ (fun _ => ?_))
   | exact ih0 _ _ _
   | exact ih1 _ _ _
   | exact ih2 _ _ _
   | exact LeO.none _
   | refine LeO.ite ?_ ?_
   | refine LeO.bind ?_ (fun _ => ?_)
  ·intro y0 y1 y2
   unfold cloisterref06_Trim.l0
   repeat' first
   | (with_reducible exact ih0 _ _ _)
   | (with_reducible exact ih1 _ _ _)
   | (with_reducible exact ih2 _ _ _)
   | (with_reducible exact LeO.refl _)
   | (with_reducible exact LeO.none _)
   | (with_reducible refine LeO.ite ?_ ?_)
   | (with_reducible refine LeO.bind ?_ (fun _ => ?_))
   | exact ih0 _ _ _
   | exact ih1 _ _ _
   | exact ih2 _ _ _
   | exact LeO.none _
   | refine LeO.ite ?_ ?_
   | refine LeO.bind ?_ (fun _ => ?_)
theorem cloisterref06_Trim.mono : ∀ a0 k, LeO (cloisterref06_Trim.f k a0) (cloisterref06_Trim.f (k + 1) a0) := by
 intro a0 k
 obtain ⟨ih0, ih1, ih2⟩ := cloisterref06_Trim.mono_l k
 unfold cloisterref06_Trim.f
 repeat' first
   | (with_reducible exact ih0 _ _ _)
   | (with_reducible exact ih1 _ _ _)
   | (with_reducible exact ih2 _ _ _)
   | (with_reducible exact LeO.refl _)
   | (with_reducible exact LeO.none _)
   | (with_reducible refine LeO.ite ?_ ?_)
   | (with_reducible refine LeO.bind ?_ (fun _ => ?_))
   | exact ih0 _ _ _
   | exact ih1 _ _ _
   | exact ih2 _ _ _
   | exact LeO.none _
   | refine LeO.ite ?_ ?_
   | refine LeO.bind ?_ (fun _ => ?_)
set_option maxHeartbeats 8000000 in
set_option maxRecDepth 100000 in
theorem cloisterref06_Trim.calls (k : Nat) (a0 : ByteArray) (r : ByteArray) (w : World) (h : cloisterref06_Trim.f k a0 = some r) :
  Calls Tryd.prog 52 #[.string a0] w fun e w' => e = .returned (.string r) ∧ Drawn0 w w' := by
 have H : (cloisterref06_Trim.l0 k a0 0 (a0.size : Int)) = some r := h
 clear h
 have HC2 := Aside0.mk H
 clear H
 go_enter Tryd.func52, Tryd.ntmps52
 go_upto_block 0 with (fail)
 go_cut [3] (fun v3 wc => ∃ (kq : Nat) (x3_1 : Int), v3 = .int .i64 x3_1 ∧ Aside0 (cloisterref06_Trim.j1 kq a0 x3_1 (a0.size : Int) = some r) ∧ Aside0 (kq ≤ k) ∧ Drawn0 w wc)
 case first =>
  have H := HC2.out
  clear HC2
  have H' := Aside0.mk H
  clear H
  go_wp2
  go_loopg [3] k (fun kq v3 w' => ∃ (x3_1 : Int), v3 = .int .i64 x3_1 ∧ Aside0 (cloisterref06_Trim.l0 kq a0 x3_1 (a0.size : Int) = some r) ∧ Aside0 (kq ≤ k) ∧ Drawn0 w w')
  case atStart => exact ⟨(0), meq, H', ⟨Nat.le_refl _⟩, by repeat (first | exact Drawn0.refl _ | apply Drawn0.step)⟩
  case round =>
   clear H'
   obtain ⟨x3_1, rfl, HA, HK1, ⟨m1, rfl⟩⟩ := hrel
   cases gk with
   | zero => exact absurd HA.out (by simp [cloisterref06_Trim.l0])
   | succ k1 =>
    have H := HA.out
    clear HA
    simp only [cloisterref06_Trim.l0] at H
    by_cases c3 : x3_1 < (a0.size : Int)
    ·rw [if_pos c3] at H
     have c3b0 : decide (x3_1 < (a0.size : Int)) = true := decide_eq_true c3
     clear c3
     (first | rw [c3b0] | (simp only [i64_w, i32_w]; rw [c3b0]) | skip)
     obtain ⟨c4, H⟩ := ifn H
     have c4b0 : decide (0 ≤ x3_1) = true := decide_eq_true c4
     clear c4
     obtain ⟨c5, H⟩ := ifn H
     have c5b0 : decide (x3_1 < (a0.size : Int)) = true := decide_eq_true c5
     clear c5
     by_cases c7 : (bt a0 x3_1) = 32
     ·rw [if_pos c7] at H
      have c7b0 : ((bt a0 x3_1) == 32) = true := beq_iff_eq.mpr c7
      have c7b1 : ((bt a0 x3_1) != 32) = false := bne_eq_false_iff_eq.mpr c7
      clear c7
      have H' := Aside0.mk H
      clear H
      have p6 : 0 ≤ (x3_1 : Int) := of_decide_eq_true (by first | (with_reducible assumption) | assumption)
      have q6 : x3_1 < (a0.size : Int) := of_decide_eq_true (by first | (with_reducible assumption) | assumption)
      have hx6 := bt_at a0 x3_1
      replace p6 := eq_true p6
      replace q6 := eq_true q6
      go_wp2
      go_roundg k1
      case measure => have := HK1.out; omega
      case rel => exact ⟨(wrap64 (x3_1 + 1)), meq, H', ⟨by have := HK1.out; omega⟩, by repeat (first | exact Drawn0.refl _ | apply Drawn0.step)⟩
     ·rw [if_neg c7] at H
      have c7b0 : ((bt a0 x3_1) == 32) = false := beq_eq_false_iff_ne.mpr c7
      have c7b1 : ((bt a0 x3_1) != 32) = true := bne_iff_ne.mpr c7
      by_cases c9 : (bt a0 x3_1) = 9
      ·rw [if_pos c9] at H
       have c9b0 : ((bt a0 x3_1) == 9) = true := beq_iff_eq.mpr c9
       have c9b1 : ((bt a0 x3_1) != 9) = false := bne_eq_false_iff_eq.mpr c9
       clear c9
       have H' := Aside0.mk H
       clear H
       have p6 : 0 ≤ (x3_1 : Int) := of_decide_eq_true (by first | (with_reducible assumption) | assumption)
       have q6 : x3_1 < (a0.size : Int) := of_decide_eq_true (by first | (with_reducible assumption) | assumption)
       have hx6 := bt_at a0 x3_1
       replace p6 := eq_true p6
       replace q6 := eq_true q6
       have p8 : 0 ≤ (x3_1 : Int) := of_decide_eq_true (by first | (with_reducible assumption) | assumption)
       have q8 : x3_1 < (a0.size : Int) := of_decide_eq_true (by first | (with_reducible assumption) | assumption)
       have hx8 := bt_at a0 x3_1
       replace p8 := eq_true p8
       replace q8 := eq_true q8
       go_wp2
       go_roundg k1
       case measure => have := HK1.out; omega
       case rel => exact ⟨(wrap64 (x3_1 + 1)), meq, H', ⟨by have := HK1.out; omega⟩, by repeat (first | exact Drawn0.refl _ | apply Drawn0.step)⟩
      ·rw [if_neg c9] at H
       have c9b0 : ((bt a0 x3_1) == 9) = false := beq_eq_false_iff_ne.mpr c9
       have c9b1 : ((bt a0 x3_1) != 9) = true := bne_iff_ne.mpr c9
       have H' := Aside0.mk H
       clear H
       have p6 : 0 ≤ (x3_1 : Int) := of_decide_eq_true (by first | (with_reducible assumption) | assumption)
       have q6 : x3_1 < (a0.size : Int) := of_decide_eq_true (by first | (with_reducible assumption) | assumption)
       have hx6 := bt_at a0 x3_1
       replace p6 := eq_true p6
       replace q6 := eq_true q6
       have p8 : 0 ≤ (x3_1 : Int) := of_decide_eq_true (by first | (with_reducible assumption) | assumption)
       have q8 : x3_1 < (a0.size : Int) := of_decide_eq_true (by first | (with_reducible assumption) | assumption)
       have hx8 := bt_at a0 x3_1
       replace p8 := eq_true p8
       replace q8 := eq_true q8
       go_wp2
       go_meet
       case rel => exact ⟨_, (x3_1), meq, H', ⟨by have := HK1.out; first | omega | exact Nat.le_refl _⟩, by repeat (first | exact Drawn0.refl _ | apply Drawn0.step)⟩
    ·rw [if_neg c3] at H
     have c3b0 : decide (x3_1 < (a0.size : Int)) = false := decide_eq_false c3
     clear c3
     (first | rw [c3b0] | (simp only [i64_w, i32_w]; rw [c3b0]) | skip)
     have H' := Aside0.mk H
     clear H
     go_wp2
     go_meet
     case rel => exact ⟨_, (x3_1), meq, H', ⟨by have := HK1.out; first | omega | exact Nat.le_refl _⟩, by repeat (first | exact Drawn0.refl _ | apply Drawn0.step)⟩
 case rest =>
  clear HC2
  obtain ⟨kq, x3_1, rfl, HA, HJ1, ⟨mc1, rfl⟩⟩ := hcut
  cases kq with
  | zero => exact absurd HA.out (by simp [cloisterref06_Trim.j1])
  | succ kj1 =>
   have H := HA.out
   clear HA
   simp only [cloisterref06_Trim.j1] at H
   have H' := Aside0.mk H
   clear H
   go_wp2
   go_loopg [4] kj1 (fun kq v4 w' => ∃ (x4_2 : Int), v4 = .int .i64 x4_2 ∧ Aside0 (cloisterref06_Trim.l1 kq a0 x3_1 x4_2 = some r) ∧ Aside0 (kq ≤ kj1) ∧ Drawn0 w w')
   case atStart => exact ⟨((a0.size : Int)), meq, H', ⟨Nat.le_refl _⟩, by repeat (first | exact Drawn0.refl _ | apply Drawn0.step)⟩
   case round =>
    clear H'
    obtain ⟨x4_2, rfl, HA, HK2, ⟨m2, rfl⟩⟩ := hrel
    cases gk with
    | zero => exact absurd HA.out (by simp [cloisterref06_Trim.l1])
    | succ k2 =>
     have H := HA.out
     clear HA
     simp only [cloisterref06_Trim.l1] at H
     by_cases c10 : x4_2 > x3_1
     ·rw [if_pos c10] at H
      have c10b0 : decide (x3_1 < x4_2) = true := decide_eq_true c10
      clear c10
      obtain ⟨ji11, hji11⟩ : ∃ j_ : Int, (wrap64 (x4_2 - 1)) = j_ := ⟨_, rfl⟩
      replace H : (if 0 ≤ (ji11) then (if (ji11) < (a0.size : Int) then (if (bt a0 (ji11)) = 32 then (cloisterref06_Trim.l1 k2 a0 x3_1 ji11) else (if (bt a0 (ji11)) = 9 then (cloisterref06_Trim.l1 k2 a0 x3_1 ji11) else (if 0 ≤ x3_1 then (if x3_1 ≤ x4_2 then (if x4_2 ≤ (a0.size : Int) then (some (a0.extract (x3_1 : Int).toNat (x4_2 : Int).toNat)) else (none)) else (none)) else (none)))) else (none)) else (none)) = some r := by first | (rw [hji11] at H; exact H) | (simp only [hji11] at H ⊢; exact H)
      have hji11w : (IntKind.i64.wrap (x4_2 - 1)) = ji11 := (i64_w _).trans hji11
      obtain ⟨c12, H⟩ := ifn H
      have c12b0 : decide (0 ≤ (ji11)) = true := decide_eq_true c12
      clear c12
      obtain ⟨c13, H⟩ := ifn H
      have c13b0 : decide ((ji11) < (a0.size : Int)) = true := decide_eq_true c13
      clear c13
      by_cases c15 : (bt a0 (ji11)) = 32
      ·rw [if_pos c15] at H
       have c15b0 : ((bt a0 (ji11)) == 32) = true := beq_iff_eq.mpr c15
       have c15b1 : ((bt a0 (ji11)) != 32) = false := bne_eq_false_iff_eq.mpr c15
       clear c15
       have H' := Aside0.mk H
       clear H
       have p14 : 0 ≤ ((ji11) : Int) := of_decide_eq_true (by first | (with_reducible assumption) | assumption)
       have q14 : (ji11) < (a0.size : Int) := of_decide_eq_true (by first | (with_reducible assumption) | assumption)
       have hx14 := bt_at a0 (ji11)
       replace p14 := eq_true p14
       replace q14 := eq_true q14
       go_wp2
       go_roundg k2
       case measure => have := HJ1.out; have := HK2.out; omega
       case rel => exact ⟨(ji11), (by first | rfl | (simp; done) | (simp only [← hji11] <;> (first | rfl | simp)) | (simp [*]; done)), H', ⟨by have := HJ1.out; have := HK2.out; omega⟩, by repeat (first | exact Drawn0.refl _ | apply Drawn0.step)⟩
      ·rw [if_neg c15] at H
       have c15b0 : ((bt a0 (ji11)) == 32) = false := beq_eq_false_iff_ne.mpr c15
       have c15b1 : ((bt a0 (ji11)) != 32) = true := bne_iff_ne.mpr c15
       by_cases c17 : (bt a0 (ji11)) = 9
       ·rw [if_pos c17] at H
        have c17b0 : ((bt a0 (ji11)) == 9) = true := beq_iff_eq.mpr c17
        have c17b1 : ((bt a0 (ji11)) != 9) = false := bne_eq_false_iff_eq.mpr c17
        clear c17
        have H' := Aside0.mk H
        clear H
        have p14 : 0 ≤ ((ji11) : Int) := of_decide_eq_true (by first | (with_reducible assumption) | assumption)
        have q14 : (ji11) < (a0.size : Int) := of_decide_eq_true (by first | (with_reducible assumption) | assumption)
        have hx14 := bt_at a0 (ji11)
        replace p14 := eq_true p14
        replace q14 := eq_true q14
        have p16 : 0 ≤ ((ji11) : Int) := of_decide_eq_true (by first | (with_reducible assumption) | assumption)
        have q16 : (ji11) < (a0.size : Int) := of_decide_eq_true (by first | (with_reducible assumption) | assumption)
        have hx16 := bt_at a0 (ji11)
        replace p16 := eq_true p16
        replace q16 := eq_true q16
        go_wp2
        go_roundg k2
        case measure => have := HJ1.out; have := HK2.out; omega
        case rel => exact ⟨(ji11), (by first | rfl | (simp; done) | (simp only [← hji11] <;> (first | rfl | simp)) | (simp [*]; done)), H', ⟨by have := HJ1.out; have := HK2.out; omega⟩, by repeat (first | exact Drawn0.refl _ | apply Drawn0.step)⟩
       ·rw [if_neg c17] at H
        have c17b0 : ((bt a0 (ji11)) == 9) = false := beq_eq_false_iff_ne.mpr c17
        have c17b1 : ((bt a0 (ji11)) != 9) = true := bne_iff_ne.mpr c17
        obtain ⟨c18b0, c18b1, H⟩ := ifn2 H
        obtain ⟨c19b0, c19b1, H⟩ := ifn2 H
        obtain ⟨c20b0, c20b1, H⟩ := ifn2 H
        obtain rfl := Option.some.inj H
        have p14 : 0 ≤ ((ji11) : Int) := of_decide_eq_true (by first | (with_reducible assumption) | assumption)
        have q14 : (ji11) < (a0.size : Int) := of_decide_eq_true (by first | (with_reducible assumption) | assumption)
        have hx14 := bt_at a0 (ji11)
        replace p14 := eq_true p14
        replace q14 := eq_true q14
        have p16 : 0 ≤ ((ji11) : Int) := of_decide_eq_true (by first | (with_reducible assumption) | assumption)
        have q16 : (ji11) < (a0.size : Int) := of_decide_eq_true (by first | (with_reducible assumption) | assumption)
        have hx16 := bt_at a0 (ji11)
        replace p16 := eq_true p16
        replace q16 := eq_true q16
        go_wp2
        go_ret
        exact ⟨by first | rfl | (simp; done) | (simp only [← hji11] <;> (first | rfl | simp)) | (simp [*]; done), by repeat (first | exact Drawn0.refl _ | apply Drawn0.step)⟩
     ·rw [if_neg c10] at H
      have c10b0 : decide (x3_1 < x4_2) = false := decide_eq_false c10
      clear c10
      obtain ⟨c21b0, c21b1, H⟩ := ifn2 H
      obtain ⟨c22b0, c22b1, H⟩ := ifn2 H
      obtain ⟨c23b0, c23b1, H⟩ := ifn2 H
      obtain rfl := Option.some.inj H
      go_wp2
      go_ret
      exact ⟨by first | rfl | (simp; done) | (simp [*]; done), by repeat (first | exact Drawn0.refl _ | apply Drawn0.step)⟩

/-! ### cloisterref09_value: function 109 -/
def cloisterref09_value.l0 : Nat → ByteArray → Int → Option (Bool)
 | 0, _, _ => none
 | k + 1, x0, x3 => if x3 < (x0.size : Int) then (if 0 ≤ x3 then (if (bt x0 x3) < 33 then (if (bt x0 x3) = 32 then (cloisterref09_value.l0 k x0 (wrap64 (x3 + 1))) else (if (bt x0 x3) = 9 then (cloisterref09_value.l0 k x0 (wrap64 (x3 + 1))) else (some false))) else (if (bt x0 x3) > 126 then (if (bt x0 x3) = 32 then (cloisterref09_value.l0 k x0 (wrap64 (x3 + 1))) else (if (bt x0 x3) = 9 then (cloisterref09_value.l0 k x0 (wrap64 (x3 + 1))) else (some false))) else (cloisterref09_value.l0 k x0 (wrap64 (x3 + 1))))) else (none)) else ((cloisterref06_Trim.f k x0).bind fun t213 => (some (t213.toList == x0.toList)))
def cloisterref09_value.f (k : Nat) (a0 : ByteArray) : Option (Bool) := cloisterref09_value.l0 k a0 0
theorem cloisterref09_value.mono_l : ∀ k, (∀ y0 y1, LeO (cloisterref09_value.l0 k y0 y1) (cloisterref09_value.l0 (k + 1) y0 y1))
 | 0 => fun _ _ r h => by simp [cloisterref09_value.l0] at h
 | k + 1 => by
  have ih0 := cloisterref09_value.mono_l k
  ·intro y0 y1
   unfold cloisterref09_value.l0
   repeat' first
   | (with_reducible exact ih0 _ _)
   | (with_reducible exact cloisterref06_Trim.mono _ _)
   | (with_reducible exact LeO.refl _)
   | (with_reducible exact LeO.none _)
   | (with_reducible refine LeO.ite ?_ ?_)
   | (with_reducible refine LeO.bind ?_ (fun _ => ?_))
   | exact ih0 _ _
   | exact cloisterref06_Trim.mono _ _
   | exact LeO.none _
   | refine LeO.ite ?_ ?_
   | refine LeO.bind ?_ (fun _ => ?_)
theorem cloisterref09_value.mono : ∀ a0 k, LeO (cloisterref09_value.f k a0) (cloisterref09_value.f (k + 1) a0) := by
 intro a0 k
 have ih0 := cloisterref09_value.mono_l k
 unfold cloisterref09_value.f
 repeat' first
   | (with_reducible exact ih0 _ _)
   | (with_reducible exact cloisterref06_Trim.mono _ _)
   | (with_reducible exact LeO.refl _)
   | (with_reducible exact LeO.none _)
   | (with_reducible refine LeO.ite ?_ ?_)
   | (with_reducible refine LeO.bind ?_ (fun _ => ?_))
   | exact ih0 _ _
   | exact cloisterref06_Trim.mono _ _
   | exact LeO.none _
   | refine LeO.ite ?_ ?_
   | refine LeO.bind ?_ (fun _ => ?_)
set_option maxHeartbeats 8000000 in
set_option maxRecDepth 100000 in
theorem cloisterref09_value.calls (k : Nat) (a0 : ByteArray) (r : Bool) (w : World) (h : cloisterref09_value.f k a0 = some r) :
  Calls Tryd.prog 109 #[.string a0] w fun e w' => e = .returned (.bool r) ∧ Drawn0 w w' := by
 have H : (cloisterref09_value.l0 k a0 0) = some r := h
 clear h
 have H' := Aside0.mk H
 clear H
 go_enter Tryd.func109, Tryd.ntmps109
 go_wp2
 go_loopg [3] k (fun kq v3 w' => ∃ (x3_1 : Int), v3 = .int .i64 x3_1 ∧ Aside0 (cloisterref09_value.l0 kq a0 x3_1 = some r) ∧ Aside0 (kq ≤ k) ∧ Drawn0 w w')
 case atStart => exact ⟨(0), meq, H', ⟨Nat.le_refl _⟩, by repeat (first | exact Drawn0.refl _ | apply Drawn0.step)⟩
 case round =>
  clear H'
  obtain ⟨x3_1, rfl, HA, HK1, ⟨m1, rfl⟩⟩ := hrel
  cases gk with
  | zero => exact absurd HA.out (by simp [cloisterref09_value.l0])
  | succ k1 =>
   have H := HA.out
   clear HA
   simp only [cloisterref09_value.l0] at H
   by_cases c2 : x3_1 < (a0.size : Int)
   ·rw [if_pos c2] at H
    have c2b0 : decide (x3_1 < (a0.size : Int)) = true := decide_eq_true c2
    clear c2
    obtain ⟨c3, H⟩ := ifn H
    have c3b0 : decide (0 ≤ x3_1) = true := decide_eq_true c3
    clear c3
    by_cases c5 : (bt a0 x3_1) < 33
    ·rw [if_pos c5] at H
     have c5b0 : decide ((bt a0 x3_1) < 33) = true := decide_eq_true c5
     clear c5
     by_cases c7 : (bt a0 x3_1) = 32
     ·rw [if_pos c7] at H
      have c7b0 : ((bt a0 x3_1) == 32) = true := beq_iff_eq.mpr c7
      have c7b1 : ((bt a0 x3_1) != 32) = false := bne_eq_false_iff_eq.mpr c7
      clear c7
      have H' := Aside0.mk H
      clear H
      have p4 : 0 ≤ (x3_1 : Int) := of_decide_eq_true (by first | (with_reducible assumption) | assumption)
      have q4 : x3_1 < (a0.size : Int) := of_decide_eq_true (by first | (with_reducible assumption) | assumption)
      have hx4 := bt_at a0 x3_1
      replace p4 := eq_true p4
      replace q4 := eq_true q4
      have p6 : 0 ≤ (x3_1 : Int) := of_decide_eq_true (by first | (with_reducible assumption) | assumption)
      have q6 : x3_1 < (a0.size : Int) := of_decide_eq_true (by first | (with_reducible assumption) | assumption)
      have hx6 := bt_at a0 x3_1
      replace p6 := eq_true p6
      replace q6 := eq_true q6
      go_wp2
      go_roundg k1
      case measure => have := HK1.out; omega
      case rel => exact ⟨(wrap64 (x3_1 + 1)), meq, H', ⟨by have := HK1.out; omega⟩, by repeat (first | exact Drawn0.refl _ | apply Drawn0.step)⟩
     ·rw [if_neg c7] at H
      have c7b0 : ((bt a0 x3_1) == 32) = false := beq_eq_false_iff_ne.mpr c7
      have c7b1 : ((bt a0 x3_1) != 32) = true := bne_iff_ne.mpr c7
      by_cases c9 : (bt a0 x3_1) = 9
      ·rw [if_pos c9] at H
       have c9b0 : ((bt a0 x3_1) == 9) = true := beq_iff_eq.mpr c9
       have c9b1 : ((bt a0 x3_1) != 9) = false := bne_eq_false_iff_eq.mpr c9
       clear c9
       have H' := Aside0.mk H
       clear H
       have p4 : 0 ≤ (x3_1 : Int) := of_decide_eq_true (by first | (with_reducible assumption) | assumption)
       have q4 : x3_1 < (a0.size : Int) := of_decide_eq_true (by first | (with_reducible assumption) | assumption)
       have hx4 := bt_at a0 x3_1
       replace p4 := eq_true p4
       replace q4 := eq_true q4
       have p6 : 0 ≤ (x3_1 : Int) := of_decide_eq_true (by first | (with_reducible assumption) | assumption)
       have q6 : x3_1 < (a0.size : Int) := of_decide_eq_true (by first | (with_reducible assumption) | assumption)
       have hx6 := bt_at a0 x3_1
       replace p6 := eq_true p6
       replace q6 := eq_true q6
       have p8 : 0 ≤ (x3_1 : Int) := of_decide_eq_true (by first | (with_reducible assumption) | assumption)
       have q8 : x3_1 < (a0.size : Int) := of_decide_eq_true (by first | (with_reducible assumption) | assumption)
       have hx8 := bt_at a0 x3_1
       replace p8 := eq_true p8
       replace q8 := eq_true q8
       go_wp2
       go_roundg k1
       case measure => have := HK1.out; omega
       case rel => exact ⟨(wrap64 (x3_1 + 1)), meq, H', ⟨by have := HK1.out; omega⟩, by repeat (first | exact Drawn0.refl _ | apply Drawn0.step)⟩
      ·rw [if_neg c9] at H
       have c9b0 : ((bt a0 x3_1) == 9) = false := beq_eq_false_iff_ne.mpr c9
       have c9b1 : ((bt a0 x3_1) != 9) = true := bne_iff_ne.mpr c9
       obtain rfl := Option.some.inj H
       have p4 : 0 ≤ (x3_1 : Int) := of_decide_eq_true (by first | (with_reducible assumption) | assumption)
       have q4 : x3_1 < (a0.size : Int) := of_decide_eq_true (by first | (with_reducible assumption) | assumption)
       have hx4 := bt_at a0 x3_1
       replace p4 := eq_true p4
       replace q4 := eq_true q4
       have p6 : 0 ≤ (x3_1 : Int) := of_decide_eq_true (by first | (with_reducible assumption) | assumption)
       have q6 : x3_1 < (a0.size : Int) := of_decide_eq_true (by first | (with_reducible assumption) | assumption)
       have hx6 := bt_at a0 x3_1
       replace p6 := eq_true p6
       replace q6 := eq_true q6
       have p8 : 0 ≤ (x3_1 : Int) := of_decide_eq_true (by first | (with_reducible assumption) | assumption)
       have q8 : x3_1 < (a0.size : Int) := of_decide_eq_true (by first | (with_reducible assumption) | assumption)
       have hx8 := bt_at a0 x3_1
       replace p8 := eq_true p8
       replace q8 := eq_true q8
       go_wp2
       go_ret
       exact ⟨by first | rfl | (simp; done) | (simp [*]; done), by repeat (first | exact Drawn0.refl _ | apply Drawn0.step)⟩
    ·rw [if_neg c5] at H
     have c5b0 : decide ((bt a0 x3_1) < 33) = false := decide_eq_false c5
     clear c5
     by_cases c11 : (bt a0 x3_1) > 126
     ·rw [if_pos c11] at H
      have c11b0 : decide (126 < (bt a0 x3_1)) = true := decide_eq_true c11
      clear c11
      by_cases c13 : (bt a0 x3_1) = 32
      ·rw [if_pos c13] at H
       have c13b0 : ((bt a0 x3_1) == 32) = true := beq_iff_eq.mpr c13
       have c13b1 : ((bt a0 x3_1) != 32) = false := bne_eq_false_iff_eq.mpr c13
       clear c13
       have H' := Aside0.mk H
       clear H
       have p4 : 0 ≤ (x3_1 : Int) := of_decide_eq_true (by first | (with_reducible assumption) | assumption)
       have q4 : x3_1 < (a0.size : Int) := of_decide_eq_true (by first | (with_reducible assumption) | assumption)
       have hx4 := bt_at a0 x3_1
       replace p4 := eq_true p4
       replace q4 := eq_true q4
       have p10 : 0 ≤ (x3_1 : Int) := of_decide_eq_true (by first | (with_reducible assumption) | assumption)
       have q10 : x3_1 < (a0.size : Int) := of_decide_eq_true (by first | (with_reducible assumption) | assumption)
       have hx10 := bt_at a0 x3_1
       replace p10 := eq_true p10
       replace q10 := eq_true q10
       have p12 : 0 ≤ (x3_1 : Int) := of_decide_eq_true (by first | (with_reducible assumption) | assumption)
       have q12 : x3_1 < (a0.size : Int) := of_decide_eq_true (by first | (with_reducible assumption) | assumption)
       have hx12 := bt_at a0 x3_1
       replace p12 := eq_true p12
       replace q12 := eq_true q12
       go_wp2
       go_roundg k1
       case measure => have := HK1.out; omega
       case rel => exact ⟨(wrap64 (x3_1 + 1)), meq, H', ⟨by have := HK1.out; omega⟩, by repeat (first | exact Drawn0.refl _ | apply Drawn0.step)⟩
      ·rw [if_neg c13] at H
       have c13b0 : ((bt a0 x3_1) == 32) = false := beq_eq_false_iff_ne.mpr c13
       have c13b1 : ((bt a0 x3_1) != 32) = true := bne_iff_ne.mpr c13
       by_cases c15 : (bt a0 x3_1) = 9
       ·rw [if_pos c15] at H
        have c15b0 : ((bt a0 x3_1) == 9) = true := beq_iff_eq.mpr c15
        have c15b1 : ((bt a0 x3_1) != 9) = false := bne_eq_false_iff_eq.mpr c15
        clear c15
        have H' := Aside0.mk H
        clear H
        have p4 : 0 ≤ (x3_1 : Int) := of_decide_eq_true (by first | (with_reducible assumption) | assumption)
        have q4 : x3_1 < (a0.size : Int) := of_decide_eq_true (by first | (with_reducible assumption) | assumption)
        have hx4 := bt_at a0 x3_1
        replace p4 := eq_true p4
        replace q4 := eq_true q4
        have p10 : 0 ≤ (x3_1 : Int) := of_decide_eq_true (by first | (with_reducible assumption) | assumption)
        have q10 : x3_1 < (a0.size : Int) := of_decide_eq_true (by first | (with_reducible assumption) | assumption)
        have hx10 := bt_at a0 x3_1
        replace p10 := eq_true p10
        replace q10 := eq_true q10
        have p12 : 0 ≤ (x3_1 : Int) := of_decide_eq_true (by first | (with_reducible assumption) | assumption)
        have q12 : x3_1 < (a0.size : Int) := of_decide_eq_true (by first | (with_reducible assumption) | assumption)
        have hx12 := bt_at a0 x3_1
        replace p12 := eq_true p12
        replace q12 := eq_true q12
        have p14 : 0 ≤ (x3_1 : Int) := of_decide_eq_true (by first | (with_reducible assumption) | assumption)
        have q14 : x3_1 < (a0.size : Int) := of_decide_eq_true (by first | (with_reducible assumption) | assumption)
        have hx14 := bt_at a0 x3_1
        replace p14 := eq_true p14
        replace q14 := eq_true q14
        go_wp2
        go_roundg k1
        case measure => have := HK1.out; omega
        case rel => exact ⟨(wrap64 (x3_1 + 1)), meq, H', ⟨by have := HK1.out; omega⟩, by repeat (first | exact Drawn0.refl _ | apply Drawn0.step)⟩
       ·rw [if_neg c15] at H
        have c15b0 : ((bt a0 x3_1) == 9) = false := beq_eq_false_iff_ne.mpr c15
        have c15b1 : ((bt a0 x3_1) != 9) = true := bne_iff_ne.mpr c15
        obtain rfl := Option.some.inj H
        have p4 : 0 ≤ (x3_1 : Int) := of_decide_eq_true (by first | (with_reducible assumption) | assumption)
        have q4 : x3_1 < (a0.size : Int) := of_decide_eq_true (by first | (with_reducible assumption) | assumption)
        have hx4 := bt_at a0 x3_1
        replace p4 := eq_true p4
        replace q4 := eq_true q4
        have p10 : 0 ≤ (x3_1 : Int) := of_decide_eq_true (by first | (with_reducible assumption) | assumption)
        have q10 : x3_1 < (a0.size : Int) := of_decide_eq_true (by first | (with_reducible assumption) | assumption)
        have hx10 := bt_at a0 x3_1
        replace p10 := eq_true p10
        replace q10 := eq_true q10
        have p12 : 0 ≤ (x3_1 : Int) := of_decide_eq_true (by first | (with_reducible assumption) | assumption)
        have q12 : x3_1 < (a0.size : Int) := of_decide_eq_true (by first | (with_reducible assumption) | assumption)
        have hx12 := bt_at a0 x3_1
        replace p12 := eq_true p12
        replace q12 := eq_true q12
        have p14 : 0 ≤ (x3_1 : Int) := of_decide_eq_true (by first | (with_reducible assumption) | assumption)
        have q14 : x3_1 < (a0.size : Int) := of_decide_eq_true (by first | (with_reducible assumption) | assumption)
        have hx14 := bt_at a0 x3_1
        replace p14 := eq_true p14
        replace q14 := eq_true q14
        go_wp2
        go_ret
        exact ⟨by first | rfl | (simp; done) | (simp [*]; done), by repeat (first | exact Drawn0.refl _ | apply Drawn0.step)⟩
     ·rw [if_neg c11] at H
      have c11b0 : decide (126 < (bt a0 x3_1)) = false := decide_eq_false c11
      clear c11
      have H' := Aside0.mk H
      clear H
      have p4 : 0 ≤ (x3_1 : Int) := of_decide_eq_true (by first | (with_reducible assumption) | assumption)
      have q4 : x3_1 < (a0.size : Int) := of_decide_eq_true (by first | (with_reducible assumption) | assumption)
      have hx4 := bt_at a0 x3_1
      replace p4 := eq_true p4
      replace q4 := eq_true q4
      have p10 : 0 ≤ (x3_1 : Int) := of_decide_eq_true (by first | (with_reducible assumption) | assumption)
      have q10 : x3_1 < (a0.size : Int) := of_decide_eq_true (by first | (with_reducible assumption) | assumption)
      have hx10 := bt_at a0 x3_1
      replace p10 := eq_true p10
      replace q10 := eq_true q10
      go_wp2
      go_roundg k1
      case measure => have := HK1.out; omega
      case rel => exact ⟨(wrap64 (x3_1 + 1)), meq, H', ⟨by have := HK1.out; omega⟩, by repeat (first | exact Drawn0.refl _ | apply Drawn0.step)⟩
   ·rw [if_neg c2] at H
    have c2b0 : decide (x3_1 < (a0.size : Int)) = false := decide_eq_false c2
    clear c2
    replace H := Option.bind_eq_some_iff.mp H
    obtain ⟨t213, A160, H⟩ := H
    try dsimp only at H
    have A16 := Aside0.mk A160
    clear A160
    obtain rfl := Option.some.inj H
    go_wp2_with (first | ((with_reducible refine gate_callee (f := 52) rfl ?_); refine goesL_ (some 33) rfl rfl Tryd.func52 (by kernel_rfl) rfl #[.string a0] rfl mta ?_; (with_reducible refine (cloisterref06_Trim.calls k1 a0 t213 _ A16.out).mono ?_); rintro e w' ⟨rfl, ⟨nd, rfl⟩⟩; refine ⟨_, rfl, ?_⟩))
    go_ret
    exact ⟨by first | rfl | (simp; done) | (simp [*]; done), by repeat (first | exact Drawn0.refl _ | apply Drawn0.step)⟩

end Go.Proofs.YtlpmifofgacgiaaDoor.Q
namespace Go.Proofs.YtlpmifofgacgiaaDoor.Q
open Go.RowKit Go.Proofs.YtlpmifofgacgiaaDoorW.PrintWords

/-! ### bytes that are read -/
theorem bt_is {s : ByteArray} {i : Nat} (h : i < (bytes s).length) {n : Nat} (hn : n < 256) : bt s (i : Int) = (n : Int) ↔ (bytes s)[i] = UInt8.ofNat n := by
  rw [bt_nat s i h]
  exact u8_int hn
theorem blank_bt {s : ByteArray} {i : Nat} (h : i < (bytes s).length) : blank (bytes s)[i] = true ↔ bt s (i : Int) = 32 ∨ bt s (i : Int) = 9 := by
  rw [show ((32 : Int) = ((32 : Nat) : Int)) from rfl, show ((9 : Int) = ((9 : Nat) : Int)) from rfl, bt_is h (by omega), bt_is h (by omega)]
  unfold blank
  rw [Bool.or_eq_true, beq_iff_eq, beq_iff_eq]
  exact Iff.rfl
theorem Ev.blank {α : Type} {s : ByteArray} {i : Nat} {A B : Nat → Option α} {r : α} (h : i < (bytes s).length) (hb : blank (bytes s)[i] = true) (hA : Ev A r) : Ev (fun k => if bt s (i : Int) = 32 then A k else if bt s (i : Int) = 9 then A k else B k) r := by
  rcases (blank_bt h).1 hb with e | e
  · exact Ev.pos e hA
  · by_cases e2 : bt s (i : Int) = 32
    · exact Ev.pos e2 hA
    · exact Ev.neg e2 (Ev.pos e hA)
theorem Ev.solid {α : Type} {s : ByteArray} {i : Nat} {A B : Nat → Option α} {r : α} (h : i < (bytes s).length) (hb : Q.blank (bytes s)[i] = false) (hB : Ev B r) : Ev (fun k => if bt s (i : Int) = 32 then A k else if bt s (i : Int) = 9 then A k else B k) r := by
  have hn : ¬ (bt s (i : Int) = 32 ∨ bt s (i : Int) = 9) := fun e => by rw [(blank_bt h).2 e] at hb; cases hb
  exact Ev.neg (fun e => hn (.inl e)) (Ev.neg (fun e => hn (.inr e)) hB)

/-! ### the reference's Trim -/
theorem trim06_end (s : ByteArray) (hs : s.size < 4294967296) (a : Nat) (h1 : ∀ (j : Nat) x, j < a → (bytes s)[j]? = some x → blank x = true) (ha : ∀ x, (bytes s)[a]? = some x → blank x = false) :
    ∀ (g e : Nat), e = a + g → e ≤ s.size → (∀ (j : Nat) x, e ≤ j → (bytes s)[j]? = some x → blank x = true) → Ev (fun k => cloisterref06_Trim.l1 k s (a : Int) (e : Int)) ⟨(trimW (bytes s)).toArray⟩ := by
  intro g
  have hsz := size_bytes s
  have fin : ∀ e : Nat, a ≤ e → e ≤ s.size → (∀ (j : Nat) x, e ≤ j → (bytes s)[j]? = some x → blank x = true) → (a < e → ∀ x, (bytes s)[e - 1]? = some x → blank x = false) →
      (some (s.extract ((a : Int).toNat) ((e : Int).toNat)) : Option ByteArray) = some ⟨(trimW (bytes s)).toArray⟩ := by
    intro e h2 h3 h4 h5
    congr 1
    apply bytes_inj
    show bytes (s.extract ((a : Int).toNat) ((e : Int).toNat)) = trimW (bytes s)
    rw [bytes_sub _ _ _ (by omega), trim_at (bytes s) a e h2 (by omega) h1 h4 (fun h => ⟨ha, h5 h⟩)]
    simp
  induction g with
  | zero =>
    intro e he hle h2
    refine Ev.step (fun k => by rw [cloisterref06_Trim.l1]) ?_
    refine Ev.neg (by omega) (Ev.pos (by omega) (Ev.pos (by omega) (Ev.pos (by omega) ?_)))
    exact Ev.const fun _ => fin e (by omega) hle h2 (fun h => absurd h (by omega))
  | succ g ih =>
    intro e he hle h2
    obtain ⟨d, rfl⟩ : ∃ d, e = d + 1 := ⟨e - 1, by omega⟩
    have hd : d < (bytes s).length := by omega
    refine Ev.step (fun k => by rw [cloisterref06_Trim.l1]) ?_
    rw [wr_pred d (by omega)]
    refine Ev.pos (by omega) (Ev.pos (by omega) (Ev.pos (by omega) ?_))
    cases hb : blank (bytes s)[d] with
    | true =>
      refine Ev.blank hd hb (ih d (by omega) (by omega) ?_)
      intro j x hj hx
      by_cases e1 : j = d
      · subst e1; rw [List.getElem?_eq_getElem hd] at hx; cases hx; exact hb
      · exact h2 j x (by omega) hx
    | false =>
      refine Ev.solid hd hb (Ev.pos (by omega) (Ev.pos (by omega) (Ev.pos (by omega) ?_)))
      exact Ev.const fun _ => fin (d + 1) (by omega) hle h2 (fun _ x hx => by
        rw [show d + 1 - 1 = d by omega, List.getElem?_eq_getElem hd] at hx
        cases hx
        exact hb)
theorem trim06_ev (s : ByteArray) (hs : s.size < 4294967296) : Ev (fun k => cloisterref06_Trim.f k s) ⟨(trimW (bytes s)).toArray⟩ := by
  have hsz := size_bytes s
  have loop : ∀ (g i : Nat), i + g = s.size → (∀ (j : Nat) x, j < i → (bytes s)[j]? = some x → blank x = true) → Ev (fun k => cloisterref06_Trim.l0 k s (i : Int) (s.size : Int)) ⟨(trimW (bytes s)).toArray⟩ := by
    intro g
    induction g with
    | zero =>
      intro i hi h1
      obtain rfl : i = s.size := by omega
      refine Ev.step (fun k => by rw [cloisterref06_Trim.l0]) ?_
      refine Ev.neg (by omega) ?_
      refine Ev.step (fun k => by rw [cloisterref06_Trim.j1]) ?_
      exact trim06_end s hs s.size h1 (fun x hx => by rw [List.getElem?_eq_none (by omega)] at hx; cases hx) 0 s.size (by omega) (by omega) (fun j x hj hx => by rw [List.getElem?_eq_none (by omega)] at hx; cases hx)
    | succ g ih =>
      intro i hi h1
      have hlt : i < (bytes s).length := by omega
      refine Ev.step (fun k => by rw [cloisterref06_Trim.l0]) ?_
      refine Ev.pos (by omega) (Ev.pos (by omega) (Ev.pos (by omega) ?_))
      rw [wr_succ i (by omega)]
      cases hb : blank (bytes s)[i] with
      | true =>
        refine Ev.blank hlt hb (ih (i + 1) (by omega) ?_)
        intro j x hj hx
        by_cases e1 : j = i
        · subst e1; rw [List.getElem?_eq_getElem hlt] at hx; cases hx; exact hb
        · exact h1 j x (by omega) hx
      | false =>
        refine Ev.solid hlt hb ?_
        refine Ev.step (fun k => by rw [cloisterref06_Trim.j1]) ?_
        exact trim06_end s hs i h1 (fun x hx => by rw [List.getElem?_eq_getElem hlt] at hx; cases hx; exact hb) (s.size - i) s.size (by omega) (by omega) (fun j x hj hx => by rw [List.getElem?_eq_none (by omega)] at hx; cases hx)
  have := loop s.size 0 (by omega) (fun j x hj => absurd hj (by omega))
  exact this

end Go.Proofs.YtlpmifofgacgiaaDoor.Q
