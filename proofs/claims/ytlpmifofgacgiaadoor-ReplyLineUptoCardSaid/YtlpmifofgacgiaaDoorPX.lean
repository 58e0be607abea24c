/- The plain law of reply.Parse at a printed text: it reads the reply back (no program). -/
import Derived.Test.YtlpmifofgacgiaaDoorPW
import Derived.Test.YtlpmifofgacgiaaDoorQ6
namespace Go.Proofs.YtlpmifofgacgiaaDoor.Q
open Go.RowKit Go.Proofs.YtlpmifofgacgiaaDoorW.PrintWords

theorem index_multi (c : UInt8) (sep b : Bs) : ∀ a : Bs, c ∉ a → Lib.index (a ++ ((c :: sep) ++ b)) (c :: sep) = (a.length : Int) := by
  intro a
  induction a with
  | nil =>
    intro _
    have h : List.isPrefixOf (c :: sep) ((c :: sep) ++ b) = true := List.isPrefixOf_iff_prefix.2 (List.prefix_append _ _)
    show Lib.index (c :: (sep ++ b)) (c :: sep) = _
    rw [Lib.index, if_pos (show List.isPrefixOf (c :: sep) (c :: (sep ++ b)) = true from h)]
    rfl
  | cons x a ih =>
    intro h
    simp only [List.mem_cons, not_or] at h
    have hx : (c == x) = false := beq_eq_false_iff_ne.2 h.1
    rw [List.cons_append, Lib.index, if_neg (by simp [List.isPrefixOf, hx]), ih h.2]
    have : (((a.length : Int) == -1) = true) = False := eq_false (by rw [beq_iff_eq]; omega)
    rw [if_neg (by rw [this]; exact id)]
    simp
theorem cut_multi (c : UInt8) (sep a b : Bs) (h : c ∉ a) : Lib.cut (a ++ ((c :: sep) ++ b)) (c :: sep) = (a, b, true) := by
  unfold Lib.cut
  rw [index_multi c sep b a h, if_pos (by omega), Int.toNat_natCast, List.take_left' rfl]
  have e : (a ++ ((c :: sep) ++ b)).drop (a.length + (c :: sep).length) = b := by
    rw [← List.append_assoc]
    exact List.drop_left' (by rw [List.length_append])
  rw [e]
theorem cutF {S : ByteArray} {c : UInt8} {sep a b : Bs} (hS : bytes S = a ++ ((c :: sep) ++ b)) (h : c ∉ a) (hs : S.size < 4294967281) : strings_Cut.f S ⟨(c :: sep).toArray⟩ = some (⟨a.toArray⟩, ⟨b.toArray⟩, true) := by
  unfold strings_Cut.f
  rw [if_pos hs]
  have e : Lib.cut S.data.toList (c :: sep) = (a, b, true) := by rw [← cut_multi c sep a b h, ← hS]; rfl
  show some ((⟨(Lib.cut S.data.toList (c :: sep)).1.toArray⟩ : ByteArray), (⟨(Lib.cut S.data.toList (c :: sep)).2.1.toArray⟩ : ByteArray), (Lib.cut S.data.toList (c :: sep)).2.2) = _
  rw [e]

/-! ### bytes of a printed reply -/
theorem tok_not (c : UInt8) (h : tokB c = true) : c.toNat ≠ 13 ∧ c.toNat ≠ 58 := by
  have hall : ∀ n : Fin 256, tokB (UInt8.ofNat n.val) = true → n.val ≠ 13 ∧ n.val ≠ 58 := by decide +kernel
  have := hall ⟨c.toNat, UInt8.toNat_lt c⟩
  rw [show UInt8.ofNat c.toNat = c from UInt8.ofNat_toNat] at this
  exact this h
theorem name_not {s : Bs} (h : nameOk s = true) : (13 : UInt8) ∉ s ∧ (58 : UInt8) ∉ s ∧ s ≠ clB := by
  unfold nameOk at h
  rw [Bool.and_eq_true] at h
  obtain ⟨h1, h2⟩ := h
  refine ⟨fun hm => (tok_not _ (List.all_eq_true.1 h1 _ hm)).1 rfl, fun hm => (tok_not _ (List.all_eq_true.1 h1 _ hm)).2 rfl, fun e => ?_⟩
  rw [e] at h2
  revert h2
  decide
theorem value_not {s : Bs} (h : valueOk s = true) : (13 : UInt8) ∉ s := by
  unfold valueOk at h
  rw [Bool.and_eq_true] at h
  intro hm
  have := List.all_eq_true.1 h.1 _ hm
  revert this
  decide
theorem itoa_not {n : Int} (h : i64ok n) (c : UInt8) (hc : c.toNat ≠ 45 ∧ (c.toNat < 48 ∨ 57 < c.toNat)) : c ∉ itoaL n := by
  intro hm
  have := (itoa_bytes h).2 c hm
  omega
theorem head_not {st : Int} (h : i64ok st) : (13 : UInt8) ∉ headS st := by
  unfold headS
  simp only [List.mem_append, not_or]
  refine ⟨⟨⟨by decide, itoa_not h 13 (by decide)⟩, by decide⟩, fun hm => ?_⟩
  have := findR_words st 13 hm
  revert this
  decide

/-! ### the first line -/
theorem splitK_step (c : UInt8) (r : Bs) (k : Nat) (a : Bs) (h : c ∉ a) : Lib.splitK [c] 0 (k + 1) (a ++ c :: r) = a :: Lib.splitK [c] 0 k r := by
  have hi : Lib.index (a ++ c :: r) [c] = (a.length : Int) := index_multi c [] r a h
  rw [Lib.splitK, hi]
  have : (((a.length : Int) == -1) = true) = False := eq_false (by rw [beq_iff_eq]; omega)
  rw [if_neg (by rw [this]; exact id), Int.toNat_natCast, Nat.add_zero, List.take_left' rfl]
  have e : (a ++ c :: r).drop (a.length + [c].length) = r := by simp
  rw [e]
theorem splitF {S : ByteArray} {a b r : Bs} (hS : bytes S = a ++ 32 :: (b ++ 32 :: r)) (ha : (32 : UInt8) ∉ a) (hb : (32 : UInt8) ∉ b) (hs : S.size < 4294967281) :
    ∃ ls : List ByteArray, strings_SplitN.f S (⟨#[32]⟩ : ByteArray) 3 = some ls ∧ ls.map bytes = [a, b, r] := by
  unfold strings_SplitN.f
  have hlen : S.size = a.length + (b.length + (r.length + 1) + 1) := by rw [size_bytes, hS]; simp only [List.length_append, List.length_cons]
  rw [if_pos ⟨hs, by decide, by decide, by decide⟩]
  refine ⟨_, rfl, ?_⟩
  have e : min (3 : Int).toNat (S.size + 1) - 1 = 2 := by
    have : (3 : Int).toNat = 3 := rfl
    rw [this]
    omega
  rw [e]
  have h1 := Lib.splitB_data (⟨#[32]⟩ : ByteArray) 0 2 S
  refine h1.trans ?_
  show Lib.splitK [32] 0 2 (bytes S) = _
  rw [hS, splitK_step 32 _ 1 a ha, splitK_step 32 _ 0 b hb]
  rfl

/-! ### the fields -/
theorem fields_back (st : Int) (body : ByteArray) (cl : Bool) (tail : Bs) (hb : body.size ≤ 1048576) : ∀ (l : List Pr) (done : List Pr) (S : ByteArray), (∀ x ∈ l, fieldOk x = true) → done.length + l.length ≤ 1000 → bytes S = hdrS l ++ (footS body cl ++ tail) → S.size < 4294967281 →
    Ev (fun k => reply_read.l0 k S st done (⟨#[]⟩ : ByteArray) false) (st, done ++ l, body, cl, true) := by
  intro l
  induction l with
  | nil =>
    intro done S _ hd hS hs
    have hbi : i64ok (body.size : Int) := ⟨by omega, by omega⟩
    have hS1 : bytes S = (clB ++ [58, 32] ++ itoaL (body.size : Int)) ++ ((13 :: [10]) ++ (coB ++ [58, 32] ++ endS cl ++ [13, 10, 13, 10] ++ bytes body ++ tail)) := by
      rw [hS]; unfold footS hdrS; simp
    have n1 : (13 : UInt8) ∉ clB ++ [58, 32] ++ itoaL (body.size : Int) := by
      simp only [List.mem_append, not_or]
      exact ⟨⟨by decide, by decide⟩, itoa_not hbi 13 (by decide)⟩
    have hss := size_bytes S
    have c1 := cutF hS1 n1 hs
    have c2 := cutF (S := ⟨(clB ++ [58, 32] ++ itoaL (body.size : Int)).toArray⟩) (c := 58) (sep := [32]) (a := clB) (b := itoaL (body.size : Int)) (by rw [bytes_mk (clB ++ [58, 32] ++ itoaL (body.size : Int))]; simp) (by decide) (by rw [size_mk]; rw [hS1] at hss; simp only [List.length_append] at hss ⊢; omega)
    have c3 := cutF (S := ⟨(coB ++ [58, 32] ++ endS cl ++ [13, 10, 13, 10] ++ bytes body ++ tail).toArray⟩) (c := 13) (sep := [10, 13, 10]) (a := coB ++ [58, 32] ++ endS cl) (b := bytes body ++ tail) (by rw [bytes_mk (coB ++ [58, 32] ++ endS cl ++ [13, 10, 13, 10] ++ bytes body ++ tail)]; simp) (by cases cl <;> decide) (by rw [size_mk]; rw [hS1] at hss; simp only [List.length_append] at hss ⊢; omega)
    have hat := atoi_ok (s := ⟨(itoaL (body.size : Int)).toArray⟩) (v := (body.size : Int)) (by rw [size_mk]; have := itoaL_length hbi; omega) (by rw [bytes_mk (itoaL (body.size : Int)), itoaL_eq hbi.1 hbi.2]; exact atoi_itoa hbi.1 hbi.2)
    have hbl := size_bytes body
    have hsz : (⟨(bytes body ++ tail).toArray⟩ : ByteArray).size = body.size + tail.length := by rw [size_mk, List.length_append, hbl]
    refine Ev.step (fun k => by rw [reply_read.l0]) ?_
    refine Ev.bindC c1 (Ev.pos rfl (Ev.bindC c2 (Ev.pos rfl ?_)))
    refine Ev.pos (toList_bytes _) ?_
    refine Ev.bindC hat (Ev.bindC c3 (Ev.pos rfl (Ev.pos rfl ?_)))
    refine Ev.neg (by show ¬ ((body.size : Int) < 0); omega) (Ev.neg (by show ¬ ((body.size : Int) > ((⟨(bytes body ++ tail).toArray⟩ : ByteArray).size : Int)); rw [hsz]; omega) ?_)
    refine Ev.pos (by show (0 : Int) ≤ (body.size : Int); omega) (Ev.pos (by show (body.size : Int) ≤ ((⟨(bytes body ++ tail).toArray⟩ : ByteArray).size : Int); rw [hsz]; omega) (Ev.const fun _ => ?_))
    have eb : (⟨(bytes body ++ tail).toArray⟩ : ByteArray).extract 0 ((body.size : Int)).toNat = body := by
      apply bytes_inj
      rw [bytes_upto, Int.toNat_natCast, bytes_mk (bytes body ++ tail), hbl]
      exact List.take_left' rfl
    have ec : ((⟨(coB ++ [58, 32] ++ endS cl).toArray⟩ : ByteArray).toList == ([99, 111, 110, 110, 101, 99, 116, 105, 111, 110, 58, 32, 99, 108, 111, 115, 101] : List UInt8)) = cl := by
      rw [toList_bytes, bytes_mk (coB ++ [58, 32] ++ endS cl)]
      cases cl <;> decide
    show some (st, done, (⟨(bytes body ++ tail).toArray⟩ : ByteArray).extract 0 ((body.size : Int)).toNat, ((⟨(coB ++ [58, 32] ++ endS cl).toArray⟩ : ByteArray).toList == _), true) = _
    rw [eb, ec, List.append_nil]
  | cons x l ih =>
    intro done S hl hd hS hs
    have hx := hl x (by simp)
    unfold fieldOk at hx
    rw [Bool.and_eq_true] at hx
    obtain ⟨hn, hv⟩ := hx
    obtain ⟨n1, n2, n3⟩ := name_not hn
    have n4 := value_not hv
    have hS1 : bytes S = (bytes x.f0 ++ [58, 32] ++ bytes x.f1) ++ ((13 :: [10]) ++ (hdrS l ++ (footS body cl ++ tail))) := by
      rw [hS, hdrS]; simp
    have hss := size_bytes S
    rw [hS1] at hss
    have c1 := cutF hS1 (by
      simp only [List.mem_append, not_or]
      exact ⟨⟨n1, by decide⟩, n4⟩) hs
    have c2 := cutF (S := ⟨(bytes x.f0 ++ [58, 32] ++ bytes x.f1).toArray⟩) (c := 58) (sep := [32]) (a := bytes x.f0) (b := bytes x.f1) (by rw [bytes_mk (bytes x.f0 ++ [58, 32] ++ bytes x.f1)]; simp) n2 (by rw [size_mk]; simp only [List.length_append] at hss ⊢; omega)
    refine Ev.step (fun k => by rw [reply_read.l0]) ?_
    refine Ev.bindC c1 (Ev.pos rfl (Ev.bindC c2 (Ev.pos rfl ?_)))
    refine Ev.neg (fun e => n3 (by rw [toList_bytes, bytes_mk (bytes x.f0)] at e; exact e)) (Ev.pos (by simp only [List.length_cons] at hd; omega) ?_)
    have := ih (done ++ [x]) ⟨(hdrS l ++ (footS body cl ++ tail)).toArray⟩ (fun y hy => hl y (by simp [hy])) (by simp only [List.length_append, List.length_cons, List.length_nil] at hd ⊢; omega) (bytes_mk _) (by rw [size_mk]; simp only [List.length_append] at hss ⊢; omega)
    rw [List.append_assoc] at this
    have ex : (⟨⟨(bytes x.f0).toArray⟩, ⟨(bytes x.f1).toArray⟩⟩ : Pr) = x := by rw [mk_bytes, mk_bytes]
    refine Ev.congr (fun k => ?_) this
    show reply_read.l0 k _ st (done ++ [(⟨⟨(bytes x.f0).toArray⟩, ⟨(bytes x.f1).toArray⟩⟩ : Pr)]) _ _ = _
    rw [ex]
theorem read_back (st : Int) (l : List Pr) (body : ByteArray) (cl : Bool) (tail : Bs) (S : ByteArray) (hm : mayR st l body = true) (hS : bytes S = printR st l body cl ++ tail) (hs : S.size < 4294967281) :
    Ev (fun k => reply_read.f k S) (st, l, body, cl, true) := by
  unfold mayR at hm
  simp only [Bool.and_eq_true, decide_eq_true_eq] at hm
  obtain ⟨⟨⟨h1, h2⟩, h3⟩, h4⟩ := hm
  have hst : i64ok st := ⟨by omega, by omega⟩
  have hS1 : bytes S = headS st ++ ((13 :: [10]) ++ (hdrS l ++ (footS body cl ++ tail))) := by
    rw [hS]; unfold printR; simp
  have hss := size_bytes S
  rw [hS1] at hss
  have c1 := cutF hS1 (head_not hst) hs
  have hw : bytes (⟨(headS st).toArray⟩ : ByteArray) = [72, 84, 84, 80, 47, 49, 46, 49] ++ 32 :: (itoaL st ++ 32 :: bytes (wordsOf (findR st reasonsS))) := by
    rw [bytes_mk (headS st)]
    unfold headS
    simp
  obtain ⟨ls, c2, hls⟩ := splitF hw (by decide) (itoa_not hst 32 (by decide)) (by rw [size_mk]; simp only [List.length_append] at hss; omega)
  have hl3 : ls.length = 3 := by
    have := congrArg List.length hls
    rw [List.length_map] at this
    exact this
  have hel : bytes (rdOf ByteArray.empty ls 1) = itoaL st := by
    match ls, hl3, hls with
    | [x, y, z], _, hls =>
      simp only [List.map_cons, List.map_nil, List.cons.injEq, and_true] at hls
      exact hls.2.1
  have hat := atoi_ok (s := rdOf ByteArray.empty ls 1) (v := st) (by rw [size_bytes, hel]; have := itoaL_length hst; omega) (by rw [hel, itoaL_eq hst.1 hst.2]; exact atoi_itoa hst.1 hst.2)
  unfold reply_read.f
  refine Ev.bindC c1 (Ev.bindC c2 (Ev.pos rfl ?_))
  have e3 : ((ls.length : Int) != 3) = false := by rw [hl3]; rfl
  rw [e3]
  refine Ev.step (fun k => by rw [reply_read.j0, if_neg (by decide)]) ?_
  refine Ev.pos (by rw [hl3]; decide) (Ev.bindC hat ?_)
  have := fields_back st body cl tail h3 l [] ⟨(hdrS l ++ (footS body cl ++ tail)).toArray⟩ (fun x hx => List.all_eq_true.1 h4 x hx) (by simp only [List.length_nil]; omega) (bytes_mk _) (by rw [size_mk]; simp only [List.length_append] at hss ⊢; omega)
  rw [List.nil_append] at this
  exact this
theorem hdr_le (st : Int) (l : List Pr) (body : ByteArray) (cl : Bool) : hdrLen l ≤ (printR st l body cl).length := by
  have h := hdrS_len l
  unfold printR
  simp only [List.length_append]
  omega
theorem parse_back (st : Int) (l : List Pr) (body : ByteArray) (cl : Bool) (tail : Bs) (S : ByteArray) (hm : mayR st l body = true) (hS : bytes S = printR st l body cl ++ tail) (hs : S.size < 4294967281) :
    Ev (fun k => reply_Parse.f k S) (st, l, body, cl, ((printR st l body cl).length : Int), 0) := by
  have hss := size_bytes S
  rw [hS, List.length_append] at hss
  have hle := hdr_le st l body cl
  have hmm := hm
  unfold mayR at hmm
  simp only [Bool.and_eq_true, decide_eq_true_eq] at hmm
  obtain ⟨⟨⟨h1, h2⟩, h3⟩, h4⟩ := hmm
  have hp := print_ev9 st l body cl (by omega) (by omega)
  rw [if_pos hm] at hp
  unfold reply_Parse.f
  refine Ev.bind (read_back st l body cl tail S hm hS hs) (Ev.bind hp (Ev.pos rfl (Ev.pos rfl ?_)))
  have hsz : (⟨(printR st l body cl).toArray⟩ : ByteArray).size = (printR st l body cl).length := size_mk _
  have hpre : strings_HasPrefix.f S ⟨(printR st l body cl).toArray⟩ = some true := by
    unfold strings_HasPrefix.f stringslite_HasPrefix.f
    rw [hsz, if_pos (by omega), if_pos (by omega), if_pos (by omega), Option.bind_some, toList_bytes, toList_bytes, bytes_upto, Int.toNat_natCast, bytes_mk (printR st l body cl), hS, List.take_left' rfl, beq_self_eq_true]
  refine Ev.bindC hpre (Ev.pos rfl ?_)
  show Ev (fun _ => some (st, l, body, cl, ((⟨(printR st l body cl).toArray⟩ : ByteArray).size : Int), (0 : Int))) _
  rw [hsz]
  exact Ev.now _
end Go.Proofs.YtlpmifofgacgiaaDoor.Q
