/- A strings.Builder that the call has made: what it holds ('Bld'), how it stays, how it is written and read. -/
import Derived.Test.YtlpmifofgacgiaaDoorGivenA
namespace Go.Proofs.YtlpmifofgacgiaaDoor.Q
open Go.RowKit Go.Proofs.YtlpmifofgacgiaaDoorW.PrintWords

def Bld (b : Nat) (l : List UInt8) (w : World) : Prop := Lib.IsBuilderF 54 5 b b (Lib.byteCells l) w

theorem Bld.fresh (w : World) : Bld w.heap.size [] (w.alloc (.cells #[.pointer none, .slice none 0 0] 54)) := Lib.IsBuilderF.of (Lib.fresh_isBuilder _ _ w)
theorem Bld.lt {b : Nat} {l : List UInt8} {w : World} (h : Bld b l w) : b < w.heap.size := h.elim (fun x => x.lt) (fun x => x.lt)
theorem bldAt_below {T e : TypeId} {B b : Nat} {p : Value} {bs : List Value} {w w' : World} (h : Lib.BuilderAtF T e B b p bs w) (hb : Below w.heap.size w w') : Lib.BuilderAtF T e B b p bs w' := by
  have hl := h.lt
  obtain ⟨hB, v, hbk, hown, hne⟩ := h
  exact ⟨hB, v, (hb.block b hl).trans hbk, hown.kept (grown_of_below hb none) (by cases v.ownBlock <;> simp), hne⟩
theorem Bld.below {b : Nat} {l : List UInt8} {w w' : World} (h : Bld b l w) (hb : Below w.heap.size w w') : Bld b l w' := h.elim (fun x => .inl (bldAt_below x hb)) (fun x => .inr (bldAt_below x hb))

/-- A variable of the call's own, whole. -/
def Blk (q : Nat) (t : TypeId) (cs : Array Value) (w : World) : Prop := w.heap[q]? = some (.cells cs t (0, 0))
theorem Blk.cell {q : Nat} {t : TypeId} {cs : Array Value} {w : World} (h : Blk q t cs w) (j : Nat) {v : Value} (hv : cs[j]? = some v) : w.cell? ⟨q, j, none⟩ = some v := by
  have := Lib.cell_of_heap h j
  rw [this, hv]
theorem Blk.free {q : Nat} {t : TypeId} {cs : Array Value} {w : World} (h : Blk q t cs w) (j : Nat) : w.frozen? ⟨q, j, none⟩ = false := Lib.frozen_of_heap h j
theorem Blk.lt {q : Nat} {t : TypeId} {cs : Array Value} {w : World} (h : Blk q t cs w) : q < w.heap.size := (Array.getElem?_eq_some_iff.1 h).1
theorem Blk.below {q : Nat} {t : TypeId} {cs : Array Value} {w w' : World} (h : Blk q t cs w) (hb : Below w.heap.size w w') : Blk q t cs w' := (hb.block q h.lt).trans h
theorem Blk.kept {q b : Nat} {t : TypeId} {cs : Array Value} {w w' : World} (h : Blk q t cs w) (ho : Lib.OthersKept 5 (some b) w w') (hne : q ≠ b) (ht : t ≠ 5) : Blk q t cs w' :=
  ho q _ h (fun e => hne (Option.some.inj e)) (fun _ _ e => ht (by injection e))

def bigLen : Nat := 1099511627776
theorem bld_write (b : Nat) (l : List UInt8) (s : ByteArray) (w : World) (h : Bld b l w) (hl : l.length + s.size ≤ bigLen) :
    Calls Tryd.prog 29 #[.pointer (some ⟨b, 0, none⟩), .string s] w fun e w' => e = .returned (.tuple #[.int .i64 s.size, .nilIface]) ∧ Bld b (l ++ s.data.toList) w' ∧ Below b w w' ∧ Lib.OthersKept 5 (some b) w w' := by
  refine (Tryd.Builder_WriteString_k b b _ s w h (by rw [Lib.byteCells_length]; unfold bigLen at hl; omega) (Nat.le_of_lt h.lt)).mono ?_
  rintro e w' ⟨rfl, h1, h2, h3⟩
  refine ⟨rfl, ?_, h2, h3⟩
  rw [Lib.strCells_eq, ← Lib.byteCells_append] at h1
  exact .inr h1
theorem bld_string (b : Nat) (l : List UInt8) (w : World) (h : Bld b l w) :
    Calls Tryd.prog 32 #[.pointer (some ⟨b, 0, none⟩)] w fun e w' => e = .returned (.string ⟨l.toArray⟩) ∧ Below b w w' := by
  refine (Tryd.Builder_String_any_k b b l w h (Nat.le_of_lt h.lt)).mono ?_
  rintro e w' ⟨rfl, _, h2, _⟩
  exact ⟨rfl, h2⟩
/-- 'Below' for the caller: the builder is new. -/
theorem below_bld {B b : Nat} {w0 w w' : World} (h : Below B w0 w) (hb : Below b w w') (hB : B ≤ b) : Below B w0 w' :=
  h.trans ⟨hb.os, hb.tape, hb.output, hb.size, fun i hi => hb.block i (by omega)⟩
end Go.Proofs.YtlpmifofgacgiaaDoor.Q
