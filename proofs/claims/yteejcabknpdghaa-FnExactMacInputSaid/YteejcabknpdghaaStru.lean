/-
  Arguments that are structs, opened to their cells.
-/
import Derived.Test.YteejcabknpdghaaBase
namespace Go.Proofs.Yteejcabknpdghaa
open Go.ChangeShapes Go.WideShapes Go.ChangeAt Go.RowKit
section
variable {H : Type} {enc : TypeId × Value → H} {w : World} {base : Nat} {spare : Nat → Bool} {held : Bool}
theorem read_Tuple {fuel : Nat} {cs : List Value} {x : DataW H × List MemPlace} (h : DataW.trod enc Try.prog w base spare held fuel 25 cs = some x) :
    ∃ (a0 : Int) (a1 : Int) (a2 : Int), cs = [.int .i64 a0, .int .i64 a1, .int .i64 a2] ∧ (Lit.int .i64 a0).wf = true ∧ (Lit.int .i64 a1).wf = true ∧ (Lit.int .i64 a2).wf = true := by
  obtain ⟨hl, n, hf⟩ := fields_of Try.underlying25 h
  have hl' : cs.length = 3 := hl.trans (by kernel_rfl)
  match cs, hl' with
  | [c0, c1, c2], _ =>
    have h0 : ∃ y, DataW.trod enc Try.prog w base spare held n 3 (List.take (Try.prog.cellsOf 3) (List.drop 0 [c0, c1, c2])) = some y := hf 0 _ rfl
    have h1 : ∃ y, DataW.trod enc Try.prog w base spare held n 3 (List.take (Try.prog.cellsOf 3) (List.drop 1 [c0, c1, c2])) = some y := hf 1 _ rfl
    have h2 : ∃ y, DataW.trod enc Try.prog w base spare held n 3 (List.take (Try.prog.cellsOf 3) (List.drop 2 [c0, c1, c2])) = some y := hf 2 _ rfl
    obtain ⟨y0, h0⟩ := h0
    rw [show Try.prog.cellsOf 3 = 1 from by kernel_rfl] at h0
    obtain ⟨a0, e0, _, wa0⟩ := DataW.trod_int Try.underlying3 h0
    simp at e0
    obtain rfl := e0
    obtain ⟨y1, h1⟩ := h1
    rw [show Try.prog.cellsOf 3 = 1 from by kernel_rfl] at h1
    obtain ⟨a1, e1, _, wa1⟩ := DataW.trod_int Try.underlying3 h1
    simp at e1
    obtain rfl := e1
    obtain ⟨y2, h2⟩ := h2
    rw [show Try.prog.cellsOf 3 = 1 from by kernel_rfl] at h2
    obtain ⟨a2, e2, _, wa2⟩ := DataW.trod_int Try.underlying3 h2
    simp at e2
    obtain rfl := e2
    exact ⟨_, _, _, rfl, wa0, wa1, wa2⟩
theorem open_Tuple {w' : World} {r : Reach} {b0 : Nat} {v : Value} {d : DataW H} {p : List MemPlace} (hv : Value.okWide Try.prog w' r b0 25 v) (h : DataW.Trod enc Try.prog w base spare held 25 v d p) :
    ∃ (a0 : Int) (a1 : Int) (a2 : Int), v = .agg #[.int .i64 a0, .int .i64 a1, .int .i64 a2] ∧ (Lit.int .i64 a0).wf = true ∧ (Lit.int .i64 a1).wf = true ∧ (Lit.int .i64 a2).wf = true := by
  obtain ⟨cs, fuel, x, rfl, hx⟩ := value_of Try.underlying25 hv h
  obtain ⟨_, _, _, rfl, hh⟩ := read_Tuple hx
  exact ⟨_, _, _, rfl, hh⟩
end
section
variable {H : Type} {enc : TypeId × Value → H} {w : World} {base : Nat} {spare : Nat → Bool} {held : Bool}
theorem read_Options {fuel : Nat} {cs : List Value} {x : DataW H × List MemPlace} (h : DataW.trod enc Try.prog w base spare held fuel 37 cs = some x) :
    ∃ (a0 : Int) (a1 : Int) (a2 : Bool) (a3 : Bool) (a4 : Int) (a5 : Int), cs = [.int .i64 a0, .int .i64 a1, .bool a2, .bool a3, .int .i64 a4, .int .i64 a5] ∧ (Lit.int .i64 a0).wf = true ∧ (Lit.int .i64 a1).wf = true ∧ (Lit.int .i64 a4).wf = true ∧ (Lit.int .i64 a5).wf = true := by
  obtain ⟨hl, n, hf⟩ := fields_of Try.underlying37 h
  have hl' : cs.length = 6 := hl.trans (by kernel_rfl)
  match cs, hl' with
  | [c0, c1, c2, c3, c4, c5], _ =>
    have h0 : ∃ y, DataW.trod enc Try.prog w base spare held n 3 (List.take (Try.prog.cellsOf 3) (List.drop 0 [c0, c1, c2, c3, c4, c5])) = some y := hf 0 _ rfl
    have h1 : ∃ y, DataW.trod enc Try.prog w base spare held n 3 (List.take (Try.prog.cellsOf 3) (List.drop 1 [c0, c1, c2, c3, c4, c5])) = some y := hf 1 _ rfl
    have h2 : ∃ y, DataW.trod enc Try.prog w base spare held n 4 (List.take (Try.prog.cellsOf 4) (List.drop 2 [c0, c1, c2, c3, c4, c5])) = some y := hf 2 _ rfl
    have h3 : ∃ y, DataW.trod enc Try.prog w base spare held n 4 (List.take (Try.prog.cellsOf 4) (List.drop 3 [c0, c1, c2, c3, c4, c5])) = some y := hf 3 _ rfl
    have h4 : ∃ y, DataW.trod enc Try.prog w base spare held n 3 (List.take (Try.prog.cellsOf 3) (List.drop 4 [c0, c1, c2, c3, c4, c5])) = some y := hf 4 _ rfl
    have h5 : ∃ y, DataW.trod enc Try.prog w base spare held n 3 (List.take (Try.prog.cellsOf 3) (List.drop 5 [c0, c1, c2, c3, c4, c5])) = some y := hf 5 _ rfl
    obtain ⟨y0, h0⟩ := h0
    rw [show Try.prog.cellsOf 3 = 1 from by kernel_rfl] at h0
    obtain ⟨a0, e0, _, wa0⟩ := DataW.trod_int Try.underlying3 h0
    simp at e0
    obtain rfl := e0
    obtain ⟨y1, h1⟩ := h1
    rw [show Try.prog.cellsOf 3 = 1 from by kernel_rfl] at h1
    obtain ⟨a1, e1, _, wa1⟩ := DataW.trod_int Try.underlying3 h1
    simp at e1
    obtain rfl := e1
    obtain ⟨y2, h2⟩ := h2
    rw [show Try.prog.cellsOf 4 = 1 from by kernel_rfl] at h2
    obtain ⟨a2, e2, _⟩ := DataW.trod_bool Try.underlying4 h2
    simp at e2
    obtain rfl := e2
    obtain ⟨y3, h3⟩ := h3
    rw [show Try.prog.cellsOf 4 = 1 from by kernel_rfl] at h3
    obtain ⟨a3, e3, _⟩ := DataW.trod_bool Try.underlying4 h3
    simp at e3
    obtain rfl := e3
    obtain ⟨y4, h4⟩ := h4
    rw [show Try.prog.cellsOf 3 = 1 from by kernel_rfl] at h4
    obtain ⟨a4, e4, _, wa4⟩ := DataW.trod_int Try.underlying3 h4
    simp at e4
    obtain rfl := e4
    obtain ⟨y5, h5⟩ := h5
    rw [show Try.prog.cellsOf 3 = 1 from by kernel_rfl] at h5
    obtain ⟨a5, e5, _, wa5⟩ := DataW.trod_int Try.underlying3 h5
    simp at e5
    obtain rfl := e5
    exact ⟨_, _, _, _, _, _, rfl, wa0, wa1, wa4, wa5⟩
theorem open_Options {w' : World} {r : Reach} {b0 : Nat} {v : Value} {d : DataW H} {p : List MemPlace} (hv : Value.okWide Try.prog w' r b0 37 v) (h : DataW.Trod enc Try.prog w base spare held 37 v d p) :
    ∃ (a0 : Int) (a1 : Int) (a2 : Bool) (a3 : Bool) (a4 : Int) (a5 : Int), v = .agg #[.int .i64 a0, .int .i64 a1, .bool a2, .bool a3, .int .i64 a4, .int .i64 a5] ∧ (Lit.int .i64 a0).wf = true ∧ (Lit.int .i64 a1).wf = true ∧ (Lit.int .i64 a4).wf = true ∧ (Lit.int .i64 a5).wf = true := by
  obtain ⟨cs, fuel, x, rfl, hx⟩ := value_of Try.underlying37 hv h
  obtain ⟨_, _, _, _, _, _, rfl, hh⟩ := read_Options hx
  exact ⟨_, _, _, _, _, _, rfl, hh⟩
end
section
variable {H : Type} {enc : TypeId × Value → H} {w : World} {base : Nat} {spare : Nat → Bool} {held : Bool}
theorem read_Segment {fuel : Nat} {cs : List Value} {x : DataW H × List MemPlace} (h : DataW.trod enc Try.prog w base spare held fuel 39 cs = some x) :
    ∃ (a0 : Int) (a1 : Int) (a2 : Int) (a3 : Int) (a4 : Int) (a5 : Int) (oa0 : Int) (oa1 : Int) (oa2 : Bool) (oa3 : Bool) (oa4 : Int) (oa5 : Int) (a7 : ByteArray), cs = [.int .i64 a0, .int .i64 a1, .int .i64 a2, .int .i64 a3, .int .i64 a4, .int .i64 a5, .int .i64 oa0, .int .i64 oa1, .bool oa2, .bool oa3, .int .i64 oa4, .int .i64 oa5, .string a7] ∧ (Lit.int .i64 a0).wf = true ∧ (Lit.int .i64 a1).wf = true ∧ (Lit.int .i64 a2).wf = true ∧ (Lit.int .i64 a3).wf = true ∧ (Lit.int .i64 a4).wf = true ∧ (Lit.int .i64 a5).wf = true ∧ (Lit.int .i64 oa0).wf = true ∧ (Lit.int .i64 oa1).wf = true ∧ (Lit.int .i64 oa4).wf = true ∧ (Lit.int .i64 oa5).wf = true ∧ a7.size ≤ maxLen := by
  obtain ⟨hl, n, hf⟩ := fields_of Try.underlying39 h
  have hl' : cs.length = 13 := hl.trans (by kernel_rfl)
  match cs, hl' with
  | [c0, c1, c2, c3, c4, c5, c6, c7, c8, c9, c10, c11, c12], _ =>
    have h0 : ∃ y, DataW.trod enc Try.prog w base spare held n 3 (List.take (Try.prog.cellsOf 3) (List.drop 0 [c0, c1, c2, c3, c4, c5, c6, c7, c8, c9, c10, c11, c12])) = some y := hf 0 _ rfl
    have h1 : ∃ y, DataW.trod enc Try.prog w base spare held n 3 (List.take (Try.prog.cellsOf 3) (List.drop 1 [c0, c1, c2, c3, c4, c5, c6, c7, c8, c9, c10, c11, c12])) = some y := hf 1 _ rfl
    have h2 : ∃ y, DataW.trod enc Try.prog w base spare held n 3 (List.take (Try.prog.cellsOf 3) (List.drop 2 [c0, c1, c2, c3, c4, c5, c6, c7, c8, c9, c10, c11, c12])) = some y := hf 2 _ rfl
    have h3 : ∃ y, DataW.trod enc Try.prog w base spare held n 3 (List.take (Try.prog.cellsOf 3) (List.drop 3 [c0, c1, c2, c3, c4, c5, c6, c7, c8, c9, c10, c11, c12])) = some y := hf 3 _ rfl
    have h4 : ∃ y, DataW.trod enc Try.prog w base spare held n 3 (List.take (Try.prog.cellsOf 3) (List.drop 4 [c0, c1, c2, c3, c4, c5, c6, c7, c8, c9, c10, c11, c12])) = some y := hf 4 _ rfl
    have h5 : ∃ y, DataW.trod enc Try.prog w base spare held n 3 (List.take (Try.prog.cellsOf 3) (List.drop 5 [c0, c1, c2, c3, c4, c5, c6, c7, c8, c9, c10, c11, c12])) = some y := hf 5 _ rfl
    have h6 : ∃ y, DataW.trod enc Try.prog w base spare held n 37 (List.take (Try.prog.cellsOf 37) (List.drop 6 [c0, c1, c2, c3, c4, c5, c6, c7, c8, c9, c10, c11, c12])) = some y := hf 6 _ rfl
    have h7 : ∃ y, DataW.trod enc Try.prog w base spare held n 9 (List.take (Try.prog.cellsOf 9) (List.drop 12 [c0, c1, c2, c3, c4, c5, c6, c7, c8, c9, c10, c11, c12])) = some y := hf 7 _ rfl
    obtain ⟨y0, h0⟩ := h0
    rw [show Try.prog.cellsOf 3 = 1 from by kernel_rfl] at h0
    obtain ⟨a0, e0, _, wa0⟩ := DataW.trod_int Try.underlying3 h0
    simp at e0
    obtain rfl := e0
    obtain ⟨y1, h1⟩ := h1
    rw [show Try.prog.cellsOf 3 = 1 from by kernel_rfl] at h1
    obtain ⟨a1, e1, _, wa1⟩ := DataW.trod_int Try.underlying3 h1
    simp at e1
    obtain rfl := e1
    obtain ⟨y2, h2⟩ := h2
    rw [show Try.prog.cellsOf 3 = 1 from by kernel_rfl] at h2
    obtain ⟨a2, e2, _, wa2⟩ := DataW.trod_int Try.underlying3 h2
    simp at e2
    obtain rfl := e2
    obtain ⟨y3, h3⟩ := h3
    rw [show Try.prog.cellsOf 3 = 1 from by kernel_rfl] at h3
    obtain ⟨a3, e3, _, wa3⟩ := DataW.trod_int Try.underlying3 h3
    simp at e3
    obtain rfl := e3
    obtain ⟨y4, h4⟩ := h4
    rw [show Try.prog.cellsOf 3 = 1 from by kernel_rfl] at h4
    obtain ⟨a4, e4, _, wa4⟩ := DataW.trod_int Try.underlying3 h4
    simp at e4
    obtain rfl := e4
    obtain ⟨y5, h5⟩ := h5
    rw [show Try.prog.cellsOf 3 = 1 from by kernel_rfl] at h5
    obtain ⟨a5, e5, _, wa5⟩ := DataW.trod_int Try.underlying3 h5
    simp at e5
    obtain rfl := e5
    obtain ⟨y6, h6⟩ := h6
    rw [show Try.prog.cellsOf 37 = 6 from by kernel_rfl] at h6
    obtain ⟨oa0, oa1, oa2, oa3, oa4, oa5, e6, wo0, wo1, wo2, wo3⟩ := read_Options h6
    simp at e6
    obtain ⟨rfl, rfl, rfl, rfl, rfl, rfl⟩ := e6
    obtain ⟨y7, h7⟩ := h7
    rw [show Try.prog.cellsOf 9 = 1 from by kernel_rfl] at h7
    obtain ⟨a7, e7, _, wa7⟩ := DataW.trod_string Try.underlying9 h7
    simp at e7
    obtain rfl := e7
    exact ⟨_, _, _, _, _, _, _, _, _, _, _, _, _, rfl, wa0, wa1, wa2, wa3, wa4, wa5, wo0, wo1, wo2, wo3, wa7⟩
theorem open_Segment {w' : World} {r : Reach} {b0 : Nat} {v : Value} {d : DataW H} {p : List MemPlace} (hv : Value.okWide Try.prog w' r b0 39 v) (h : DataW.Trod enc Try.prog w base spare held 39 v d p) :
    ∃ (a0 : Int) (a1 : Int) (a2 : Int) (a3 : Int) (a4 : Int) (a5 : Int) (oa0 : Int) (oa1 : Int) (oa2 : Bool) (oa3 : Bool) (oa4 : Int) (oa5 : Int) (a7 : ByteArray), v = .agg #[.int .i64 a0, .int .i64 a1, .int .i64 a2, .int .i64 a3, .int .i64 a4, .int .i64 a5, .int .i64 oa0, .int .i64 oa1, .bool oa2, .bool oa3, .int .i64 oa4, .int .i64 oa5, .string a7] ∧ (Lit.int .i64 a0).wf = true ∧ (Lit.int .i64 a1).wf = true ∧ (Lit.int .i64 a2).wf = true ∧ (Lit.int .i64 a3).wf = true ∧ (Lit.int .i64 a4).wf = true ∧ (Lit.int .i64 a5).wf = true ∧ (Lit.int .i64 oa0).wf = true ∧ (Lit.int .i64 oa1).wf = true ∧ (Lit.int .i64 oa4).wf = true ∧ (Lit.int .i64 oa5).wf = true ∧ a7.size ≤ maxLen := by
  obtain ⟨cs, fuel, x, rfl, hx⟩ := value_of Try.underlying39 hv h
  obtain ⟨_, _, _, _, _, _, _, _, _, _, _, _, _, rfl, hh⟩ := read_Segment hx
  exact ⟨_, _, _, _, _, _, _, _, _, _, _, _, _, rfl, hh⟩
end
end Go.Proofs.Yteejcabknpdghaa
