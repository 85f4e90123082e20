/-
  Arguments that are structs, opened to their cells.
-/
import Derived.Test.YtkkpeienbhbgeaaBase
namespace Go.Proofs.Ytkkpeienbhbgeaa
open Go.ChangeShapes Go.WideShapes Go.ChangeAt Go.RowKit
section
set_option maxRecDepth 100000
variable {H : Type} {enc : TypeId × Value → H} {w : World} {base : Nat} {spare : Nat → Bool} {held : Bool}
theorem read_Sender {fuel : Nat} {cs : List Value} {x : DataW H × List MemPlace} (h : DataW.trod enc Try.prog w base spare held fuel 23 cs = some x) :
    ∃ (a0 : Int) (a1 : ByteArray) (a2 : Int) (a3 : Bool) (a4 : Bool) (a5 : Bool), cs = [.int .i64 a0, .string a1, .int .i64 a2, .bool a3, .bool a4, .bool a5] ∧ (Lit.int .i64 a0).wf = true ∧ a1.size ≤ maxLen ∧ (Lit.int .i64 a2).wf = true := by
  obtain ⟨hl, n, hf⟩ := fields_of Try.underlying23 h
  have hl' : cs.length = 6 := hl.trans (by kernel_rfl)
  match cs, hl' with
  | [c0, c1, c2, c3, c4, c5], _ =>
    have h0 : ∃ y, DataW.trod enc Try.prog w base spare held n 3 (List.take (Try.prog.cellsOf 3) (List.drop 0 [c0, c1, c2, c3, c4, c5])) = some y := hf 0 _ rfl
    have h1 : ∃ y, DataW.trod enc Try.prog w base spare held n 9 (List.take (Try.prog.cellsOf 9) (List.drop 1 [c0, c1, c2, c3, c4, c5])) = some y := hf 1 _ rfl
    have h2 : ∃ y, DataW.trod enc Try.prog w base spare held n 3 (List.take (Try.prog.cellsOf 3) (List.drop 2 [c0, c1, c2, c3, c4, c5])) = some y := hf 2 _ rfl
    have h3 : ∃ y, DataW.trod enc Try.prog w base spare held n 4 (List.take (Try.prog.cellsOf 4) (List.drop 3 [c0, c1, c2, c3, c4, c5])) = some y := hf 3 _ rfl
    have h4 : ∃ y, DataW.trod enc Try.prog w base spare held n 4 (List.take (Try.prog.cellsOf 4) (List.drop 4 [c0, c1, c2, c3, c4, c5])) = some y := hf 4 _ rfl
    have h5 : ∃ y, DataW.trod enc Try.prog w base spare held n 4 (List.take (Try.prog.cellsOf 4) (List.drop 5 [c0, c1, c2, c3, c4, c5])) = some y := hf 5 _ rfl
    obtain ⟨y0, h0⟩ := h0
    rw [show Try.prog.cellsOf 3 = 1 from by kernel_rfl] at h0
    obtain ⟨a0, e0, _, wa0⟩ := DataW.trod_int Try.underlying3 h0
    simp at e0
    obtain rfl := e0
    obtain ⟨y1, h1⟩ := h1
    rw [show Try.prog.cellsOf 9 = 1 from by kernel_rfl] at h1
    obtain ⟨a1, e1, _, wa1⟩ := DataW.trod_string Try.underlying9 h1
    simp at e1
    obtain rfl := e1
    obtain ⟨y2, h2⟩ := h2
    rw [show Try.prog.cellsOf 3 = 1 from by kernel_rfl] at h2
    obtain ⟨a2, e2, _, wa2⟩ := DataW.trod_int Try.underlying3 h2
    simp at e2
    obtain rfl := e2
    obtain ⟨y3, h3⟩ := h3
    rw [show Try.prog.cellsOf 4 = 1 from by kernel_rfl] at h3
    obtain ⟨a3, e3, _⟩ := DataW.trod_bool Try.underlying4 h3
    simp at e3
    obtain rfl := e3
    obtain ⟨y4, h4⟩ := h4
    rw [show Try.prog.cellsOf 4 = 1 from by kernel_rfl] at h4
    obtain ⟨a4, e4, _⟩ := DataW.trod_bool Try.underlying4 h4
    simp at e4
    obtain rfl := e4
    obtain ⟨y5, h5⟩ := h5
    rw [show Try.prog.cellsOf 4 = 1 from by kernel_rfl] at h5
    obtain ⟨a5, e5, _⟩ := DataW.trod_bool Try.underlying4 h5
    simp at e5
    obtain rfl := e5
    exact ⟨_, _, _, _, _, _, rfl, wa0, wa1, wa2⟩
theorem open_Sender {w' : World} {r : Reach} {b0 : Nat} {v : Value} {d : DataW H} {p : List MemPlace} (hv : Value.okWide Try.prog w' r b0 23 v) (h : DataW.Trod enc Try.prog w base spare held 23 v d p) :
    ∃ (a0 : Int) (a1 : ByteArray) (a2 : Int) (a3 : Bool) (a4 : Bool) (a5 : Bool), v = .agg #[.int .i64 a0, .string a1, .int .i64 a2, .bool a3, .bool a4, .bool a5] ∧ (Lit.int .i64 a0).wf = true ∧ a1.size ≤ maxLen ∧ (Lit.int .i64 a2).wf = true := by
  obtain ⟨cs, fuel, x, rfl, hx⟩ := value_of Try.underlying23 hv h
  obtain ⟨_, _, _, _, _, _, rfl, hh⟩ := read_Sender hx
  exact ⟨_, _, _, _, _, _, rfl, hh⟩
end
section
set_option maxRecDepth 100000
variable {H : Type} {enc : TypeId × Value → H} {w : World} {base : Nat} {spare : Nat → Bool} {held : Bool}
theorem read_Chunk {fuel : Nat} {cs : List Value} {x : DataW H × List MemPlace} (h : DataW.trod enc Try.prog w base spare held fuel 36 cs = some x) :
    ∃ (a0 : Int) (a1 : ByteArray) (a2 : Bool), cs = [.int .i64 a0, .string a1, .bool a2] ∧ (Lit.int .i64 a0).wf = true ∧ a1.size ≤ maxLen := by
  obtain ⟨hl, n, hf⟩ := fields_of Try.underlying36 h
  have hl' : cs.length = 3 := hl.trans (by kernel_rfl)
  match cs, hl' with
  | [c0, c1, c2], _ =>
    have h0 : ∃ y, DataW.trod enc Try.prog w base spare held n 3 (List.take (Try.prog.cellsOf 3) (List.drop 0 [c0, c1, c2])) = some y := hf 0 _ rfl
    have h1 : ∃ y, DataW.trod enc Try.prog w base spare held n 9 (List.take (Try.prog.cellsOf 9) (List.drop 1 [c0, c1, c2])) = some y := hf 1 _ rfl
    have h2 : ∃ y, DataW.trod enc Try.prog w base spare held n 4 (List.take (Try.prog.cellsOf 4) (List.drop 2 [c0, c1, c2])) = some y := hf 2 _ rfl
    obtain ⟨y0, h0⟩ := h0
    rw [show Try.prog.cellsOf 3 = 1 from by kernel_rfl] at h0
    obtain ⟨a0, e0, _, wa0⟩ := DataW.trod_int Try.underlying3 h0
    simp at e0
    obtain rfl := e0
    obtain ⟨y1, h1⟩ := h1
    rw [show Try.prog.cellsOf 9 = 1 from by kernel_rfl] at h1
    obtain ⟨a1, e1, _, wa1⟩ := DataW.trod_string Try.underlying9 h1
    simp at e1
    obtain rfl := e1
    obtain ⟨y2, h2⟩ := h2
    rw [show Try.prog.cellsOf 4 = 1 from by kernel_rfl] at h2
    obtain ⟨a2, e2, _⟩ := DataW.trod_bool Try.underlying4 h2
    simp at e2
    obtain rfl := e2
    exact ⟨_, _, _, rfl, wa0, wa1⟩
theorem open_Chunk {w' : World} {r : Reach} {b0 : Nat} {v : Value} {d : DataW H} {p : List MemPlace} (hv : Value.okWide Try.prog w' r b0 36 v) (h : DataW.Trod enc Try.prog w base spare held 36 v d p) :
    ∃ (a0 : Int) (a1 : ByteArray) (a2 : Bool), v = .agg #[.int .i64 a0, .string a1, .bool a2] ∧ (Lit.int .i64 a0).wf = true ∧ a1.size ≤ maxLen := by
  obtain ⟨cs, fuel, x, rfl, hx⟩ := value_of Try.underlying36 hv h
  obtain ⟨_, _, _, rfl, hh⟩ := read_Chunk hx
  exact ⟨_, _, _, rfl, hh⟩
end
end Go.Proofs.Ytkkpeienbhbgeaa
