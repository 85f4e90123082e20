/-
  Arguments that are structs, opened to their cells.
-/
import Derived.Test.YteaniiponikpjaaBase
namespace Go.Proofs.Yteaniiponikpjaa
open Go.ChangeShapes Go.WideShapes Go.ChangeAt Go.RowKit
section
set_option maxRecDepth 100000
variable {H : Type} {enc : TypeId × Value → H} {w : World} {base : Nat} {spare : Nat → Bool} {held : Bool}
theorem read_Entry {fuel : Nat} {cs : List Value} {x : DataW H × List MemPlace} (h : DataW.trod enc Try.prog w base spare held fuel 73 cs = some x) :
    ∃ (a0 : Int) (a1 : Int) (a2 : Int), cs = [.int .i64 a0, .int .i64 a1, .int .i64 a2] ∧ (Lit.int .i64 a0).wf = true ∧ (Lit.int .i64 a1).wf = true ∧ (Lit.int .i64 a2).wf = true := by
  obtain ⟨hl, n, hf⟩ := fields_of Try.underlying73 h
  have hl' : cs.length = 3 := hl.trans (by kernel_rfl)
  match cs, hl' with
  | [c0, c1, c2], _ =>
    have h0 : ∃ y, DataW.trod enc Try.prog w base spare held n 3 (List.take (Try.prog.cellsOf 3) (List.drop 0 [c0, c1, c2])) = some y := hf 0 _ rfl
    have h1 : ∃ y, DataW.trod enc Try.prog w base spare held n 3 (List.take (Try.prog.cellsOf 3) (List.drop 1 [c0, c1, c2])) = some y := hf 1 _ rfl
    have h2 : ∃ y, DataW.trod enc Try.prog w base spare held n 3 (List.take (Try.prog.cellsOf 3) (List.drop 2 [c0, c1, c2])) = some y := hf 2 _ rfl
    obtain ⟨y0, h0⟩ := h0
    rw [show Try.prog.cellsOf 3 = 1 from by kernel_rfl] at h0
    obtain ⟨a0, e0, _, wa0⟩ := DataW.trod_int Try.underlying3 h0
    simp at e0
    obtain rfl := e0
    obtain ⟨y1, h1⟩ := h1
    rw [show Try.prog.cellsOf 3 = 1 from by kernel_rfl] at h1
    obtain ⟨a1, e1, _, wa1⟩ := DataW.trod_int Try.underlying3 h1
    simp at e1
    obtain rfl := e1
    obtain ⟨y2, h2⟩ := h2
    rw [show Try.prog.cellsOf 3 = 1 from by kernel_rfl] at h2
    obtain ⟨a2, e2, _, wa2⟩ := DataW.trod_int Try.underlying3 h2
    simp at e2
    obtain rfl := e2
    exact ⟨_, _, _, rfl, wa0, wa1, wa2⟩
theorem open_Entry {w' : World} {r : Reach} {b0 : Nat} {v : Value} {d : DataW H} {p : List MemPlace} (hv : Value.okWide Try.prog w' r b0 73 v) (h : DataW.Trod enc Try.prog w base spare held 73 v d p) :
    ∃ (a0 : Int) (a1 : Int) (a2 : Int), v = .agg #[.int .i64 a0, .int .i64 a1, .int .i64 a2] ∧ (Lit.int .i64 a0).wf = true ∧ (Lit.int .i64 a1).wf = true ∧ (Lit.int .i64 a2).wf = true := by
  obtain ⟨cs, fuel, x, rfl, hx⟩ := value_of Try.underlying73 hv h
  obtain ⟨_, _, _, rfl, hh⟩ := read_Entry hx
  exact ⟨_, _, _, rfl, hh⟩
end
section
set_option maxRecDepth 100000
variable {H : Type} {enc : TypeId × Value → H} {w : World} {base : Nat} {spare : Nat → Bool} {held : Bool}
theorem read_Link {fuel : Nat} {cs : List Value} {x : DataW H × List MemPlace} (h : DataW.trod enc Try.prog w base spare held fuel 33 cs = some x) :
    ∃ (a0 : Int) (a1 : Int) (a2 : Value), cs = [.int .i64 a0, .int .i64 a1, a2] ∧ (Lit.int .i64 a0).wf = true ∧ (Lit.int .i64 a1).wf = true ∧ (∃ (k : Nat) (y : DataW H × List MemPlace), DataW.trod enc Try.prog w base spare held k 22 [a2] = some y) := by
  obtain ⟨hl, n, hf⟩ := fields_of Try.underlying33 h
  have hl' : cs.length = 3 := hl.trans (by kernel_rfl)
  match cs, hl' with
  | [c0, c1, c2], _ =>
    have h0 : ∃ y, DataW.trod enc Try.prog w base spare held n 3 (List.take (Try.prog.cellsOf 3) (List.drop 0 [c0, c1, c2])) = some y := hf 0 _ rfl
    have h1 : ∃ y, DataW.trod enc Try.prog w base spare held n 3 (List.take (Try.prog.cellsOf 3) (List.drop 1 [c0, c1, c2])) = some y := hf 1 _ rfl
    have h2 : ∃ y, DataW.trod enc Try.prog w base spare held n 22 (List.take (Try.prog.cellsOf 22) (List.drop 2 [c0, c1, c2])) = some y := hf 2 _ rfl
    obtain ⟨y0, h0⟩ := h0
    rw [show Try.prog.cellsOf 3 = 1 from by kernel_rfl] at h0
    obtain ⟨a0, e0, _, wa0⟩ := DataW.trod_int Try.underlying3 h0
    simp at e0
    obtain rfl := e0
    obtain ⟨y1, h1⟩ := h1
    rw [show Try.prog.cellsOf 3 = 1 from by kernel_rfl] at h1
    obtain ⟨a1, e1, _, wa1⟩ := DataW.trod_int Try.underlying3 h1
    simp at e1
    obtain rfl := e1
    obtain ⟨y2, h2⟩ := h2
    rw [show Try.prog.cellsOf 22 = 1 from by kernel_rfl] at h2
    exact ⟨_, _, _, rfl, wa0, wa1, ⟨n, y2, h2⟩⟩
theorem open_Link {w' : World} {r : Reach} {b0 : Nat} {v : Value} {d : DataW H} {p : List MemPlace} (hv : Value.okWide Try.prog w' r b0 33 v) (h : DataW.Trod enc Try.prog w base spare held 33 v d p) :
    ∃ (a0 : Int) (a1 : Int) (a2 : Value), v = .agg #[.int .i64 a0, .int .i64 a1, a2] ∧ (Lit.int .i64 a0).wf = true ∧ (Lit.int .i64 a1).wf = true ∧ (∃ (k : Nat) (y : DataW H × List MemPlace), DataW.trod enc Try.prog w base spare held k 22 [a2] = some y) := by
  obtain ⟨cs, fuel, x, rfl, hx⟩ := value_of Try.underlying33 hv h
  obtain ⟨_, _, _, rfl, hh⟩ := read_Link hx
  exact ⟨_, _, _, rfl, hh⟩
end
end Go.Proofs.Yteaniiponikpjaa
