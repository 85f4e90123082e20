/-
  Arguments that are structs, opened to their cells.
-/
import Derived.Test.YtondhgmlemgoaaaBase
namespace Go.Proofs.Ytondhgmlemgoaaa
open Go.ChangeShapes Go.WideShapes Go.ChangeAt Go.RowKit
section
variable {H : Type} {enc : TypeId × Value → H} {w : World} {base : Nat} {spare : Nat → Bool} {held : Bool}
theorem read_Sip {fuel : Nat} {cs : List Value} {x : DataW H × List MemPlace} (h : DataW.trod enc Try.prog w base spare held fuel 24 cs = some x) :
    ∃ (a0 : Int) (a1 : Int) (a2 : Int) (a3 : Int), cs = [.int .u64 a0, .int .u64 a1, .int .u64 a2, .int .u64 a3] ∧ (Lit.int .u64 a0).wf = true ∧ (Lit.int .u64 a1).wf = true ∧ (Lit.int .u64 a2).wf = true ∧ (Lit.int .u64 a3).wf = true := by
  obtain ⟨hl, n, hf⟩ := fields_of Try.underlying24 h
  have hl' : cs.length = 4 := hl.trans (by kernel_rfl)
  match cs, hl' with
  | [c0, c1, c2, c3], _ =>
    have h0 : ∃ y, DataW.trod enc Try.prog w base spare held n 22 (List.take (Try.prog.cellsOf 22) (List.drop 0 [c0, c1, c2, c3])) = some y := hf 0 _ rfl
    have h1 : ∃ y, DataW.trod enc Try.prog w base spare held n 22 (List.take (Try.prog.cellsOf 22) (List.drop 1 [c0, c1, c2, c3])) = some y := hf 1 _ rfl
    have h2 : ∃ y, DataW.trod enc Try.prog w base spare held n 22 (List.take (Try.prog.cellsOf 22) (List.drop 2 [c0, c1, c2, c3])) = some y := hf 2 _ rfl
    have h3 : ∃ y, DataW.trod enc Try.prog w base spare held n 22 (List.take (Try.prog.cellsOf 22) (List.drop 3 [c0, c1, c2, c3])) = some y := hf 3 _ rfl
    obtain ⟨y0, h0⟩ := h0
    rw [show Try.prog.cellsOf 22 = 1 from by kernel_rfl] at h0
    obtain ⟨a0, e0, _, wa0⟩ := DataW.trod_int Try.underlying22 h0
    simp at e0
    obtain rfl := e0
    obtain ⟨y1, h1⟩ := h1
    rw [show Try.prog.cellsOf 22 = 1 from by kernel_rfl] at h1
    obtain ⟨a1, e1, _, wa1⟩ := DataW.trod_int Try.underlying22 h1
    simp at e1
    obtain rfl := e1
    obtain ⟨y2, h2⟩ := h2
    rw [show Try.prog.cellsOf 22 = 1 from by kernel_rfl] at h2
    obtain ⟨a2, e2, _, wa2⟩ := DataW.trod_int Try.underlying22 h2
    simp at e2
    obtain rfl := e2
    obtain ⟨y3, h3⟩ := h3
    rw [show Try.prog.cellsOf 22 = 1 from by kernel_rfl] at h3
    obtain ⟨a3, e3, _, wa3⟩ := DataW.trod_int Try.underlying22 h3
    simp at e3
    obtain rfl := e3
    exact ⟨_, _, _, _, rfl, wa0, wa1, wa2, wa3⟩
theorem open_Sip {w' : World} {r : Reach} {b0 : Nat} {v : Value} {d : DataW H} {p : List MemPlace} (hv : Value.okWide Try.prog w' r b0 24 v) (h : DataW.Trod enc Try.prog w base spare held 24 v d p) :
    ∃ (a0 : Int) (a1 : Int) (a2 : Int) (a3 : Int), v = .agg #[.int .u64 a0, .int .u64 a1, .int .u64 a2, .int .u64 a3] ∧ (Lit.int .u64 a0).wf = true ∧ (Lit.int .u64 a1).wf = true ∧ (Lit.int .u64 a2).wf = true ∧ (Lit.int .u64 a3).wf = true := by
  obtain ⟨cs, fuel, x, rfl, hx⟩ := value_of Try.underlying24 hv h
  obtain ⟨_, _, _, _, rfl, hh⟩ := read_Sip hx
  exact ⟨_, _, _, _, rfl, hh⟩
end
section
variable {H : Type} {enc : TypeId × Value → H} {w : World} {base : Nat} {spare : Nat → Bool} {held : Bool}
theorem read_MacRow {fuel : Nat} {cs : List Value} {x : DataW H × List MemPlace} (h : DataW.trod enc Try.prog w base spare held fuel 79 cs = some x) :
    ∃ (a0 : ByteArray) (a1 : Int), cs = [.string a0, .int .i64 a1] ∧ a0.size ≤ maxLen ∧ (Lit.int .i64 a1).wf = true := by
  obtain ⟨hl, n, hf⟩ := fields_of Try.underlying79 h
  have hl' : cs.length = 2 := hl.trans (by kernel_rfl)
  match cs, hl' with
  | [c0, c1], _ =>
    have h0 : ∃ y, DataW.trod enc Try.prog w base spare held n 9 (List.take (Try.prog.cellsOf 9) (List.drop 0 [c0, c1])) = some y := hf 0 _ rfl
    have h1 : ∃ y, DataW.trod enc Try.prog w base spare held n 3 (List.take (Try.prog.cellsOf 3) (List.drop 1 [c0, c1])) = some y := hf 1 _ rfl
    obtain ⟨y0, h0⟩ := h0
    rw [show Try.prog.cellsOf 9 = 1 from by kernel_rfl] at h0
    obtain ⟨a0, e0, _, wa0⟩ := DataW.trod_string Try.underlying9 h0
    simp at e0
    obtain rfl := e0
    obtain ⟨y1, h1⟩ := h1
    rw [show Try.prog.cellsOf 3 = 1 from by kernel_rfl] at h1
    obtain ⟨a1, e1, _, wa1⟩ := DataW.trod_int Try.underlying3 h1
    simp at e1
    obtain rfl := e1
    exact ⟨_, _, rfl, wa0, wa1⟩
theorem open_MacRow {w' : World} {r : Reach} {b0 : Nat} {v : Value} {d : DataW H} {p : List MemPlace} (hv : Value.okWide Try.prog w' r b0 79 v) (h : DataW.Trod enc Try.prog w base spare held 79 v d p) :
    ∃ (a0 : ByteArray) (a1 : Int), v = .agg #[.string a0, .int .i64 a1] ∧ a0.size ≤ maxLen ∧ (Lit.int .i64 a1).wf = true := by
  obtain ⟨cs, fuel, x, rfl, hx⟩ := value_of Try.underlying79 hv h
  obtain ⟨_, _, rfl, hh⟩ := read_MacRow hx
  exact ⟨_, _, rfl, hh⟩
end
section
variable {H : Type} {enc : TypeId × Value → H} {w : World} {base : Nat} {spare : Nat → Bool} {held : Bool}
theorem read_Mac {fuel : Nat} {cs : List Value} {x : DataW H × List MemPlace} (h : DataW.trod enc Try.prog w base spare held fuel 44 cs = some x) :
    ∃ (a0 : Bool) (a1 : Int) (a2 : Int) (a3 : Value), cs = [.bool a0, .int .u64 a1, .int .u64 a2, a3] ∧ (Lit.int .u64 a1).wf = true ∧ (Lit.int .u64 a2).wf = true ∧ (∃ (k : Nat) (y : DataW H × List MemPlace), DataW.trod enc Try.prog w base spare held k 42 [a3] = some y) := by
  obtain ⟨hl, n, hf⟩ := fields_of Try.underlying44 h
  have hl' : cs.length = 4 := hl.trans (by kernel_rfl)
  match cs, hl' with
  | [c0, c1, c2, c3], _ =>
    have h0 : ∃ y, DataW.trod enc Try.prog w base spare held n 4 (List.take (Try.prog.cellsOf 4) (List.drop 0 [c0, c1, c2, c3])) = some y := hf 0 _ rfl
    have h1 : ∃ y, DataW.trod enc Try.prog w base spare held n 22 (List.take (Try.prog.cellsOf 22) (List.drop 1 [c0, c1, c2, c3])) = some y := hf 1 _ rfl
    have h2 : ∃ y, DataW.trod enc Try.prog w base spare held n 22 (List.take (Try.prog.cellsOf 22) (List.drop 2 [c0, c1, c2, c3])) = some y := hf 2 _ rfl
    have h3 : ∃ y, DataW.trod enc Try.prog w base spare held n 42 (List.take (Try.prog.cellsOf 42) (List.drop 3 [c0, c1, c2, c3])) = some y := hf 3 _ rfl
    obtain ⟨y0, h0⟩ := h0
    rw [show Try.prog.cellsOf 4 = 1 from by kernel_rfl] at h0
    obtain ⟨a0, e0, _⟩ := DataW.trod_bool Try.underlying4 h0
    simp at e0
    obtain rfl := e0
    obtain ⟨y1, h1⟩ := h1
    rw [show Try.prog.cellsOf 22 = 1 from by kernel_rfl] at h1
    obtain ⟨a1, e1, _, wa1⟩ := DataW.trod_int Try.underlying22 h1
    simp at e1
    obtain rfl := e1
    obtain ⟨y2, h2⟩ := h2
    rw [show Try.prog.cellsOf 22 = 1 from by kernel_rfl] at h2
    obtain ⟨a2, e2, _, wa2⟩ := DataW.trod_int Try.underlying22 h2
    simp at e2
    obtain rfl := e2
    obtain ⟨y3, h3⟩ := h3
    rw [show Try.prog.cellsOf 42 = 1 from by kernel_rfl] at h3
    exact ⟨_, _, _, _, rfl, wa1, wa2, ⟨n, y3, h3⟩⟩
theorem open_Mac {w' : World} {r : Reach} {b0 : Nat} {v : Value} {d : DataW H} {p : List MemPlace} (hv : Value.okWide Try.prog w' r b0 44 v) (h : DataW.Trod enc Try.prog w base spare held 44 v d p) :
    ∃ (a0 : Bool) (a1 : Int) (a2 : Int) (a3 : Value), v = .agg #[.bool a0, .int .u64 a1, .int .u64 a2, a3] ∧ (Lit.int .u64 a1).wf = true ∧ (Lit.int .u64 a2).wf = true ∧ (∃ (k : Nat) (y : DataW H × List MemPlace), DataW.trod enc Try.prog w base spare held k 42 [a3] = some y) := by
  obtain ⟨cs, fuel, x, rfl, hx⟩ := value_of Try.underlying44 hv h
  obtain ⟨_, _, _, _, rfl, hh⟩ := read_Mac hx
  exact ⟨_, _, _, _, rfl, hh⟩
end
end Go.Proofs.Ytondhgmlemgoaaa
