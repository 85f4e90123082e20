/-
  Arguments that are structs, opened to their cells.
-/
import Derived.Test.YtjlnbjabehpncaaBase
namespace Go.Proofs.Ytjlnbjabehpncaa
open Go.ChangeShapes Go.WideShapes Go.ChangeAt Go.RowKit
section
set_option maxRecDepth 100000
variable {H : Type} {enc : TypeId × Value → H} {w : World} {base : Nat} {spare : Nat → Bool} {held : Bool}
theorem read_Tuple {fuel : Nat} {cs : List Value} {x : DataW H × List MemPlace} (h : DataW.trod enc Try.prog w base spare held fuel 64 cs = some x) :
    ∃ (a0 : Int) (a1 : Int) (a2 : Int), cs = [.int .i64 a0, .int .i64 a1, .int .i64 a2] ∧ (Lit.int .i64 a0).wf = true ∧ (Lit.int .i64 a1).wf = true ∧ (Lit.int .i64 a2).wf = true := by
  obtain ⟨hl, n, hf⟩ := fields_of Try.underlying64 h
  have hl' : cs.length = 3 := hl.trans (by kernel_rfl)
  match cs, hl' with
  | [c0, c1, c2], _ =>
    have h0 : ∃ y, DataW.trod enc Try.prog w base spare held n 3 (List.take (Try.prog.cellsOf 3) (List.drop 0 [c0, c1, c2])) = some y := hf 0 _ rfl
    have h1 : ∃ y, DataW.trod enc Try.prog w base spare held n 3 (List.take (Try.prog.cellsOf 3) (List.drop 1 [c0, c1, c2])) = some y := hf 1 _ rfl
    have h2 : ∃ y, DataW.trod enc Try.prog w base spare held n 3 (List.take (Try.prog.cellsOf 3) (List.drop 2 [c0, c1, c2])) = some y := hf 2 _ rfl
    obtain ⟨y0, h0⟩ := h0
    rw [show Try.prog.cellsOf 3 = 1 from by kernel_rfl] at h0
    obtain ⟨a0, e0, _, wa0⟩ := DataW.trod_int Try.underlying3 h0
    simp at e0
    obtain rfl := e0
    obtain ⟨y1, h1⟩ := h1
    rw [show Try.prog.cellsOf 3 = 1 from by kernel_rfl] at h1
    obtain ⟨a1, e1, _, wa1⟩ := DataW.trod_int Try.underlying3 h1
    simp at e1
    obtain rfl := e1
    obtain ⟨y2, h2⟩ := h2
    rw [show Try.prog.cellsOf 3 = 1 from by kernel_rfl] at h2
    obtain ⟨a2, e2, _, wa2⟩ := DataW.trod_int Try.underlying3 h2
    simp at e2
    obtain rfl := e2
    exact ⟨_, _, _, rfl, wa0, wa1, wa2⟩
theorem open_Tuple {w' : World} {r : Reach} {b0 : Nat} {v : Value} {d : DataW H} {p : List MemPlace} (hv : Value.okWide Try.prog w' r b0 64 v) (h : DataW.Trod enc Try.prog w base spare held 64 v d p) :
    ∃ (a0 : Int) (a1 : Int) (a2 : Int), v = .agg #[.int .i64 a0, .int .i64 a1, .int .i64 a2] ∧ (Lit.int .i64 a0).wf = true ∧ (Lit.int .i64 a1).wf = true ∧ (Lit.int .i64 a2).wf = true := by
  obtain ⟨cs, fuel, x, rfl, hx⟩ := value_of Try.underlying64 hv h
  obtain ⟨_, _, _, rfl, hh⟩ := read_Tuple hx
  exact ⟨_, _, _, rfl, hh⟩
end
section
set_option maxRecDepth 100000
variable {H : Type} {enc : TypeId × Value → H} {w : World} {base : Nat} {spare : Nat → Bool} {held : Bool}
theorem read_MacRow {fuel : Nat} {cs : List Value} {x : DataW H × List MemPlace} (h : DataW.trod enc Try.prog w base spare held fuel 108 cs = some x) :
    ∃ (a0 : ByteArray) (a1 : Int), cs = [.string a0, .int .i64 a1] ∧ a0.size ≤ maxLen ∧ (Lit.int .i64 a1).wf = true := by
  obtain ⟨hl, n, hf⟩ := fields_of Try.underlying108 h
  have hl' : cs.length = 2 := hl.trans (by kernel_rfl)
  match cs, hl' with
  | [c0, c1], _ =>
    have h0 : ∃ y, DataW.trod enc Try.prog w base spare held n 9 (List.take (Try.prog.cellsOf 9) (List.drop 0 [c0, c1])) = some y := hf 0 _ rfl
    have h1 : ∃ y, DataW.trod enc Try.prog w base spare held n 3 (List.take (Try.prog.cellsOf 3) (List.drop 1 [c0, c1])) = some y := hf 1 _ rfl
    obtain ⟨y0, h0⟩ := h0
    rw [show Try.prog.cellsOf 9 = 1 from by kernel_rfl] at h0
    obtain ⟨a0, e0, _, wa0⟩ := DataW.trod_string Try.underlying9 h0
    simp at e0
    obtain rfl := e0
    obtain ⟨y1, h1⟩ := h1
    rw [show Try.prog.cellsOf 3 = 1 from by kernel_rfl] at h1
    obtain ⟨a1, e1, _, wa1⟩ := DataW.trod_int Try.underlying3 h1
    simp at e1
    obtain rfl := e1
    exact ⟨_, _, rfl, wa0, wa1⟩
theorem open_MacRow {w' : World} {r : Reach} {b0 : Nat} {v : Value} {d : DataW H} {p : List MemPlace} (hv : Value.okWide Try.prog w' r b0 108 v) (h : DataW.Trod enc Try.prog w base spare held 108 v d p) :
    ∃ (a0 : ByteArray) (a1 : Int), v = .agg #[.string a0, .int .i64 a1] ∧ a0.size ≤ maxLen ∧ (Lit.int .i64 a1).wf = true := by
  obtain ⟨cs, fuel, x, rfl, hx⟩ := value_of Try.underlying108 hv h
  obtain ⟨_, _, rfl, hh⟩ := read_MacRow hx
  exact ⟨_, _, rfl, hh⟩
end
section
set_option maxRecDepth 100000
variable {H : Type} {enc : TypeId × Value → H} {w : World} {base : Nat} {spare : Nat → Bool} {held : Bool}
theorem read_Mac {fuel : Nat} {cs : List Value} {x : DataW H × List MemPlace} (h : DataW.trod enc Try.prog w base spare held fuel 53 cs = some x) :
    ∃ (a0 : Bool) (a1 : Int) (a2 : Int) (a3 : Value), cs = [.bool a0, .int .u64 a1, .int .u64 a2, a3] ∧ (Lit.int .u64 a1).wf = true ∧ (Lit.int .u64 a2).wf = true ∧ (∃ (k : Nat) (y : DataW H × List MemPlace), DataW.trod enc Try.prog w base spare held k 51 [a3] = some y) := by
  obtain ⟨hl, n, hf⟩ := fields_of Try.underlying53 h
  have hl' : cs.length = 4 := hl.trans (by kernel_rfl)
  match cs, hl' with
  | [c0, c1, c2, c3], _ =>
    have h0 : ∃ y, DataW.trod enc Try.prog w base spare held n 4 (List.take (Try.prog.cellsOf 4) (List.drop 0 [c0, c1, c2, c3])) = some y := hf 0 _ rfl
    have h1 : ∃ y, DataW.trod enc Try.prog w base spare held n 24 (List.take (Try.prog.cellsOf 24) (List.drop 1 [c0, c1, c2, c3])) = some y := hf 1 _ rfl
    have h2 : ∃ y, DataW.trod enc Try.prog w base spare held n 24 (List.take (Try.prog.cellsOf 24) (List.drop 2 [c0, c1, c2, c3])) = some y := hf 2 _ rfl
    have h3 : ∃ y, DataW.trod enc Try.prog w base spare held n 51 (List.take (Try.prog.cellsOf 51) (List.drop 3 [c0, c1, c2, c3])) = some y := hf 3 _ rfl
    obtain ⟨y0, h0⟩ := h0
    rw [show Try.prog.cellsOf 4 = 1 from by kernel_rfl] at h0
    obtain ⟨a0, e0, _⟩ := DataW.trod_bool Try.underlying4 h0
    simp at e0
    obtain rfl := e0
    obtain ⟨y1, h1⟩ := h1
    rw [show Try.prog.cellsOf 24 = 1 from by kernel_rfl] at h1
    obtain ⟨a1, e1, _, wa1⟩ := DataW.trod_int Try.underlying24 h1
    simp at e1
    obtain rfl := e1
    obtain ⟨y2, h2⟩ := h2
    rw [show Try.prog.cellsOf 24 = 1 from by kernel_rfl] at h2
    obtain ⟨a2, e2, _, wa2⟩ := DataW.trod_int Try.underlying24 h2
    simp at e2
    obtain rfl := e2
    obtain ⟨y3, h3⟩ := h3
    rw [show Try.prog.cellsOf 51 = 1 from by kernel_rfl] at h3
    exact ⟨_, _, _, _, rfl, wa1, wa2, ⟨n, y3, h3⟩⟩
theorem open_Mac {w' : World} {r : Reach} {b0 : Nat} {v : Value} {d : DataW H} {p : List MemPlace} (hv : Value.okWide Try.prog w' r b0 53 v) (h : DataW.Trod enc Try.prog w base spare held 53 v d p) :
    ∃ (a0 : Bool) (a1 : Int) (a2 : Int) (a3 : Value), v = .agg #[.bool a0, .int .u64 a1, .int .u64 a2, a3] ∧ (Lit.int .u64 a1).wf = true ∧ (Lit.int .u64 a2).wf = true ∧ (∃ (k : Nat) (y : DataW H × List MemPlace), DataW.trod enc Try.prog w base spare held k 51 [a3] = some y) := by
  obtain ⟨cs, fuel, x, rfl, hx⟩ := value_of Try.underlying53 hv h
  obtain ⟨_, _, _, _, rfl, hh⟩ := read_Mac hx
  exact ⟨_, _, _, _, rfl, hh⟩
end
section
set_option maxRecDepth 100000
variable {H : Type} {enc : TypeId × Value → H} {w : World} {base : Nat} {spare : Nat → Bool} {held : Bool}
theorem read_Keys {fuel : Nat} {cs : List Value} {x : DataW H × List MemPlace} (h : DataW.trod enc Try.prog w base spare held fuel 55 cs = some x) :
    ∃ (e : Int) (na0 : Bool) (na1 : Int) (na2 : Int) (na3 : Value) (ba0 : Bool) (ba1 : Int) (ba2 : Int) (ba3 : Value) (t : Bool), cs = [.int .i64 e, .bool na0, .int .u64 na1, .int .u64 na2, na3, .bool ba0, .int .u64 ba1, .int .u64 ba2, ba3, .bool t] ∧ (Lit.int .i64 e).wf = true ∧ (Lit.int .u64 na1).wf = true ∧ (Lit.int .u64 na2).wf = true ∧ (∃ (k : Nat) (y : DataW H × List MemPlace), DataW.trod enc Try.prog w base spare held k 51 [na3] = some y) ∧ (Lit.int .u64 ba1).wf = true ∧ (Lit.int .u64 ba2).wf = true ∧ (∃ (k : Nat) (y : DataW H × List MemPlace), DataW.trod enc Try.prog w base spare held k 51 [ba3] = some y) := by
  obtain ⟨hl, n, hf⟩ := fields_of Try.underlying55 h
  have hl' : cs.length = 10 := hl.trans (by kernel_rfl)
  match cs, hl' with
  | [c0, c1, c2, c3, c4, c5, c6, c7, c8, c9], _ =>
    have h0 : ∃ y, DataW.trod enc Try.prog w base spare held n 3 (List.take (Try.prog.cellsOf 3) (List.drop 0 [c0, c1, c2, c3, c4, c5, c6, c7, c8, c9])) = some y := hf 0 _ rfl
    have h1 : ∃ y, DataW.trod enc Try.prog w base spare held n 53 (List.take (Try.prog.cellsOf 53) (List.drop 1 [c0, c1, c2, c3, c4, c5, c6, c7, c8, c9])) = some y := hf 1 _ rfl
    have h2 : ∃ y, DataW.trod enc Try.prog w base spare held n 53 (List.take (Try.prog.cellsOf 53) (List.drop 5 [c0, c1, c2, c3, c4, c5, c6, c7, c8, c9])) = some y := hf 2 _ rfl
    have h3 : ∃ y, DataW.trod enc Try.prog w base spare held n 4 (List.take (Try.prog.cellsOf 4) (List.drop 9 [c0, c1, c2, c3, c4, c5, c6, c7, c8, c9])) = some y := hf 3 _ rfl
    obtain ⟨y0, h0⟩ := h0
    rw [show Try.prog.cellsOf 3 = 1 from by kernel_rfl] at h0
    obtain ⟨e, e0, _, we⟩ := DataW.trod_int Try.underlying3 h0
    simp at e0
    obtain rfl := e0
    obtain ⟨y1, h1⟩ := h1
    rw [show Try.prog.cellsOf 53 = 4 from by kernel_rfl] at h1
    obtain ⟨na0, na1, na2, na3, e1, wn0, wn1, wn2⟩ := read_Mac h1
    simp at e1
    obtain ⟨rfl, rfl, rfl, rfl⟩ := e1
    obtain ⟨y2, h2⟩ := h2
    rw [show Try.prog.cellsOf 53 = 4 from by kernel_rfl] at h2
    obtain ⟨ba0, ba1, ba2, ba3, e2, wb0, wb1, wb2⟩ := read_Mac h2
    simp at e2
    obtain ⟨rfl, rfl, rfl, rfl⟩ := e2
    obtain ⟨y3, h3⟩ := h3
    rw [show Try.prog.cellsOf 4 = 1 from by kernel_rfl] at h3
    obtain ⟨t, e3, _⟩ := DataW.trod_bool Try.underlying4 h3
    simp at e3
    obtain rfl := e3
    exact ⟨_, _, _, _, _, _, _, _, _, _, rfl, we, wn0, wn1, wn2, wb0, wb1, wb2⟩
theorem open_Keys {w' : World} {r : Reach} {b0 : Nat} {v : Value} {d : DataW H} {p : List MemPlace} (hv : Value.okWide Try.prog w' r b0 55 v) (h : DataW.Trod enc Try.prog w base spare held 55 v d p) :
    ∃ (e : Int) (na0 : Bool) (na1 : Int) (na2 : Int) (na3 : Value) (ba0 : Bool) (ba1 : Int) (ba2 : Int) (ba3 : Value) (t : Bool), v = .agg #[.int .i64 e, .bool na0, .int .u64 na1, .int .u64 na2, na3, .bool ba0, .int .u64 ba1, .int .u64 ba2, ba3, .bool t] ∧ (Lit.int .i64 e).wf = true ∧ (Lit.int .u64 na1).wf = true ∧ (Lit.int .u64 na2).wf = true ∧ (∃ (k : Nat) (y : DataW H × List MemPlace), DataW.trod enc Try.prog w base spare held k 51 [na3] = some y) ∧ (Lit.int .u64 ba1).wf = true ∧ (Lit.int .u64 ba2).wf = true ∧ (∃ (k : Nat) (y : DataW H × List MemPlace), DataW.trod enc Try.prog w base spare held k 51 [ba3] = some y) := by
  obtain ⟨cs, fuel, x, rfl, hx⟩ := value_of Try.underlying55 hv h
  obtain ⟨_, _, _, _, _, _, _, _, _, _, rfl, hh⟩ := read_Keys hx
  exact ⟨_, _, _, _, _, _, _, _, _, _, rfl, hh⟩
end
end Go.Proofs.Ytjlnbjabehpncaa
