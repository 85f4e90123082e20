/-
  Slices that a function owns, beside a cursor.
-/
import Derived.Test.YtjlnbjabehpncaaCur
import Derived.Laws.AppendOwn
import Derived.Laws.MakeOwn
import Derived.Laws.OwnMore
import Derived.Laws.BytesArg
namespace Go.Proofs.Ytjlnbjabehpncaa
set_option maxRecDepth 100000
open Go.RowKit

theorem Cur.grown {w w' : World} {B g : Nat} {row : Option Nat} (H : Cur w B g) (h : w.grownBy w' row) (hr : ∀ k, row = some k → g < k) : Cur w' B g := by
  obtain ⟨A, n, c, i, x, H⟩ := H
  have hlt := H.lt
  have hlow := H.low
  refine ⟨A, n, c, i, x, hlow, (h.block g hlt (fun e => by have := hr g e.symm; omega)).trans H.blk, H.len, H.pos, H.byt.keep fun b hb => h.block b (by omega) (fun e => by have := hr b e.symm; omega)⟩
theorem only_own {a b c : World} {g : Nat} {row : Option Nat} (h : a.grownBy b (some g)) (k : b.grownBy c row) (hr : ∀ q, row = some q → a.heap.size ≤ q) : a.grownBy c (some g) :=
  ⟨k.os.trans h.os, k.tape.trans h.tape, k.output.trans h.output, Nat.le_trans h.size k.size, fun i hi hne => (k.block i (Nat.lt_of_lt_of_le hi h.size) (fun e => by have := hr i e.symm; omega)).trans (h.block i hi hne)⟩
theorem own_keepg {w w' : World} {base : Nat} {e : TypeId} {size : Nat} {v : Value} {n : Nat} {xs : List Value} {g : Nat} (h : w.ownsRow base e size v n xs) (hg : w.grownBy w' (some g)) (hlt : g < base) : w'.ownsRow base e size v n xs :=
  h.kept hg (by
    cases hv : v.ownBlock with
    | none => exact .inl rfl
    | some k => exact .inr (fun e => by injection e with e; have := (h.lt k hv).1; omega))
theorem own_formN {w : World} {base : Nat} {e : TypeId} {size : Nat} {v : Value} {n : Nat} {xs : List Value} (h : w.ownsRow base e size v n xs) : ∃ A c, v = .slice A n c := by
  rcases h.2 with ⟨rfl, h0⟩ | ⟨b, cap, cur, rfl, _⟩
  · subst h0
    exact ⟨_, _, rfl⟩
  · exact ⟨_, _, rfl⟩
theorem news_cells (w : World) (cs : Array Value) (e : TypeId) (l : List Value) (hl : cs = l.toArray) : ∀ j u, l[j]? = some u → (w.alloc (.cells cs e)).cell? ((⟨w.heap.size, 0, none⟩ : Addr).add j) = some u := by
  intro j u hu
  have ha : (⟨w.heap.size, 0, none⟩ : Addr).add j = ⟨w.heap.size, j, none⟩ := by unfold Addr.add; split <;> simp_all
  rw [ha, cell_of_row _ w.heap.size j cs e (0, 0) (heap_alloc_new w _), hl]
  simpa using hu

theorem info_partsN {P : Program} {t : TypeId} {z : Value} {s b : Nat} (h : (P.info? t).map (fun i => (i.zero, i.size, i.bytes)) = some (some z, s, b)) :
    ∃ i, P.info? t = some i ∧ i.zero = some z ∧ i.size = s ∧ i.bytes = b := by
  obtain ⟨i, hi, h⟩ := Option.map_eq_some_iff.1 h
  injection h with h1 h2
  injection h2 with h2 h3
  exact ⟨i, hi, h1, h2, h3⟩
theorem info_uint8 : (Try.prog.info? 5).map (fun i => (i.zero, i.size, i.bytes)) = some (some (.int .u8 0), 1, 1) := by kernel_rfl
/-- A slice of bytes that was drawn. -/
def OwnB (w : World) (base : Nat) (v : Value) (xs : List Int) : Prop :=
  w.ownsRow base 5 1 v xs.length (xs.map (Value.int .u8)) ∧ ∀ x ∈ xs, 0 ≤ x ∧ x ≤ 255
theorem OwnB.form {w : World} {base : Nat} {v : Value} {xs : List Int} (h : OwnB w base v xs) : ∃ A c, v = .slice A xs.length c := own_formN h.1
theorem OwnB.conv {w : World} {base : Nat} {v : Value} {xs : List Int} (h : OwnB w base v xs) (w' : World) (hw : ∀ b o, base ≤ b → b < w.heap.size → w'.cell? ⟨b, o, none⟩ = w.cell? ⟨b, o, none⟩) :
    (convert 22 9 v).run Try.prog w' = .ok (.string (strOfNums xs)) w' := by
  obtain ⟨h, _⟩ := h
  have h2 := h.2
  have hlt := h.lt
  rcases h2 with ⟨rfl, h0⟩ | ⟨b, cap, cur, rfl, h3⟩
  · have : xs = [] := List.length_eq_zero_iff.1 h0
    subst this
    rw [run_convert_bytes_nil (P := Try.prog) w' _ _ Try.underlying22 Try.underlying5 0 0 _ Try.underlying9]
    rfl
  · refine run_convert_bytes_arg (P := Try.prog) w' _ _ Try.underlying22 Try.underlying5 b 0 _ cap xs rfl (fun i hi => ?_) _ Try.underlying9
    have hb := hlt b rfl
    rw [Nat.zero_add, hw b i hb.1 hb.2, h.cellAt i (by omega)]
    simp [List.getD, List.getElem?_eq_getElem hi]
end Go.Proofs.Ytjlnbjabehpncaa
