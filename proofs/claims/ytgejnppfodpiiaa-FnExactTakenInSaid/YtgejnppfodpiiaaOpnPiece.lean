/-
  An argument that is a slice of Piece, read through a list.
-/
import Derived.Test.YtgejnppfodpiiaaRowPiece
import Derived.Test.YtgejnppfodpiiaaStru
import Derived.Deep.DeepCutAuto
namespace Go.Proofs.Ytgejnppfodpiiaa
set_option maxRecDepth 100000
open Go.ChangeShapes Go.WideShapes Go.ChangeAt Go.RowKit Go.Deep

theorem rgBPiece {W wx : World} (h : (∀ b o, b < W.heap.size → wx.cell? ⟨b, o, none⟩ = W.cell? ⟨b, o, none⟩) ∧ Below W.heap.size W wx) : Below W.heap.size W wx := h.2
def WfPiece (l : List RPiece) : Prop := ∀ x ∈ l, (Lit.int .i64 x.1).wf = true ∧ x.2.size ≤ maxLen
theorem open_rowsPiece {H : Type} {enc : TypeId × Value → H} {w : World} {base : Nat} {spare : Nat → Bool} {held : Bool} {fuel : Nat} {v : Value} {x : DataW H × List MemPlace} (h : DataW.trod enc Try.prog w base spare held fuel 29 [v] = some x) :
    ∃ l : List RPiece, RdPiece w v l ∧ WfPiece l ∧ l.length ≤ maxLen := by
  rcases open_slice Try.underlying29 h with ⟨hcs, _⟩ | ⟨a, len, cap, k, n, D, Pl, hcs, _, hl, hm, hkk, _, hi⟩
  · simp at hcs
    subst hcs
    exact ⟨[], ⟨none, 0, rfl, ⟨Nat.le_refl _, Nat.zero_le _, fun _ => rfl⟩, fun h => absurd h (by simp [cellsOf])⟩, fun _ h => by simp at h, Nat.zero_le _⟩
  · simp at hcs
    subst hcs
    have hle : len ≤ k := by rw [hkk]; split <;> omega
    have hel : ∀ i : Fin len, ∃ y : RPiece, ((Lit.int .i64 y.1).wf = true ∧ y.2.size ≤ maxLen) ∧ ∀ j, j < 2 → w.cell? ((a.add (i.val * 2)).add j) = (ePiece y)[j]? := fun i => by
      obtain ⟨cs', hc, ht⟩ := hi i.val (by omega)
      rw [show Try.prog.cellsOf 55 = 2 from by kernel_rfl] at hc
      obtain ⟨y0, y1, rfl, hw⟩ := read_Piece ht
      obtain ⟨_, _, hat⟩ := World.cells?_some hc
      exact ⟨⟨y0, y1⟩, hw, hat⟩
    refine ⟨List.ofFn fun i => Classical.choose (hel i), ?_, ?_, ?_⟩
    · unfold RdPiece
      rw [List.length_ofFn]
      refine rd_of ePiece_len (by omega) (List.length_ofFn) hl hm fun q hq j hj => ?_
      have hq' : q < len := by rw [List.length_ofFn] at hq; exact hq
      rw [List.getElem_ofFn]
      exact (Classical.choose_spec (hel ⟨q, hq'⟩)).2 j hj
    · intro y hy
      obtain ⟨i, rfl⟩ := List.mem_ofFn.1 hy
      exact (Classical.choose_spec (hel i)).1
    · rw [List.length_ofFn]
      omega
theorem open_argPiece {H : Type} {enc : TypeId × Value → H} {w w' : World} {base : Nat} {spare : Nat → Bool} {held : Bool} {rr : Reach} {b0 : Nat} {v : Value} {d : DataW H} {p : List MemPlace} (hv : Value.okWide Try.prog w' rr b0 29 v) (h : DataW.Trod enc Try.prog w base spare held 29 v d p) :
    ∃ l : List RPiece, RdPiece w v l ∧ WfPiece l ∧ l.length ≤ maxLen := by
  obtain ⟨A, n, c, rfl⟩ := okWide_slice Try.underlying29 hv
  obtain ⟨fuel, hf⟩ := h
  exact open_rowsPiece (by simpa [Value.cells] using hf)
theorem WfPiece.fit {l : List RPiece} (h : WfPiece l) : FitPiece l := fun x hx => (h x hx).2
end Go.Proofs.Ytgejnppfodpiiaa
