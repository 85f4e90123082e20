/-
  An argument that is a slice of MacRow, read through a list.
-/
import Derived.Test.YtjlnbjabehpncaaRowMacRow
import Derived.Test.YtjlnbjabehpncaaStru
import Derived.Deep.DeepCutAuto
namespace Go.Proofs.Ytjlnbjabehpncaa
set_option maxRecDepth 100000
open Go.ChangeShapes Go.WideShapes Go.ChangeAt Go.RowKit Go.Deep

theorem rgBMacRow {W wx : World} (h : (∀ b o, b < W.heap.size → wx.cell? ⟨b, o, none⟩ = W.cell? ⟨b, o, none⟩) ∧ Below W.heap.size W wx) : Below W.heap.size W wx := h.2
def WfMacRow (l : List RMacRow) : Prop := ∀ x ∈ l, x.1.size ≤ maxLen ∧ (Lit.int .i64 x.2).wf = true
theorem open_rowsMacRow {H : Type} {enc : TypeId × Value → H} {w : World} {base : Nat} {spare : Nat → Bool} {held : Bool} {fuel : Nat} {v : Value} {x : DataW H × List MemPlace} (h : DataW.trod enc Try.prog w base spare held fuel 51 [v] = some x) :
    ∃ l : List RMacRow, RdMacRow w v l ∧ WfMacRow l ∧ l.length ≤ maxLen := by
  rcases open_slice Try.underlying51 h with ⟨hcs, _⟩ | ⟨a, len, cap, k, n, D, Pl, hcs, _, hl, hm, hkk, _, hi⟩
  · simp at hcs
    subst hcs
    exact ⟨[], ⟨none, 0, rfl, ⟨Nat.le_refl _, Nat.zero_le _, fun _ => rfl⟩, fun h => absurd h (by simp [cellsOf])⟩, fun _ h => by simp at h, Nat.zero_le _⟩
  · simp at hcs
    subst hcs
    have hle : len ≤ k := by rw [hkk]; split <;> omega
    have hel : ∀ i : Fin len, ∃ y : RMacRow, (y.1.size ≤ maxLen ∧ (Lit.int .i64 y.2).wf = true) ∧ ∀ j, j < 2 → w.cell? ((a.add (i.val * 2)).add j) = (eMacRow y)[j]? := fun i => by
      obtain ⟨cs', hc, ht⟩ := hi i.val (by omega)
      rw [show Try.prog.cellsOf 108 = 2 from by kernel_rfl] at hc
      obtain ⟨y0, y1, rfl, hw⟩ := read_MacRow ht
      obtain ⟨_, _, hat⟩ := World.cells?_some hc
      exact ⟨⟨y0, y1⟩, hw, hat⟩
    refine ⟨List.ofFn fun i => Classical.choose (hel i), ?_, ?_, ?_⟩
    · unfold RdMacRow
      rw [List.length_ofFn]
      refine rd_of eMacRow_len (by omega) (List.length_ofFn) hl hm fun q hq j hj => ?_
      have hq' : q < len := by rw [List.length_ofFn] at hq; exact hq
      rw [List.getElem_ofFn]
      exact (Classical.choose_spec (hel ⟨q, hq'⟩)).2 j hj
    · intro y hy
      obtain ⟨i, rfl⟩ := List.mem_ofFn.1 hy
      exact (Classical.choose_spec (hel i)).1
    · rw [List.length_ofFn]
      omega
theorem open_argMacRow {H : Type} {enc : TypeId × Value → H} {w w' : World} {base : Nat} {spare : Nat → Bool} {held : Bool} {rr : Reach} {b0 : Nat} {v : Value} {d : DataW H} {p : List MemPlace} (hv : Value.okWide Try.prog w' rr b0 51 v) (h : DataW.Trod enc Try.prog w base spare held 51 v d p) :
    ∃ l : List RMacRow, RdMacRow w v l ∧ WfMacRow l ∧ l.length ≤ maxLen := by
  obtain ⟨A, n, c, rfl⟩ := okWide_slice Try.underlying51 hv
  obtain ⟨fuel, hf⟩ := h
  exact open_rowsMacRow (by simpa [Value.cells] using hf)
theorem WfMacRow.fit {l : List RMacRow} (h : WfMacRow l) : FitMacRow l := fun x hx => (h x hx).1
end Go.Proofs.Ytjlnbjabehpncaa
