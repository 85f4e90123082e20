/-
  An argument that is a slice of Entry, read through a list.
-/
import Derived.Test.YteaniiponikpjaaRowEntry
import Derived.Test.YteaniiponikpjaaStru
import Derived.Deep.DeepCutAuto
namespace Go.Proofs.Yteaniiponikpjaa
set_option maxRecDepth 100000
open Go.ChangeShapes Go.WideShapes Go.ChangeAt Go.RowKit Go.Deep

theorem rgBEntry {W wx : World} (h : (∀ b o, b < W.heap.size → wx.cell? ⟨b, o, none⟩ = W.cell? ⟨b, o, none⟩) ∧ Below W.heap.size W wx) : Below W.heap.size W wx := h.2
def WfEntry (l : List REntry) : Prop := ∀ x ∈ l, (Lit.int .i64 x.1).wf = true ∧ (Lit.int .i64 x.2.1).wf = true ∧ (Lit.int .i64 x.2.2).wf = true
theorem open_rowsEntry {H : Type} {enc : TypeId × Value → H} {w : World} {base : Nat} {spare : Nat → Bool} {held : Bool} {fuel : Nat} {v : Value} {x : DataW H × List MemPlace} (h : DataW.trod enc Try.prog w base spare held fuel 22 [v] = some x) :
    ∃ l : List REntry, RdEntry w v l ∧ WfEntry l ∧ l.length ≤ maxLen := by
  rcases open_slice Try.underlying22 h with ⟨hcs, _⟩ | ⟨a, len, cap, k, n, D, Pl, hcs, _, hl, hm, hkk, _, hi⟩
  · simp at hcs
    subst hcs
    exact ⟨[], ⟨none, 0, rfl, ⟨Nat.le_refl _, Nat.zero_le _, fun _ => rfl⟩, fun h => absurd h (by simp [cellsOf])⟩, fun _ h => by simp at h, Nat.zero_le _⟩
  · simp at hcs
    subst hcs
    have hle : len ≤ k := by rw [hkk]; split <;> omega
    have hel : ∀ i : Fin len, ∃ y : REntry, ((Lit.int .i64 y.1).wf = true ∧ (Lit.int .i64 y.2.1).wf = true ∧ (Lit.int .i64 y.2.2).wf = true) ∧ ∀ j, j < 3 → w.cell? ((a.add (i.val * 3)).add j) = (eEntry y)[j]? := fun i => by
      obtain ⟨cs', hc, ht⟩ := hi i.val (by omega)
      rw [show Try.prog.cellsOf 73 = 3 from by kernel_rfl] at hc
      obtain ⟨y0, y1, y2, rfl, hw⟩ := read_Entry ht
      obtain ⟨_, _, hat⟩ := World.cells?_some hc
      exact ⟨⟨y0, y1, y2⟩, hw, hat⟩
    refine ⟨List.ofFn fun i => Classical.choose (hel i), ?_, ?_, ?_⟩
    · unfold RdEntry
      rw [List.length_ofFn]
      refine rd_of eEntry_len (by omega) (List.length_ofFn) hl hm fun q hq j hj => ?_
      have hq' : q < len := by rw [List.length_ofFn] at hq; exact hq
      rw [List.getElem_ofFn]
      exact (Classical.choose_spec (hel ⟨q, hq'⟩)).2 j hj
    · intro y hy
      obtain ⟨i, rfl⟩ := List.mem_ofFn.1 hy
      exact (Classical.choose_spec (hel i)).1
    · rw [List.length_ofFn]
      omega
theorem open_argEntry {H : Type} {enc : TypeId × Value → H} {w w' : World} {base : Nat} {spare : Nat → Bool} {held : Bool} {rr : Reach} {b0 : Nat} {v : Value} {d : DataW H} {p : List MemPlace} (hv : Value.okWide Try.prog w' rr b0 22 v) (h : DataW.Trod enc Try.prog w base spare held 22 v d p) :
    ∃ l : List REntry, RdEntry w v l ∧ WfEntry l ∧ l.length ≤ maxLen := by
  obtain ⟨A, n, c, rfl⟩ := okWide_slice Try.underlying22 hv
  obtain ⟨fuel, hf⟩ := h
  exact open_rowsEntry (by simpa [Value.cells] using hf)
theorem WfEntry.fit {l : List REntry} (_ : WfEntry l) : FitEntry l := fun _ _ => trivial
end Go.Proofs.Yteaniiponikpjaa
