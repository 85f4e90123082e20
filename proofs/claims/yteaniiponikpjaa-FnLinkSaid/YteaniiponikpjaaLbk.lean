/-
  What the laws on links ask of LinkOut.
-/
import Derived.Test.YteaniiponikpjaaPlk
import Derived.Test.YteaniiponikpjaaLnk
namespace Go.Proofs.Yteaniiponikpjaa
set_option maxRecDepth 100000
open Go.RowKit

theorem out_cases (x : RLnk) (ip : Int) (body : ByteArray) : outR x ip body = (⟨#[]⟩, false) ∨
    ∃ hw, hwR x.ca ip = (hw, true) ∧ packB x.ip ip 64 6 0 body = true ∧ frameB hw x.mac 2048 (packS x.ip ip 64 6 0 body) = true ∧ outR x ip body = (frameS hw x.mac 2048 (packS x.ip ip 64 6 0 body), true) := by
  unfold outR
  split
  · rename_i h
    rw [Bool.and_eq_true] at h
    split
    · rename_i hp
      split
      · rename_i hf
        refine Or.inr ⟨(hwR x.ca ip).1, ?_, hp, hf, rfl⟩
        rw [← h.2]
      · exact Or.inl rfl
    · exact Or.inl rfl
  · exact Or.inl rfl
theorem same_self (x : RLnk) : x.same x = true := by
  unfold RLnk.same
  simp
theorem frame_le (dst src ty : Int) (body : ByteArray) : (frameS dst src ty body).size ≤ 1600 := by
  unfold frameS
  split
  · rename_i h
    unfold frameB at h
    simp only [Bool.and_eq_true, decide_eq_true_eq] at h
    simp only [ByteArray.size_append, beS_size]
    omega
  · decide
end Go.Proofs.Yteaniiponikpjaa
