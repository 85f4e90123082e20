/-
  The contract of markText: the figures of a number behind a letter.
-/
import Derived.Test.YteaniiponikpjaaBase
import Derived.Laws.IdiomStrings
import Derived.LoopTactic
namespace Go.Proofs.Yteaniiponikpjaa
open Go.RowKit

/-- The figures of k, ahead of acc. -/
def figs : Nat → Nat → List UInt8 → List UInt8
  | 0, _, acc => acc
  | f + 1, k, acc => if k = 0 then acc else figs f (k / 10) (UInt8.ofNat (48 + k % 10) :: acc)
theorem figs_zero (f : Nat) (acc : List UInt8) : figs f 0 acc = acc := by
  cases f <;> simp [figs]
theorem figs_more : ∀ (f g k : Nat) (acc : List UInt8), k ≤ f → k ≤ g → figs f k acc = figs g k acc
  | 0, g, k, acc, h, _ => by
    obtain rfl : k = 0 := by omega
    rw [figs_zero, figs_zero]
  | f + 1, 0, k, acc, _, h => by
    obtain rfl : k = 0 := by omega
    rw [figs_zero, figs_zero]
  | f + 1, g + 1, k, acc, h1, h2 => by
    unfold figs
    split
    · rfl
    · exact figs_more f g (k / 10) _ (by omega) (by omega)
theorem figs_step (k : Nat) (acc : List UInt8) (h : 0 < k) : figs k k acc = figs (k / 10) (k / 10) (UInt8.ofNat (48 + k % 10) :: acc) := by
  obtain ⟨j, rfl⟩ : ∃ j, k = j + 1 := ⟨k - 1, by omega⟩
  rw [figs, if_neg (by omega)]
  exact figs_more _ _ _ _ (by omega) (by omega)
def markS (k : Nat) : ByteArray := ⟨(if k = 0 then [109, 48] else 109 :: figs k k []).toArray⟩

theorem one_text (b : UInt8) (acc : List UInt8) : (⟨[b].toArray⟩ : ByteArray) ++ ⟨acc.toArray⟩ = ⟨(b :: acc).toArray⟩ := by
  apply ByteArray.ext
  simp
theorem m_text (acc : List UInt8) : (⟨#[109]⟩ : ByteArray) ++ ⟨acc.toArray⟩ = ⟨(109 :: acc).toArray⟩ := by
  apply ByteArray.ext
  simp
end Go.Proofs.Yteaniiponikpjaa
