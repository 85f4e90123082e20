/-
  Plain laws on strings as the walk spells them.
-/
import Derived.Test.YteaniiponikpjaaBase
namespace Go.Proofs.Yteaniiponikpjaa
open Go.RowKit
theorem bs_list (X : ByteArray) : X.toList = X.data.toList := ByteArray.toList_eq X
theorem bs_ne_nil {X : ByteArray} (h : 0 < X.size) : ¬ X.toList = [] := by
  rw [bs_list]
  intro e
  have : X.data.toList.length = 0 := by rw [e]; rfl
  have h2 : X.size = X.data.toList.length := rfl
  omega
theorem bs_isEmpty {X : ByteArray} (h : 0 < X.size) : X.toList.isEmpty = false := by
  have := bs_ne_nil h
  cases h : X.toList with
  | nil => exact absurd h this
  | cons a l => rfl
theorem bs_ne {X Y : ByteArray} (h : ¬ X = Y) : (X.toList == Y.toList) = false := by
  rw [bs_list, bs_list, beq_eq_false_iff_ne]
  intro e
  apply h
  apply ByteArray.ext
  exact Array.ext' e
end Go.Proofs.Yteaniiponikpjaa
