/-
  Plain words for NextChunk.
-/
import Derived.Test.YtkkpeienbhbgeaaSndC
import Derived.Test.YtkkpeienbhbgeaaRgt
import Derived.Deep.DeepCutAuto
namespace Go.Proofs.Ytkkpeienbhbgeaa
open Go.RowKit

/-- How many bytes the next chunk bears, out of L unsent ones; does it bear the end? -/
def chM (L : Nat) (mss W : Int) : Nat := (max 0 (min (min (L : Int) mss) W)).toNat
def chFin (f fs dn : Bool) (L m : Nat) (W : Int) : Bool := f && (!fs && (!dn && (decide (m = L) && decide ((m : Int) < W))))
def effW (win FL : Int) : Int := (if win < -1 then -1 else win) - FL
theorem chM_le (L : Nat) (mss W : Int) : chM L mss W ≤ L := by unfold chM; omega
theorem ext_size (d : ByteArray) (k : Nat) : (d.extract k d.size).size = d.size - k := by simp
theorem ext_nil (X : ByteArray) : X.extract 0 0 = ⟨#[]⟩ := by
  apply ByteArray.ext
  simp
theorem ext_pos (X : ByteArray) (m : Nat) (h1 : 0 < m) (h2 : m ≤ X.size) : (X.extract 0 m).toList.isEmpty = false ∧ ¬ (X.extract 0 m).toList = [] := by
  have h : 0 < (X.extract 0 m).size := by simp; omega
  exact ⟨bs_isEmpty h, bs_ne_nil h⟩

/-- What NextChunk hands back. -/
def chRes (q : Int) (T : ByteArray) (m : Nat) (fin : Bool) : Value := if m = 0 ∧ fin = false then .tuple #[.agg #[.int .i64 0, .string ⟨#[]⟩, .bool false], .bool false] else .tuple #[.agg #[.int .i64 q, .string T, .bool fin], .bool true]

end Go.Proofs.Ytkkpeienbhbgeaa
