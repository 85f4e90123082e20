/-
  What a region that draws its order keeps.
-/
import Derived.Test.YtkkpeienbhbgeaaBase
import Derived.Deep.RegionHeld3
namespace Go.Proofs.Ytkkpeienbhbgeaa
open Go.RowKit
theorem rg_keep {W wx w2 : World} (h : (∀ b o, b < W.heap.size → wx.cell? ⟨b, o, none⟩ = W.cell? ⟨b, o, none⟩) ∧ Below W.heap.size W wx) (hb : Below wx.heap.size wx w2) :
    (∀ b o, b < W.heap.size → w2.cell? ⟨b, o, none⟩ = W.cell? ⟨b, o, none⟩) ∧ Below W.heap.size W w2 := by
  obtain ⟨h1, h2⟩ := h
  exact ⟨fun b o hlt => (hb.cell (p := ⟨b, o, none⟩) (Nat.lt_of_lt_of_le hlt h2.size)).trans (h1 b o hlt), ext_trans h2 hb⟩
theorem rg_start (W : World) : (∀ b o, b < W.heap.size → W.drew.cell? ⟨b, o, none⟩ = W.cell? ⟨b, o, none⟩) ∧ Below W.heap.size W W.drew := ⟨fun _ _ _ => rfl, (Below.refl _ _).drew⟩
theorem drew_row {w : World} {g : Nat} {o : Option Obj} (h : w.heap[g]? = o) : w.drew.heap[g]? = o := h
theorem drewN_row {w : World} {n g : Nat} {o : Option Obj} (h : w.heap[g]? = o) : (w.drewN n).heap[g]? = o := h
end Go.Proofs.Ytkkpeienbhbgeaa
