/-
  What a region that draws its order keeps.
-/
import Derived.Test.YteaniiponikpjaaBase
import Derived.Deep.RegionHeld3
namespace Go.Proofs.Yteaniiponikpjaa
open Go.RowKit
theorem rg_keep {W wx w2 : World} (h : (∀ b o, b < W.heap.size → wx.cell? ⟨b, o, none⟩ = W.cell? ⟨b, o, none⟩) ∧ Below W.heap.size W wx) (hb : Below wx.heap.size wx w2) :
    (∀ b o, b < W.heap.size → w2.cell? ⟨b, o, none⟩ = W.cell? ⟨b, o, none⟩) ∧ Below W.heap.size W w2 := by
  obtain ⟨h1, h2⟩ := h
  exact ⟨fun b o hlt => (hb.cell (p := ⟨b, o, none⟩) (Nat.lt_of_lt_of_le hlt h2.size)).trans (h1 b o hlt), ext_trans h2 hb⟩
theorem rg_start (W : World) : (∀ b o, b < W.heap.size → W.drew.cell? ⟨b, o, none⟩ = W.cell? ⟨b, o, none⟩) ∧ Below W.heap.size W W.drew := ⟨fun _ _ _ => rfl, (Below.refl _ _).drew⟩
theorem rg_alloc {W wx : World} (h : (∀ b o, b < W.heap.size → wx.cell? ⟨b, o, none⟩ = W.cell? ⟨b, o, none⟩) ∧ Below W.heap.size W wx) (x : Obj) :
    (∀ b o, b < W.heap.size → (wx.alloc x).cell? ⟨b, o, none⟩ = W.cell? ⟨b, o, none⟩) ∧ Below W.heap.size W (wx.alloc x) := by
  obtain ⟨h1, h2⟩ := h
  have h3 : Below wx.heap.size wx (wx.alloc x) := (Below.refl _ _).alloc (Nat.le_refl _) x
  exact ⟨fun b o hlt => (h3.cell (p := ⟨b, o, none⟩) (Nat.lt_of_lt_of_le hlt h2.size)).trans (h1 b o hlt), ext_trans h2 h3⟩
theorem rg_set {W wx : World} (h : (∀ b o, b < W.heap.size → wx.cell? ⟨b, o, none⟩ = W.cell? ⟨b, o, none⟩) ∧ Below W.heap.size W wx) (p : Addr) (hp : W.heap.size ≤ p.block) (v : Value) :
    (∀ b o, b < W.heap.size → (wx.setCell p v).cell? ⟨b, o, none⟩ = W.cell? ⟨b, o, none⟩) ∧ Below W.heap.size W (wx.setCell p v) := by
  obtain ⟨h1, h2⟩ := h
  have h3 : Below W.heap.size wx (wx.setCell p v) := (Below.refl _ _).setCell hp v
  exact ⟨fun b o hlt => (h3.cell (p := ⟨b, o, none⟩) hlt).trans (h1 b o hlt), h2.trans h3⟩
theorem grows {W w1 : World} {B : Nat} (hb : Below B W w1) : ∀ k, k < W.heap.size → k < w1.heap.size := fun _ hk => Nat.lt_of_lt_of_le hk hb.size
theorem row_after {X wr : World} {cs : Array Value} {t : TypeId} (hb : Below (X.alloc (.cells cs t)).heap.size (X.alloc (.cells cs t)) wr) : wr.heap[X.heap.size]? = some (.cells cs t (0, 0)) := by
  exact (hb.block _ (by simp)).trans (heap_alloc_new X _)
theorem row_after_drew {X wr : World} {cs : Array Value} {t : TypeId} (hb : Below (X.alloc (.cells cs t)).drew.heap.size (X.alloc (.cells cs t)).drew wr) : wr.heap[X.heap.size]? = some (.cells cs t (0, 0)) :=
  (hb.block _ (by show X.heap.size < (X.alloc (.cells cs t)).heap.size; simp)).trans (heap_alloc_new X _)
theorem rg_start_alloc (W : World) (x : Obj) : (∀ b o, b < W.heap.size → (W.alloc x).drew.cell? ⟨b, o, none⟩ = W.cell? ⟨b, o, none⟩) ∧ Below W.heap.size W (W.alloc x).drew :=
  ⟨(rg_alloc (W := W) (wx := W) ⟨fun _ _ _ => rfl, Below.refl _ _⟩ x).1, (rg_alloc (W := W) (wx := W) ⟨fun _ _ _ => rfl, Below.refl _ _⟩ x).2.drew⟩
theorem row_kept {wx wr : World} {g : Nat} {cs : Array Value} {t : TypeId} {fr : Nat × Nat} (h : wx.heap[g]? = some (.cells cs t fr)) (hb : Below wx.heap.size wx wr) : wr.heap[g]? = some (.cells cs t fr) :=
  (hb.block _ (Array.getElem?_eq_some_iff.1 h).1).trans h
theorem row_facts {w : World} {g : Nat} {cs : Array Value} {t : TypeId} (h : w.heap[g]? = some (.cells cs t (0, 0))) : w.cell? ⟨g, 0, none⟩ = cs[0]? ∧ w.cell? ⟨g, 1, none⟩ = cs[1]? ∧ w.cell? ⟨g, 2, none⟩ = cs[2]? ∧ w.cell? ⟨g, 3, none⟩ = cs[3]? ∧ w.cell? ⟨g, 4, none⟩ = cs[4]? ∧ w.cell? ⟨g, 5, none⟩ = cs[5]? ∧ ∀ o, w.frozen? ⟨g, o, none⟩ = false :=
  ⟨cell_of_row _ _ 0 _ _ _ h, cell_of_row _ _ 1 _ _ _ h, cell_of_row _ _ 2 _ _ _ h, cell_of_row _ _ 3 _ _ _ h, cell_of_row _ _ 4 _ _ _ h, cell_of_row _ _ 5 _ _ _ h, fun o => frozen_of_row _ _ o _ _ h⟩
/-- The same behind a name, which the walk does not open. -/
def KeptS (W wx : World) : Prop := (∀ b o, b < W.heap.size → wx.cell? ⟨b, o, none⟩ = W.cell? ⟨b, o, none⟩) ∧ Below W.heap.size W wx
theorem KeptS.out {W wx : World} (h : KeptS W wx) : (∀ b o, b < W.heap.size → wx.cell? ⟨b, o, none⟩ = W.cell? ⟨b, o, none⟩) ∧ Below W.heap.size W wx := h
theorem KeptS.size {W wx : World} (h : KeptS W wx) : W.heap.size ≤ wx.heap.size := h.2.size
theorem rg_keepK {W wx w2 : World} (h : (∀ b o, b < W.heap.size → wx.cell? ⟨b, o, none⟩ = W.cell? ⟨b, o, none⟩) ∧ Below W.heap.size W wx) (hb : Below wx.heap.size wx w2) : KeptS W w2 := rg_keep h hb
theorem drew_row {w : World} {g : Nat} {o : Option Obj} (h : w.heap[g]? = o) : w.drew.heap[g]? = o := h
theorem drewN_row {w : World} {n g : Nat} {o : Option Obj} (h : w.heap[g]? = o) : (w.drewN n).heap[g]? = o := h
theorem heap_new (w : World) (o : Obj) (k : Nat) (h : k = w.heap.size) : (w.alloc o).heap[k]? = some o := by
  subst h
  exact heap_alloc_new w o
end Go.Proofs.Yteaniiponikpjaa
