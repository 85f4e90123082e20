/-
  What a drawn region keeps that draws out of a cursor.
-/
import Derived.Test.YtkkpeienbhbgeaaOwn
import Derived.Test.YtkkpeienbhbgeaaDrawN
import Derived.Test.YtkkpeienbhbgeaaReg
import Derived.Test.YtkkpeienbhbgeaaRgt
namespace Go.Proofs.Ytkkpeienbhbgeaa
open Go.RowKit

/-- Beside the cursor g all that lay before is as it was. -/
structure Kept (W : World) (B g : Nat) (w' : World) : Prop where
  cur : Cur w' B g
  by_ : W.grownBy w' (some g)
section
variable {W wx w2 : World} {B g : Nat}
theorem kp_start (hc : Cur W B g) : (∀ b o, b < W.heap.size → ¬ b = g → W.drew.cell? ⟨b, o, none⟩ = W.cell? ⟨b, o, none⟩) ∧ Kept W B g W.drew :=
  ⟨fun _ _ _ _ => rfl, hc.drew, only_drew (World.grownBy.refl _ _)⟩
theorem kp_draw (h : (∀ b o, b < W.heap.size → ¬ b = g → wx.cell? ⟨b, o, none⟩ = W.cell? ⟨b, o, none⟩) ∧ Kept W B g wx) (hc : Cur w2 B g) (ho : wx.grownBy w2 (some g)) : (∀ b o, b < W.heap.size → ¬ b = g → w2.cell? ⟨b, o, none⟩ = W.cell? ⟨b, o, none⟩) ∧ Kept W B g w2 := by
  obtain ⟨h1, h2⟩ := h
  exact ⟨fun b o hlt hne => ((gcell ho).1 b o (Nat.lt_of_lt_of_le hlt h2.by_.size) hne).trans (h1 b o hlt hne), hc, only_trans h2.by_ ho⟩
theorem kp_below (h : (∀ b o, b < W.heap.size → ¬ b = g → wx.cell? ⟨b, o, none⟩ = W.cell? ⟨b, o, none⟩) ∧ Kept W B g wx) (hb : Below wx.heap.size wx w2) : (∀ b o, b < W.heap.size → ¬ b = g → w2.cell? ⟨b, o, none⟩ = W.cell? ⟨b, o, none⟩) ∧ Kept W B g w2 := by
  have hg : wx.grownBy w2 (some g) := ⟨hb.os, hb.tape, hb.output, hb.size, fun k hk _ => hb.block k hk⟩
  have hg' : wx.grownBy w2 none := ⟨hb.os, hb.tape, hb.output, hb.size, fun k hk _ => hb.block k hk⟩
  exact kp_draw h (h.2.cur.grown hg' (fun _ h => by cases h)) hg
theorem kp_alloc (h : (∀ b o, b < W.heap.size → ¬ b = g → wx.cell? ⟨b, o, none⟩ = W.cell? ⟨b, o, none⟩) ∧ Kept W B g wx) (x : Obj) : (∀ b o, b < W.heap.size → ¬ b = g → (wx.alloc x).cell? ⟨b, o, none⟩ = W.cell? ⟨b, o, none⟩) ∧ Kept W B g (wx.alloc x) :=
  kp_below h ((Below.refl _ _).alloc (Nat.le_refl _) x)
theorem kp_start_alloc (hc : Cur W B g) (x : Obj) : (∀ b o, b < W.heap.size → ¬ b = g → (W.alloc x).drew.cell? ⟨b, o, none⟩ = W.cell? ⟨b, o, none⟩) ∧ Kept W B g (W.alloc x).drew := kp_alloc (kp_start hc) x
theorem kp_set (h : (∀ b o, b < W.heap.size → ¬ b = g → wx.cell? ⟨b, o, none⟩ = W.cell? ⟨b, o, none⟩) ∧ Kept W B g wx) (p : Addr) (hp : W.heap.size ≤ p.block) (v : Value) (hg : g < W.heap.size) : (∀ b o, b < W.heap.size → ¬ b = g → (wx.setCell p v).cell? ⟨b, o, none⟩ = W.cell? ⟨b, o, none⟩) ∧ Kept W B g (wx.setCell p v) := by
  obtain ⟨h1, h2⟩ := h
  have hlow := h2.cur.low
  refine ⟨fun b o hlt hne => (World.cell?_of_block (heap_setCell_other _ p _ _ (by show b ≠ p.block; omega))).trans (h1 b o hlt hne), h2.cur.setOther (by omega) (by omega) v, only_setNew h2.by_ hp v⟩
theorem rowg {X wr : World} {cs : Array Value} {t : TypeId} (h : (X.alloc (.cells cs t)).grownBy wr (some g)) (hg : g < X.heap.size) : wr.heap[X.heap.size]? = some (.cells cs t (0, 0)) :=
  (grow h (by simp) (by omega)).trans (heap_alloc_new X _)
theorem rowg_drew {X wr : World} {cs : Array Value} {t : TypeId} (h : (X.alloc (.cells cs t)).drew.grownBy wr (some g)) (hg : g < X.heap.size) : wr.heap[X.heap.size]? = some (.cells cs t (0, 0)) :=
  (grow h (by show X.heap.size < (X.alloc (.cells cs t)).heap.size; simp) (by omega)).trans (heap_alloc_new X _)
theorem Kept.size (h : Kept W B g wx) : W.heap.size ≤ wx.heap.size := h.by_.size
theorem Kept.lt (h : Kept W B g wx) : g < wx.heap.size := h.cur.lt
theorem Kept.row (h : Kept W B g wx) {b : Nat} (hb : b < W.heap.size) (hg : ¬ b = g) : wx.heap[b]? = W.heap[b]? := grow h.by_ hb hg
end
end Go.Proofs.Ytkkpeienbhbgeaa
