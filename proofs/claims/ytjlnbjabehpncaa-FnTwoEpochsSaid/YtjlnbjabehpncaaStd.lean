/-
  A drawn region that stores its answer into a row that was born before it: what holds of every world on the way.
-/
import Derived.Test.YtjlnbjabehpncaaCur
import Derived.Test.YtjlnbjabehpncaaRow
namespace Go.Proofs.Ytjlnbjabehpncaa
open Go.RowKit

/-- Beside the row g, of n cells, all that lay before is as it was. -/
structure Stored (W : World) (g n : Nat) (T : TypeId) (w' : World) : Prop where
  lt : g < W.heap.size
  by_ : W.grownBy w' (some g)
  row : ∃ cs : Array Value, cs.size = n ∧ w'.heap[g]? = some (.cells cs T (0, 0))
section
variable {W wx w2 : World} {g n : Nat} {T : TypeId}
theorem gk_start {cs : Array Value} (hr : W.heap[g]? = some (.cells cs T (0, 0))) (hn : cs.size = n) : (∀ b o, b < W.heap.size → ¬ b = g → W.drew.cell? ⟨b, o, none⟩ = W.cell? ⟨b, o, none⟩) ∧ Stored W g n T W.drew :=
  ⟨fun _ _ _ _ => rfl, (Array.getElem?_eq_some_iff.1 hr).1, only_drew (World.grownBy.refl _ _), ⟨cs, hn, hr⟩⟩
theorem gk_call (h : (∀ b o, b < W.heap.size → ¬ b = g → wx.cell? ⟨b, o, none⟩ = W.cell? ⟨b, o, none⟩) ∧ Stored W g n T wx) (hb : Below wx.heap.size wx w2) : (∀ b o, b < W.heap.size → ¬ b = g → w2.cell? ⟨b, o, none⟩ = W.cell? ⟨b, o, none⟩) ∧ Stored W g n T w2 := by
  obtain ⟨h1, ⟨hg, h2, ⟨cs, hn, hr⟩⟩⟩ := h
  exact ⟨fun b o hlt hne => (hb.cell (p := ⟨b, o, none⟩) (Nat.lt_of_lt_of_le hlt h2.size)).trans (h1 b o hlt hne), ⟨hg, only_trans h2 (grown_below hb _), ⟨cs, hn, (hb.block g (Nat.lt_of_lt_of_le hg h2.size)).trans hr⟩⟩⟩
theorem gk_set (h : (∀ b o, b < W.heap.size → ¬ b = g → wx.cell? ⟨b, o, none⟩ = W.cell? ⟨b, o, none⟩) ∧ Stored W g n T wx) (k : Nat) (v : Value) : (∀ b o, b < W.heap.size → ¬ b = g → (wx.setCell ⟨g, k, none⟩ v).cell? ⟨b, o, none⟩ = W.cell? ⟨b, o, none⟩) ∧ Stored W g n T (wx.setCell ⟨g, k, none⟩ v) := by
  obtain ⟨h1, ⟨hg, h2, ⟨cs, hn, hr⟩⟩⟩ := h
  exact ⟨fun b o hlt hne => (World.cell?_of_block (heap_setCell_other _ ⟨g, k, none⟩ _ _ hne)).trans (h1 b o hlt hne), ⟨hg, only_set h2 _ _, ⟨cs.setIfInBounds k v, by simpa using hn, heap_setCell_same _ _ _ _ _ _ hr⟩⟩⟩
theorem gk_below (h : (∀ b o, b < W.heap.size → ¬ b = g → wx.cell? ⟨b, o, none⟩ = W.cell? ⟨b, o, none⟩) ∧ Stored W g n T wx) {B : Nat} (h1 : B ≤ W.heap.size) (h2 : B ≤ g) : Below B W wx := only_below h.2.by_ h1 h2
theorem gk_low (h : (∀ b o, b < W.heap.size → ¬ b = g → wx.cell? ⟨b, o, none⟩ = W.cell? ⟨b, o, none⟩) ∧ Stored W g n T wx) (_hb : Below wx.heap.size wx w2) : W.heap.size ≤ wx.heap.size := h.2.by_.size
theorem OwnE.grow {α : Type} {enc : α → List Value} {e : TypeId} {m : Nat} {w w' : World} {base g : Nat} {v : Value} {l : List α} (h : OwnE enc e m w base v l) (hg : w.grownBy w' (some g)) (hlt : g < base) : OwnE enc e m w' base v l := by
  by_cases h0 : l = []
  · exact h.nil h0 _ _
  · obtain ⟨g', c, rfl, h1, _⟩ := h.at h0
    rcases h with h | ⟨h, _⟩
    · refine .inl (h.kept hg (.inr ?_))
      simp only [Value.ownBlock, ne_eq, Option.some.injEq]
      omega
    · exact absurd h h0
end
theorem row_facts10 {w : World} {g : Nat} {cs : Array Value} {t : TypeId} (h : w.heap[g]? = some (.cells cs t (0, 0))) : w.cell? ⟨g, 0, none⟩ = cs[0]? ∧ w.cell? ⟨g, 1, none⟩ = cs[1]? ∧ w.cell? ⟨g, 2, none⟩ = cs[2]? ∧ w.cell? ⟨g, 3, none⟩ = cs[3]? ∧ w.cell? ⟨g, 4, none⟩ = cs[4]? ∧ w.cell? ⟨g, 5, none⟩ = cs[5]? ∧ w.cell? ⟨g, 6, none⟩ = cs[6]? ∧ w.cell? ⟨g, 7, none⟩ = cs[7]? ∧ w.cell? ⟨g, 8, none⟩ = cs[8]? ∧ w.cell? ⟨g, 9, none⟩ = cs[9]? ∧ ∀ o, w.frozen? ⟨g, o, none⟩ = false :=
  ⟨cell_of_row _ _ 0 _ _ _ h, cell_of_row _ _ 1 _ _ _ h, cell_of_row _ _ 2 _ _ _ h, cell_of_row _ _ 3 _ _ _ h, cell_of_row _ _ 4 _ _ _ h, cell_of_row _ _ 5 _ _ _ h, cell_of_row _ _ 6 _ _ _ h, cell_of_row _ _ 7 _ _ _ h, cell_of_row _ _ 8 _ _ _ h, cell_of_row _ _ 9 _ _ _ h, fun o => frozen_of_row _ _ o _ _ h⟩
theorem stored10 {w : World} {g : Nat} {t : TypeId} {c0 c1 c2 c3 c4 c5 c6 c7 c8 c9 : Value} (h : w.heap[g]? = some (.cells #[c0, c1, c2, c3, c4, c5, c6, c7, c8, c9] t (0, 0))) (v0 v1 v2 v3 v4 v5 v6 v7 v8 v9 : Value) :
    ((((((((((w.setCell ⟨g, 0, none⟩ v0).setCell ⟨g, 1, none⟩ v1).setCell ⟨g, 2, none⟩ v2).setCell ⟨g, 3, none⟩ v3).setCell ⟨g, 4, none⟩ v4).setCell ⟨g, 5, none⟩ v5).setCell ⟨g, 6, none⟩ v6).setCell ⟨g, 7, none⟩ v7).setCell ⟨g, 8, none⟩ v8).setCell ⟨g, 9, none⟩ v9).heap[g]? = some (.cells #[v0, v1, v2, v3, v4, v5, v6, v7, v8, v9] t (0, 0)) :=
  (heap_setCell_same _ _ 9 _ _ _ (heap_setCell_same _ _ 8 _ _ _ (heap_setCell_same _ _ 7 _ _ _ (heap_setCell_same _ _ 6 _ _ _ (heap_setCell_same _ _ 5 _ _ _ (heap_setCell_same _ _ 4 _ _ _ (heap_setCell_same _ _ 3 _ _ _ (heap_setCell_same _ _ 2 _ _ _ (heap_setCell_same _ _ 1 _ _ _ (heap_setCell_same _ _ 0 _ _ _ h)))))))))).trans (by simp)
theorem OwnE.blk {α : Type} {enc : α → List Value} {e : TypeId} {m : Nat} {w : World} {base : Nat} {v : Value} {l : List α} (h : OwnE enc e m w base v l) (g : Nat) (h0 : l ≠ []) (hv : v.ownBlock = some g) : base ≤ g ∧ g < w.heap.size := by
  obtain ⟨g', c, rfl, h1, h2⟩ := h.at h0
  simp only [Value.ownBlock, Option.some.injEq] at hv
  omega
theorem OwnE.setOther {α : Type} {enc : α → List Value} {e : TypeId} {m : Nat} {w : World} {base : Nat} {v : Value} {l : List α} (h : OwnE enc e m w base v l) {a : Addr} (hne : l ≠ [] → v.ownBlock ≠ some a.block) (u : Value) : OwnE enc e m (w.setCell a u) base v l := by
  by_cases h0 : l = []
  · exact h.nil h0 _ _
  · rcases h with h | ⟨h, _⟩
    · refine .inl (h.kept (row := some a.block) ⟨rfl, rfl, rfl, by simp [World.setCell], fun k _ hk => heap_setCell_other _ a _ _ (by simpa using hk)⟩ (.inr (hne h0)))
    · exact absurd h h0
theorem cells10 {cs : Array Value} (h : cs.size = 10) : ∃ u0 u1 u2 u3 u4 u5 u6 u7 u8 u9, cs = #[u0, u1, u2, u3, u4, u5, u6, u7, u8, u9] := by
  obtain ⟨l⟩ := cs
  match l, h with
  | [a, b, c, d, e, f, g, h, i, j], _ => exact ⟨a, b, c, d, e, f, g, h, i, j, rfl⟩
end Go.Proofs.Ytjlnbjabehpncaa
