/-
  Slices whose elements are records of several cells: read through a list of records.
-/
import Derived.Test.YteaniiponikpjaaBase
import Derived.Below
import Derived.Deep.Slices
import Derived.Laws.AppendOwn
import Derived.Laws.MakeOwn
import Derived.Laws.OwnMore
namespace Go.Proofs.Yteaniiponikpjaa
open Go.RowKit

section
variable {α : Type} {enc : α → List Value} {m : Nat}

def cellsOf (enc : α → List Value) (l : List α) : List Value := l.flatMap enc
theorem cells_nil : cellsOf enc [] = [] := rfl
theorem cells_cons (x : α) (l : List α) : cellsOf enc (x :: l) = enc x ++ cellsOf enc l := by simp [cellsOf]
theorem cells_append (l r : List α) : cellsOf enc (l ++ r) = cellsOf enc l ++ cellsOf enc r := by simp [cellsOf]
theorem cells_len (hm : ∀ x, (enc x).length = m) : ∀ l : List α, (cellsOf enc l).length = l.length * m
  | [] => by simp [cellsOf]
  | x :: l => by rw [cells_cons, List.length_append, cells_len hm l, hm, List.length_cons, Nat.add_mul, Nat.one_mul]; omega
theorem cells_at (hm : ∀ x, (enc x).length = m) : ∀ (l : List α) (k j : Nat) (hk : k < l.length), j < m → (cellsOf enc l)[k * m + j]? = (enc l[k])[j]?
  | x :: l, 0, j, hk, hj => by
    rw [cells_cons, List.getElem?_append_left (by rw [hm]; omega)]
    simp
  | x :: l, k + 1, j, hk, hj => by
    rw [cells_cons, List.getElem?_append_right (by rw [hm, Nat.add_mul]; omega), hm]
    have e : (k + 1) * m + j - m = k * m + j := by rw [Nat.add_mul]; omega
    rw [e, cells_at hm l k j (by simpa using hk) hj]
    rfl
theorem cells_lt {k j n : Nat} (hk : k < n) (hj : j < m) : k * m + j < n * m := by
  have : (k + 1) * m ≤ n * m := Nat.mul_le_mul_right _ hk
  rw [Nat.add_mul] at this
  omega

/-- The slice v, of n elements, reads as the cells xs; its array lies below block B. -/
def Rd (w : World) (B : Nat) (v : Value) (n : Nat) (xs : List Value) : Prop :=
  ∃ A c, v = .slice A n c ∧ (n ≤ c ∧ c ≤ maxLen ∧ (A = none → c = 0)) ∧ (0 < xs.length → ∃ b off, A = some ⟨b, off, none⟩ ∧ b < B ∧ ∀ j u, xs[j]? = some u → w.cell? ⟨b, off + j, none⟩ = some u)

theorem Rd.keep {w w' : World} {B B' : Nat} {v : Value} {n : Nat} {xs : List Value} (h : Rd w B v n xs) (hk : ∀ b, b < B → w'.heap[b]? = w.heap[b]?) (hB : B ≤ B') : Rd w' B' v n xs := by
  obtain ⟨A, c, e, hc, hx⟩ := h
  refine ⟨A, c, e, hc, fun hl => ?_⟩
  obtain ⟨b, off, ea, hb, hj⟩ := hx hl
  exact ⟨b, off, ea, by omega, fun j u hu => (World.cell?_of_block (hk b hb)).trans (hj j u hu)⟩
theorem Rd.below {w w' : World} {v : Value} {n : Nat} {xs : List Value} (h : Rd w w.heap.size v n xs) (hb : Below w.heap.size w w') : Rd w' w'.heap.size v n xs :=
  h.keep hb.block hb.size
theorem Rd.alloc {w : World} {v : Value} {n : Nat} {xs : List Value} (h : Rd w w.heap.size v n xs) (o : Obj) : Rd (w.alloc o) (w.alloc o).heap.size v n xs :=
  h.below ((Below.refl _ _).alloc (Nat.le_refl _) o)
/-- One element's cells. -/
theorem Rd.elem (hm : ∀ x, (enc x).length = m) {w : World} {B : Nat} {A : Option Addr} {n c : Nat} {l : List α} (h : Rd w B (.slice A n c) n (cellsOf enc l)) (hm0 : 0 < m) (k : Nat) (hk : k < l.length) :
    ∃ b off, A = some ⟨b, off, none⟩ ∧ b < B ∧ ∀ j, j < m → w.cell? ⟨b, off + (k * m + j), none⟩ = (enc l[k])[j]? := by
  obtain ⟨A', c', e, _, hx⟩ := h
  cases e
  have hl : 0 < (cellsOf enc l).length := by
    rw [cells_len hm]
    exact Nat.mul_pos (by omega) hm0
  obtain ⟨b, off, ea, hb, hj⟩ := hx hl
  refine ⟨b, off, ea, hb, fun j hjm => ?_⟩
  have h1 := cells_at hm l k j hk hjm
  have h2 : ((enc l[k])[j]?) = some ((enc l[k])[j]'(by rw [hm]; exact hjm)) := List.getElem?_eq_getElem (by rw [hm]; exact hjm)
  rw [h2]
  exact hj _ _ (h1.trans h2)

/-- An own row reads so. -/
theorem rd_own {w : World} {base size : Nat} {e : TypeId} {v : Value} {n : Nat} {xs : List Value} (h : w.ownsRow base e size v n xs) : Rd w w.heap.size v n xs := by
  obtain ⟨hl, h0⟩ := h
  rcases h0 with ⟨rfl, rfl⟩ | ⟨g, cap, cur, rfl, hb, hg, hn, hc, hs, ht⟩
  · exact ⟨none, 0, rfl, ⟨Nat.le_refl _, Nat.zero_le _, fun _ => rfl⟩, fun h => by rw [hl] at h; omega⟩
  · refine ⟨_, cap, rfl, ⟨hn, hc, fun h => by cases h⟩, fun _ => ⟨g, 0, rfl, (Array.getElem?_eq_some_iff.1 hg).1, fun j u hu => ?_⟩⟩
    rw [cell_of_row w g (0 + j) cur e (0, 0) hg]
    rw [← ht, List.getElem?_take] at hu
    split at hu
    · simpa using hu
    · cases hu

/-- A store of the cells of one element behind the first ones. -/
theorem set_at (xs : List Value) (u v : Value) (r : List Value) : (xs ++ u :: r).toArray.setIfInBounds xs.length v = (xs ++ v :: r).toArray := by
  simp
end

theorem set2 {β : Type} (p : List β) (v0 v1 u0 u1 : β) (q : List β) (n : Nat) (h : p.length = n) : ((p ++ v0 :: v1 :: q).set n u0).set (n + 1) u1 = p ++ u0 :: u1 :: q := by
  subst h
  simp
theorem set3 {β : Type} (p : List β) (v0 v1 v2 u0 u1 u2 : β) (q : List β) (n : Nat) (h : p.length = n) : (((p ++ v0 :: v1 :: v2 :: q).set n u0).set (n + 1) u1).set (n + 2) u2 = p ++ u0 :: u1 :: u2 :: q := by
  subst h
  simp
/-- A slice of the call's own that bears the list l, or an empty one of whatever address. -/
def OwnE {α : Type} (enc : α → List Value) (e : TypeId) (m : Nat) (w : World) (base : Nat) (v : Value) (l : List α) : Prop :=
  w.ownsRow base e m v l.length (cellsOf enc l) ∨ (l = [] ∧ ∃ A c, v = .slice A 0 c ∧ c ≤ maxLen ∧ (A = none → c = 0))
theorem OwnE.rd {α : Type} {enc : α → List Value} {e : TypeId} {m : Nat} {w : World} {base : Nat} {v : Value} {l : List α} (h : OwnE enc e m w base v l) : Rd w w.heap.size v l.length (cellsOf enc l) := by
  rcases h with h | ⟨rfl, A, c, rfl, hc, h0⟩
  · exact rd_own h
  · exact ⟨A, c, rfl, ⟨Nat.zero_le _, hc, h0⟩, fun h => absurd h (by simp [cellsOf])⟩
theorem OwnE.form {α : Type} {enc : α → List Value} {e : TypeId} {m : Nat} {w : World} {base : Nat} {v : Value} {l : List α} (h : OwnE enc e m w base v l) : ∃ A c, v = .slice A l.length c := by
  obtain ⟨A, c, e, _⟩ := h.rd
  exact ⟨A, c, e⟩
theorem OwnE.nil {α : Type} {enc : α → List Value} {e : TypeId} {m : Nat} {w : World} {base : Nat} {v : Value} {l : List α} (h : OwnE enc e m w base v l) (h0 : l = []) (w' : World) (base' : Nat) : OwnE enc e m w' base' v l := by
  obtain ⟨A, c, hv, ⟨_, hc, hn⟩, _⟩ := h.rd
  subst h0
  exact .inr ⟨rfl, A, c, hv, hc, hn⟩
/-- The block that a writer of v's elements writes. -/
def chg {α : Type} (v : Value) (l : List α) : Option Nat := if l.length = 0 then none else v.ownBlock
theorem OwnE.kept {α β : Type} {enc : α → List Value} {e : TypeId} {m : Nat} {w w' : World} {base : Nat} {v v' : Value} {l : List α} {l' : List β} (h : OwnE enc e m w base v l) (hg : w.grownBy w' (chg v' l')) (hne : v.ownBlock ≠ v'.ownBlock) : OwnE enc e m w' base v l := by
  by_cases h0 : l = []
  · exact h.nil h0 _ _
  · rcases h with h | ⟨h, _⟩
    · refine .inl (h.kept hg ?_)
      unfold chg
      split
      · cases hv : v.ownBlock <;> simp
      · exact .inr hne
    · exact absurd h h0
theorem grown_below {w w' : World} (hb : Below w.heap.size w w') (row : Option Nat) : w.grownBy w' row := ⟨hb.os, hb.tape, hb.output, hb.size, fun k hk _ => hb.block k hk⟩
theorem OwnE.below {α : Type} {enc : α → List Value} {e : TypeId} {m : Nat} {w w' : World} {base : Nat} {v : Value} {l : List α} (h : OwnE enc e m w base v l) (hb : Below w.heap.size w w') : OwnE enc e m w' base v l := by
  rcases h with h | h
  · exact .inl (h.kept (row := none) (grown_below hb _) (by cases hv : v.ownBlock <;> simp))
  · exact .inr h
theorem only_trans' {a b c : World} {r : Option Nat} (h : a.grownBy b r) (k : b.grownBy c r) : a.grownBy c r :=
  ⟨k.os.trans h.os, k.tape.trans h.tape, k.output.trans h.output, Nat.le_trans h.size k.size, fun i hi hne => (k.block i (Nat.lt_of_lt_of_le hi h.size) hne).trans (h.block i hi hne)⟩
/-- Where a slice that is not empty lies. -/
theorem OwnE.at {α : Type} {enc : α → List Value} {e : TypeId} {m : Nat} {w : World} {base : Nat} {v : Value} {l : List α} (h : OwnE enc e m w base v l) (h0 : l ≠ []) : ∃ g c, v = .slice (some ⟨g, 0, none⟩) l.length c ∧ base ≤ g ∧ g < w.heap.size := by
  rcases h with h | ⟨h, _⟩
  · rcases h.2 with ⟨_, h1⟩ | ⟨g, cap, cur, hv, hb, hg, _⟩
    · exact absurd (List.eq_nil_of_length_eq_zero h1) h0
    · exact ⟨g, cap, hv, hb, (Array.getElem?_eq_some_iff.1 hg).1⟩
  · exact absurd h h0
theorem OwnE.setBelow {α : Type} {enc : α → List Value} {e : TypeId} {m : Nat} {w : World} {base : Nat} {v : Value} {l : List α} (h : OwnE enc e m w base v l) {a : Addr} (ha : a.block < base) (u : Value) : OwnE enc e m (w.setCell a u) base v l := by
  rcases h with h | h
  · exact .inl (ownsRow_setCell_below h ha u)
  · exact .inr h
theorem OwnE.mono {α : Type} {enc : α → List Value} {e : TypeId} {m : Nat} {w : World} {base base' : Nat} {v : Value} {l : List α} (h : OwnE enc e m w base v l) (hb : base' ≤ base) : OwnE enc e m w base' v l := by
  rcases h with ⟨h1, h2⟩ | h
  · exact .inl ⟨h1, h2.imp id fun ⟨g, cap, cur, h1, h2, h3⟩ => ⟨g, cap, cur, h1, Nat.le_trans hb h2, h3⟩⟩
  · exact .inr h
theorem OwnE.drew {α : Type} {enc : α → List Value} {e : TypeId} {m : Nat} {w : World} {base : Nat} {v : Value} {l : List α} (h : OwnE enc e m w base v l) : OwnE enc e m w.drew base v l := h.below (Below.refl _ _).drew
theorem OwnE.alloc {α : Type} {enc : α → List Value} {e : TypeId} {m : Nat} {w : World} {base : Nat} {v : Value} {l : List α} (h : OwnE enc e m w base v l) (o : Obj) : OwnE enc e m (w.alloc o) base v l := h.below ((Below.refl _ _).alloc (Nat.le_refl _) o)

section
variable {α : Type} {l1 l2 : List α} {k : Nat} {x y : α}
theorem take_more (h : l1.take k = l2.take k) (h1 : k < l1.length) (h2 : k < l2.length) (hx : l1[k] = x) (hy : l2[k] = x) : l1.take (k + 1) = l2.take (k + 1) := by
  rw [List.take_succ_eq_append_getElem h1, List.take_succ_eq_append_getElem h2, h, hx, hy]
theorem list_ne [DecidableEq α] (h1 : k < l1.length) (h2 : k < l2.length) (hx : l1[k] = x) (hy : l2[k] = y) (h : ¬ x = y) : decide (l1 = l2) = false := by
  rw [decide_eq_false_iff_not]
  rintro rfl
  exact h (hx.symm.trans hy)
theorem list_same [DecidableEq α] (hl : l1.length = l2.length) (h : l1.take l1.length = l2.take l1.length) : decide (l1 = l2) = true := by
  rw [decide_eq_true_iff]
  rw [List.take_length, hl, List.take_length] at h
  exact h
theorem list_len_ne [DecidableEq α] (h : ¬ l1.length = l2.length) : decide (l1 = l2) = false := by
  rw [decide_eq_false_iff_not]
  rintro rfl
  exact h rfl
end
theorem bytes_eq {x y : ByteArray} (h : x.toList = y.toList) : x = y := by
  rw [ByteArray.toList_eq, ByteArray.toList_eq] at h
  exact ByteArray.ext (Array.ext' h)

theorem rd_of {α : Type} {enc : α → List Value} {m : Nat} (hm : ∀ x, (enc x).length = m) (hm0 : 0 < m) {w : World} {a : Addr} {n c : Nat} {l : List α} (_hl : l.length = n) (hn : n ≤ c) (hc : c ≤ maxLen)
    (hat : ∀ k (hk : k < l.length) j, j < m → w.cell? ((a.add (k * m)).add j) = (enc l[k])[j]?) : Rd w w.heap.size (.slice (some a) n c) n (cellsOf enc l) := by
  refine ⟨_, c, rfl, ⟨hn, hc, fun h => by cases h⟩, fun h0 => ?_⟩
  rw [cells_len hm] at h0
  have hl0 : 0 < l.length := by
    rcases Nat.eq_zero_or_pos l.length with h | h
    · rw [h] at h0; omega
    · exact h
  obtain ⟨b, off, spot⟩ := a
  have h00 := hat 0 hl0 0 hm0
  rw [List.getElem?_eq_getElem (by rw [hm]; exact hm0)] at h00
  have e0 : ((⟨b, off, spot⟩ : Addr).add (0 * m)).add 0 = ⟨b, off, spot⟩ := by unfold Addr.add; simp
  rw [e0] at h00
  obtain rfl : spot = none := World.cell?_spot h00
  refine ⟨b, off, rfl, block_lt_of_cell h00, fun j u hu => ?_⟩
  have hj : j < l.length * m := by
    have := (List.getElem?_eq_some_iff.1 hu).1
    rwa [cells_len hm] at this
  have hk : j / m < l.length := (Nat.div_lt_iff_lt_mul hm0).2 hj
  have hr : j % m < m := Nat.mod_lt _ hm0
  have e1 : j / m * m + j % m = j := by rw [Nat.mul_comm]; exact Nat.div_add_mod j m
  have h1 := hat (j / m) hk (j % m) hr
  have e2 : ((⟨b, off, none⟩ : Addr).add (j / m * m)).add (j % m) = ⟨b, off + j, none⟩ := by
    rw [Deep.add_add, e1]
    unfold Addr.add
    split <;> simp_all
  rw [e2, ← cells_at hm l (j / m) (j % m) hk hr, e1] at h1
  exact h1.trans hu

theorem below_none {w w' : World} (h : w.grownBy w' none) : Below w.heap.size w w' := ⟨h.os, h.tape, h.output, h.size, fun k hk => h.block k hk (by simp)⟩
theorem rd_nil (w : World) (B : Nat) : Rd w B (.slice none 0 0) 0 [] := ⟨none, 0, rfl, ⟨Nat.le_refl _, Nat.zero_le _, fun _ => rfl⟩, fun h => absurd h (by simp)⟩
theorem own_nil {α : Type} {enc : α → List Value} {e : TypeId} {m : Nat} (w : World) (base : Nat) : OwnE enc e m w base (.slice none 0 0) [] := .inl (World.ownsRow_nil _ _ _ _)

section
variable {α β : Type} {enc : α → List Value} {enc' : β → List Value} {e e' : TypeId} {m m' : Nat} {W1 w w' : World} {base base' bx : Nat} {v v' : Value} {l : List α} {l' : List β}
theorem own_ne (h : OwnE enc e m W1 base v l) (h' : OwnE enc' e' m' w base' v' l') (hb : W1.heap.size ≤ base') (hl : l ≠ []) (hl' : l' ≠ []) : v.ownBlock ≠ v'.ownBlock := by
  obtain ⟨g, c, rfl, _, hg⟩ := h.at hl
  obtain ⟨g', c', rfl, hg', _⟩ := h'.at hl'
  simp only [Value.ownBlock, ne_eq, Option.some.injEq]
  omega
theorem OwnE.apart (h : OwnE enc e m w base v l) (hg : w.grownBy w' (chg v' l')) (hne : l ≠ [] → l' ≠ [] → v.ownBlock ≠ v'.ownBlock) : OwnE enc e m w' base v l := by
  by_cases h0 : l = []
  · exact h.nil h0 _ _
  · by_cases h1 : l' = []
    · subst h1
      exact h.below (below_none hg)
    · exact h.kept hg (hne h0 h1)
theorem chg_ge (h : OwnE enc e m W1 base v l) {l2 : List β} (hl : l2.length = l.length) : ∀ k, chg v l2 = some k → base ≤ k ∧ k < W1.heap.size := fun k hk => by
  unfold chg at hk
  split at hk
  · cases hk
  · rename_i h0
    obtain ⟨g, c, rfl, h1, h2⟩ := h.at (fun h => h0 (by rw [hl, h]; rfl))
    simp only [Value.ownBlock, Option.some.injEq] at hk
    omega
theorem box_kept (h : OwnE enc e m W1 base v l) {l2 : List β} (hl : l2.length = l.length) (hg : w.grownBy w' (chg v l2)) (hb : bx < base ∨ W1.heap.size ≤ bx) (hlt : bx < w.heap.size) : w'.heap[bx]? = w.heap[bx]? :=
  hg.block bx hlt (fun hk => by have := chg_ge h hl bx hk.symm; omega)
end

theorem run_make_rec {P : Program} (t e : TypeId) (z : Value) (m bytes : Nat) (ht : P.underlying t = some (.slice e)) (hinfo : (P.info? e).map (fun i => (i.zero, i.size, i.bytes)) = some (some z, m, bytes)) (n : Nat) (hb : bytes * n ≤ 281474976710656) (h63 : n ≤ 9223372036854775807) (w : World) :
    (Instr.makeSlice t (.int .i64 (n : Int)) (.int .i64 (n : Int))).run P w = .ok (.slice (some ⟨w.heap.size, 0, none⟩) n n) (w.alloc (.cells (madeCells z.cells (n * m)) e)) := by
  obtain ⟨i, hi, hzz⟩ := Option.map_eq_some_iff.1 hinfo
  simp only [Prod.mk.injEq] at hzz
  obtain ⟨hz, hs, hbb⟩ := hzz
  have hb' : (i.bytes : Int) * (n : Int) ≤ 281474976710656 := by
    have h : ((bytes * n : Nat) : Int) ≤ 281474976710656 := by omega
    rw [hbb]
    rwa [Int.natCast_mul] at h
  have hr := run_make (P := P) w t e i z ht hi hz .i64 .i64 n n (by omega) (Int.le_refl _) hb' (by omega)
  simp only [Int.toNat_natCast, hs] at hr
  exact hr
end Go.Proofs.Yteaniiponikpjaa
