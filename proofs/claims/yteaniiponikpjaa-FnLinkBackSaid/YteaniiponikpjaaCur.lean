/-
  The drawing cursor: what is known of it, and the contracts of the functions that only draw numbers.
-/
import Derived.Test.YteaniiponikpjaaNum
import Derived.Test.YteaniiponikpjaaBits
import Derived.Deep.QuietTactic
import Derived.BigQuiet
import Derived.LoopTactic
namespace Go.Proofs.Yteaniiponikpjaa
open Go.RowKit

def I64 (x : Int) : Prop := -9223372036854775808 ≤ x ∧ x ≤ 9223372036854775807

/-- A slice of bytes that lies below block B. -/
def Byts (w : World) (B : Nat) (A : Option Addr) (n : Nat) : Prop :=
  0 < n → ∃ b off, A = some ⟨b, off, none⟩ ∧ b < B ∧ ∀ k, k < n → ∃ u : Int, 0 ≤ u ∧ u ≤ 255 ∧ w.cell? ⟨b, off + k, none⟩ = some (.int .u8 u)

/-- The cursor in block g: its bytes lie below B, g does not. -/
structure CurAt (w : World) (B g : Nat) (A : Option Addr) (n c i : Nat) (h : Int) : Prop where
  low : B ≤ g
  blk : w.heap[g]? = some (.cells #[.slice A n c, .int .i64 i, .int .i64 h] 104 (0, 0))
  len : n ≤ maxLen
  pos : i ≤ n
  byt : Byts w B A n

def Cur (w : World) (B g : Nat) : Prop := ∃ A n c i h, CurAt w B g A n c i h

section
variable {w w' : World} {B g : Nat} {A : Option Addr} {n c i : Nat} {h : Int}
theorem CurAt.lt (H : CurAt w B g A n c i h) : g < w.heap.size := by
  rcases Nat.lt_or_ge g w.heap.size with hlt | hge
  · exact hlt
  · have := H.blk; rw [Array.getElem?_eq_none hge] at this; cases this
theorem CurAt.cells (H : CurAt w B g A n c i h) : w.cell? ⟨g, 0, none⟩ = some (.slice A n c) ∧ w.cell? ⟨g, 1, none⟩ = some (.int .i64 i) ∧ w.cell? ⟨g, 2, none⟩ = some (.int .i64 h) :=
  ⟨cell_of_row w g 0 _ _ (0, 0) H.blk, cell_of_row w g 1 _ _ (0, 0) H.blk, cell_of_row w g 2 _ _ (0, 0) H.blk⟩
theorem CurAt.free (H : CurAt w B g A n c i h) (o : Nat) : w.frozen? ⟨g, o, none⟩ = false := by
  have := H.blk
  simp [World.frozen?, this]
theorem CurAt.drew (H : CurAt w B g A n c i h) : CurAt w.drew B g A n c i h := ⟨H.low, H.blk, H.len, H.pos, H.byt⟩
theorem CurAt.drewN (H : CurAt w B g A n c i h) (k : Nat) : CurAt (w.drewN k) B g A n c i h := ⟨H.low, H.blk, H.len, H.pos, H.byt⟩
theorem Byts.keep (H : Byts w B A n) (hk : ∀ b, b < B → w'.heap[b]? = w.heap[b]?) : Byts w' B A n := fun hn => by
  obtain ⟨b, off, e, hb, hc⟩ := H hn
  refine ⟨b, off, e, hb, fun k hk' => ?_⟩
  obtain ⟨u, h0, h1, hu⟩ := hc k hk'
  exact ⟨u, h0, h1, (World.cell?_of_block (hk b hb)).trans hu⟩
theorem CurAt.set (H : CurAt w B g A n c i h) (o : Nat) (u : Value) : (w.setCell ⟨g, o, none⟩ u).heap[g]? = some (.cells (#[.slice A n c, .int .i64 i, .int .i64 h].setIfInBounds o u) 104 (0, 0)) ∧ Byts (w.setCell ⟨g, o, none⟩ u) B A n := by
  refine ⟨?_, H.byt.keep fun b hb => ?_⟩
  · have := H.blk
    simp [World.setCell, Array.getElem?_modify, this]
  · exact Below.heap_setCell w _ u b (by have := H.low; show b ≠ g; omega)
theorem CurAt.setH (H : CurAt w B g A n c i h) (h' : Int) : CurAt (w.setCell ⟨g, 2, none⟩ (.int .i64 h')) B g A n c i h' := by
  obtain ⟨h1, h2⟩ := H.set 2 (.int .i64 h')
  exact ⟨H.low, by simpa using h1, H.len, H.pos, h2⟩
theorem CurAt.setI (H : CurAt w B g A n c i h) (hi : i < n) : CurAt (w.setCell ⟨g, 1, none⟩ (.int .i64 ((i : Int) + 1))) B g A n c (i + 1) h := by
  obtain ⟨h1, h2⟩ := H.set 1 (.int .i64 ((i : Int) + 1))
  exact ⟨H.low, by simpa using h1, H.len, by omega, h2⟩
end

/-- Only block g, and what is new, has turned. -/
theorem only_trans {a b c : World} {g : Nat} (h : a.grownBy b (some g)) (k : b.grownBy c (some g)) : a.grownBy c (some g) :=
  ⟨k.os.trans h.os, k.tape.trans h.tape, k.output.trans h.output, Nat.le_trans h.size k.size, fun i hi hne => (k.block i (Nat.lt_of_lt_of_le hi h.size) hne).trans (h.block i hi hne)⟩
theorem only_drew {a w : World} {g : Option Nat} (h : a.grownBy w g) : a.grownBy w.drew g := ⟨h.os, h.tape, h.output, h.size, h.block⟩
theorem only_drewN {a w : World} {g : Option Nat} (h : a.grownBy w g) (n : Nat) : a.grownBy (w.drewN n) g := ⟨h.os, h.tape, h.output, h.size, h.block⟩
theorem only_alloc {a w : World} {g : Option Nat} (h : a.grownBy w g) (o : Obj) : a.grownBy (w.alloc o) g :=
  ⟨h.os, h.tape, h.output, Nat.le_trans h.size (by simp), fun i hi hne => (Below.heap_alloc w o i (Nat.lt_of_lt_of_le hi h.size)).trans (h.block i hi hne)⟩
theorem only_set {a w : World} {g : Nat} (h : a.grownBy w (some g)) (o : Nat) (u : Value) : a.grownBy (w.setCell ⟨g, o, none⟩ u) (some g) :=
  ⟨h.os, h.tape, h.output, by simpa [World.setCell] using h.size, fun i hi hne => (Below.heap_setCell w ⟨g, o, none⟩ u i (by rintro rfl; exact hne rfl)).trans (h.block i hi hne)⟩
theorem only_setNew {a w : World} {g : Nat} (h : a.grownBy w (some g)) {p : Addr} (hp : a.heap.size ≤ p.block) (u : Value) : a.grownBy (w.setCell p u) (some g) :=
  ⟨h.os, h.tape, h.output, by simpa [World.setCell] using h.size, fun i hi hne => (Below.heap_setCell w p u i (by omega)).trans (h.block i hi hne)⟩
theorem only_below {a w : World} {g B : Nat} (h : a.grownBy w (some g)) (hB : B ≤ a.heap.size) (hg : B ≤ g) : Below B a w :=
  (Below.refl B a).grown h hB (fun k hk => by injection hk with hk; omega)
theorem Cur.alloc {w : World} {B g : Nat} (H : Cur w B g) (o : Obj) : Cur (w.alloc o) B g := by
  obtain ⟨A, n, c, i, h, H⟩ := H
  refine ⟨A, n, c, i, h, H.low, (Below.heap_alloc w o g H.lt).trans H.blk, H.len, H.pos, H.byt.keep fun b hb => Below.heap_alloc w o b ?_⟩
  have := H.lt
  have := H.low
  omega
theorem Cur.drew {w : World} {B g : Nat} (H : Cur w B g) : Cur w.drew B g := by
  obtain ⟨A, n, c, i, h, H⟩ := H
  exact ⟨A, n, c, i, h, H.drew⟩
theorem Cur.drewN {w : World} {B g : Nat} (H : Cur w B g) (k : Nat) : Cur (w.drewN k) B g := by
  obtain ⟨A, n, c, i, h, H⟩ := H
  exact ⟨A, n, c, i, h, H.drewN k⟩
theorem Cur.lt {w : World} {B g : Nat} (H : Cur w B g) : g < w.heap.size := by
  obtain ⟨A, n, c, i, h, H⟩ := H
  exact H.lt
theorem Cur.low {w : World} {B g : Nat} (H : Cur w B g) : B ≤ g := by
  obtain ⟨A, n, c, i, h, H⟩ := H
  exact H.low
/-- A store into another block, which lies above B. -/
theorem Cur.setOther {w : World} {B g : Nat} (H : Cur w B g) {p : Addr} (hg : g ≠ p.block) (hB : B ≤ p.block) (u : Value) : Cur (w.setCell p u) B g := by
  obtain ⟨A, n, c, i, h, H⟩ := H
  exact ⟨A, n, c, i, h, H.low, (Below.heap_setCell w p u g hg).trans H.blk, H.len, H.pos, H.byt.keep fun b hb => Below.heap_setCell w p u b (by omega)⟩

/-- A draw that gives a number from lo to hi. -/
def DrewInt (w : World) (B g : Nat) (lo hi : Int) (e : Ending) (w' : World) : Prop :=
  ∃ x : Int, e = .returned (.int .i64 x) ∧ (lo ≤ x ∧ x ≤ hi) ∧ Cur w' B g ∧ w.grownBy w' (some g)
def DrewBool (w : World) (B g : Nat) (e : Ending) (w' : World) : Prop :=
  ∃ x : Bool, e = .returned (.bool x) ∧ Cur w' B g ∧ w.grownBy w' (some g)

set_option maxHeartbeats 1000000 in
theorem l1Byte_any {w : World} {B g : Nat} (hcur : Cur w B g) :
    Calls Try.prog 86 #[.pointer (some ⟨g, 0, none⟩)] w (DrewInt w B g 0 255) := by
  obtain ⟨A, n, c, i, h, H⟩ := hcur
  obtain ⟨c0, c1, c2⟩ := H.cells
  have f1 := H.free 1
  have f2 := H.free 2
  have a255 := and_255
  have hlen := H.len
  unfold maxLen at hlen
  have hpos := H.pos
  by_cases hlt : i < n
  · obtain ⟨b, off, rfl, hb, hbyt⟩ := H.byt (by omega)
    obtain ⟨u, hu0, hu1, hu⟩ := hbyt i hlt
    have hlow := H.low
    have hne : ¬ b = g := by omega
    have hne' : ¬ g = b := by omega
    go_enter Try.func86, Try.ntmps86
    go_wp2
    go_quiet (fail)
    go_wp2
    go_quiet (fail)
    go_wp2
    go_quiet (fail)
    go_wp2
    go_ret
    refine ⟨_, rfl, ⟨?_, ?_⟩, ⟨_, _, _, _, _, ((H.setH _).drewN _).setI hlt⟩, only_set (only_drewN (only_set (World.grownBy.refl w _) _ _) _) _ _⟩
    · exact Int.emod_nonneg _ (by omega)
    · exact Int.le_of_lt_add_one (Int.emod_lt_of_pos _ (by omega))
  · have hle : ¬ i < n := hlt
    go_enter Try.func86, Try.ntmps86
    go_wp2
    go_quiet (fail)
    go_wp2
    go_quiet (fail)
    go_wp2
    go_ret
    refine ⟨_, rfl, ⟨?_, ?_⟩, ⟨_, _, _, _, _, ((H.setH _).drewN _).drewN _⟩, only_drewN (only_drewN (only_set (World.grownBy.refl w _) _ _) _) _⟩
    · exact Int.emod_nonneg _ (by omega)
    · exact Int.le_of_lt_add_one (Int.emod_lt_of_pos _ (by omega))

theorem l1Below_any {w : World} {B g : Nat} (hcur : Cur w B g) (n : Int) (h1 : 1 ≤ n) (h2 : n ≤ 4294967296) :
    Calls Try.prog 60 #[.pointer (some ⟨g, 0, none⟩), .int .i64 n] w (DrewInt w B g 0 (n - 1)) := by
  by_cases h : n ≤ 256
  · go_enter Try.func60, Try.ntmps60
    go_wp2_with (go_at_call 86; refine (l1Byte_any (by assumption)).mono ?_; rintro e w1 ⟨x, rfl, ⟨hx0, hx1⟩, hc1, ho1⟩)
    go_ret
    exact ⟨_, rfl, ⟨Int.emod_nonneg _ (by omega), Int.le_sub_one_of_lt (Int.emod_lt_of_pos _ (by omega))⟩, hc1, ho1⟩
  · go_enter Try.func60, Try.ntmps60
    go_wp2_with fail
    refine (l1Byte_any (by assumption)).mono ?_
    rintro e w1 ⟨x1, rfl, ⟨hx0, hx1⟩, hc1, ho1⟩
    go_wp2_with fail
    refine (l1Byte_any hc1).mono ?_
    rintro e w2 ⟨x2, rfl, ⟨hx2, hx3⟩, hc2, ho2⟩
    go_wp2_with fail
    refine (l1Byte_any hc2).mono ?_
    rintro e w3 ⟨x3, rfl, ⟨hx4, hx5⟩, hc3, ho3⟩
    go_wp2_with fail
    refine (l1Byte_any hc3).mono ?_
    rintro e w4 ⟨x4, rfl, ⟨hx6, hx7⟩, hc4, ho4⟩
    go_wp2_with fail
    go_ret
    exact ⟨_, rfl, ⟨Int.emod_nonneg _ (by omega), Int.le_sub_one_of_lt (Int.emod_lt_of_pos _ (by omega))⟩, hc4, only_trans (only_trans (only_trans ho1 ho2) ho3) ho4⟩
theorem l1Once_any {w : World} {B g : Nat} (hcur : Cur w B g) (n : Int) (h1 : 1 ≤ n) (h2 : n ≤ 4294967296) :
    Calls Try.prog 61 #[.pointer (some ⟨g, 0, none⟩), .int .i64 n] w (DrewBool w B g) := by
  go_enter Try.func61, Try.ntmps61
  go_wp2_with (go_at_call 60; refine (l1Below_any (by assumption) n h1 h2).mono ?_; rintro e w1 ⟨x, rfl, ⟨hx0, hx1⟩, hc1, ho1⟩)
  go_ret
  exact ⟨_, rfl, hc1, ho1⟩
def allInts (lo hi : Int) (cs : Array Value) : Bool := cs.toList.all fun v => match v with | .int .i64 u => decide (lo ≤ u) && decide (u ≤ hi) | _ => false
theorem allInts_at {lo hi : Int} {cs : Array Value} (h : allInts lo hi cs = true) {k : Nat} (hk : k < cs.size) : ∃ u, cs[k]? = some (.int .i64 u) ∧ lo ≤ u ∧ u ≤ hi := by
  unfold allInts at h
  rw [List.all_eq_true] at h
  have hm : cs[k] ∈ cs.toList := by simp
  have := h _ hm
  split at this
  · rename_i u e
    simp at this
    exact ⟨u, by rw [Array.getElem?_eq_getElem hk, e], this.1, this.2⟩
  · cases this
theorem l1PickInt_any {w : World} {B g q n : Nat} {t : TypeId} {cs : Array Value} (lo hi : Int) (hcur : Cur w B g) (hq : w.heap[q]? = some (.cells cs t (0, 0))) (hne : g ≠ q) (hn : cs.size = n) (h1 : 1 ≤ n) (h2 : n ≤ 100) (ha : allInts lo hi cs = true) :
    Calls Try.prog 85 #[.pointer (some ⟨g, 0, none⟩), .slice (some ⟨q, 0, none⟩) n n] w (DrewInt w B g lo hi) := by
  go_enter Try.func85, Try.ntmps85
  go_wp2_with fail
  refine (l1Below_any (by assumption) _ (by omega) (by omega)).mono ?_
  rintro e w1 ⟨x, rfl, ⟨hx0, hx1⟩, hc1, ho1⟩
  obtain ⟨k, rfl⟩ := Int.eq_ofNat_of_zero_le hx0
  have hk : k < n := by omega
  obtain ⟨u, hu, hu0, hu1⟩ := allInts_at ha (k := k) (by omega)
  have hcell : w1.cell? ⟨q, k, none⟩ = some (.int .i64 u) := by
    have hlt : q < w.heap.size := by
      rcases Nat.lt_or_ge q w.heap.size with hlt | hge
      · exact hlt
      · rw [Array.getElem?_eq_none hge] at hq; cases hq
    have hq1 := (ho1.block q hlt (by intro e; injection e with e; exact hne e.symm)).trans hq
    rw [cell_of_row w1 q k cs t (0, 0) hq1, hu]
  clear hq ha hu
  go_wp2_with fail
  go_ret
  exact ⟨u, rfl, ⟨hu0, hu1⟩, hc1, ho1⟩
end Go.Proofs.Yteaniiponikpjaa
