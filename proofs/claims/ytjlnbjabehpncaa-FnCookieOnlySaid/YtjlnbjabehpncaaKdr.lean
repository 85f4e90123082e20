/-
  The draws of Keys.
-/
import Derived.Test.YtjlnbjabehpncaaMdr
import Derived.Test.YtjlnbjabehpncaaKcp
import Derived.Test.YtjlnbjabehpncaaDrawT
namespace Go.Proofs.Ytjlnbjabehpncaa
set_option maxRecDepth 100000
open Go.RowKit

/-- Keys that were drawn. -/
def DrewKeys (w : World) (B g : Nat) (e : Ending) (w' : World) : Prop :=
  ∃ (x : RKeys) (v1 v2 : Value), e = .returned (vK x v1 v2) ∧ OwnMacRow w' w.heap.size v1 x.now.rs ∧ OwnMacRow w' w.heap.size v2 x.bef.rs ∧ (x.now.rs.length ≤ 5 ∧ x.bef.rs.length ≤ 5) ∧ ((∀ y ∈ x.now.rs, I64 y.2 ∧ y.1.size ≤ 2) ∧ (∀ y ∈ x.bef.rs, I64 y.2 ∧ y.1.size ≤ 2)) ∧ (-1 ≤ x.ep ∧ x.ep ≤ 4294967296) ∧ Cur w' B g ∧ w.grownBy w' (some g)
theorem OwnE.setNew {α : Type} {enc : α → List Value} {e : TypeId} {m : Nat} {w0 w : World} {base : Nat} {v : Value} {l : List α} (h0 : OwnE enc e m w0 base v l) {a : Addr} (ha : w0.heap.size ≤ a.block) (h : OwnE enc e m w base v l) (u : Value) : OwnE enc e m (w.setCell a u) base v l :=
  h.setOther (fun hn hv => by have := h0.blk _ hn hv; omega) u
theorem rd_noneM (w : World) (q : Nat) : RdMacRow w (.slice (some ⟨q, 0, none⟩) 0 0) [] :=
  ⟨some ⟨q, 0, none⟩, 0, rfl, ⟨Nat.le_refl _, by unfold maxLen; omega, fun h => by cases h⟩, fun h => absurd h (by simp [cellsOf])⟩
theorem l1Pick_at {w : World} {B g n q : Nat} {t : TypeId} {cs : Array Value} (lo hi : Int) (hcur : Cur w B g) (hq : q = w.heap.size) (hn : cs.size = n) (h1 : 1 ≤ n) (h2 : n ≤ 100) (ha : allInts lo hi cs = true) :
    Calls Try.prog 48 #[.pointer (some ⟨g, 0, none⟩), .slice (some ⟨q, 0, none⟩) n n] (w.alloc (.cells cs t)) (DrewInt (w.alloc (.cells cs t)) B g lo hi) := by
  subst hq
  exact l1Pick_new lo hi hcur hn h1 h2 ha
set_option maxHeartbeats 8000000 in
theorem l13Keys_any {w : World} {B g : Nat} (hcur : Cur w B g) :
    Calls Try.prog 72 #[.pointer (some ⟨g, 0, none⟩)] w (DrewKeys w B g) := by
  have hlt := hcur.lt
  have hlow := hcur.low
  have u0 : uI 0#64 = 0 := by first | rfl | simp [uI]
  go_enter Try.func72, Try.ntmps72
  go_wp2_with fail
  refine (l1Pick_at (B := B) (0) (4294967295) (by repeat (first | with_reducible assumption | with_reducible refine Cur.alloc ?_ _ | with_reducible refine Cur.drew ?_ | with_reducible refine Cur.setOther ?_ (by first | omega | (simp; done) | (simp; omega)) (by first | omega | (simp; done) | (simp; omega)) _)) (by simp) (by rfl) (by omega) (by omega) (by kernel_rfl)).mono ?_
  rintro e w2 ⟨x2, rfl, ⟨hl2, hh2⟩, hc2, ho2⟩
  have hlt2 := hc2.lt
  have hz2 := ho2.size
  simp at hz2
  have HR2 : Hid (w2.heap[w.heap.size]? = some (.cells #[.int .i64 0, .bool false, .int .u64 0, .int .u64 0, .slice none 0 0, .bool false, .int .u64 0, .int .u64 0, .slice none 0 0, .bool false] 29 (0, 0))) := Lib.hid ((grow ho2 (by simp; omega) (by omega)).trans (by repeat (first | exact heap_new _ _ _ (by first | rfl | (simp; done) | (simp; omega)) | refine (Below.heap_alloc _ _ _ (by first | omega | (simp; done) | (simp; omega))).trans ?_)))
  have hW2 : w.grownBy w2 (some g) := (by repeat (first | with_reducible assumption | with_reducible exact World.grownBy.refl _ _ | with_reducible refine only_alloc ?_ _ | with_reducible refine only_drew ?_ | with_reducible refine only_drewN ?_ _ | with_reducible refine only_setNew ?_ (by first | omega | (simp; done) | (simp; omega)) _ | (with_reducible refine only_trans ?_ (by with_reducible assumption))))
  clear ho2
  go_wp2_with fail
  refine (l10Key_any hc2).mono ?_
  rintro e w3 ⟨k3, rfl, hc3, ho3⟩
  go_wp2_with fail
  refine (l10Key_any hc3).mono ?_
  rintro e w4 ⟨l3, rfl, hc4, ho4⟩
  go_wp2_with fail
  refine (sKeyMac_any _ _ _).mono ?_
  rintro e w5 ⟨rfl, hb5⟩
  have hz3 := ho3.size
  have hz4 := ho4.size
  have hz5 := hb5.size
  have hc5 : Cur w5 B g := hc4.grown (grown_below hb5 none) (fun _ h => by cases h)
  have ho5 : w4.grownBy w5 (some g) := grown_below hb5 _
  have hW5 : w.grownBy w5 (some g) := (by repeat (first | with_reducible assumption | with_reducible exact World.grownBy.refl _ _ | with_reducible refine only_alloc ?_ _ | with_reducible refine only_drew ?_ | with_reducible refine only_drewN ?_ _ | with_reducible refine only_setNew ?_ (by first | omega | (simp; done) | (simp; omega)) _ | (with_reducible refine only_trans ?_ (by with_reducible assumption))))
  have hlt5 := hc5.lt
  have HR5 : Hid (w5.heap[w.heap.size]? = some (.cells #[.int .i64 0, .bool false, .int .u64 0, .int .u64 0, .slice none 0 0, .bool false, .int .u64 0, .int .u64 0, .slice none 0 0, .bool false] 29 (0, 0))) := Lib.hid ((hb5.block _ (by omega)).trans ((grow ho4 (by omega) (by omega)).trans ((grow ho3 (by omega) (by omega)).trans HR2.out)))
  clear ho3 ho4 ho5 hb5 HR2 hc2 hc3 hc4 hcur
  have hcW : Cur (w5.alloc (.cells #[.int .i64 x2, .bool false, .int .u64 (uI k3), .int .u64 (uI l3), .slice none 0 0, .bool false, .int .u64 0, .int .u64 0, .slice none 0 0, .bool false] 29)) B g := (by repeat (first | with_reducible assumption | with_reducible refine Cur.alloc ?_ _ | with_reducible refine Cur.drew ?_ | with_reducible refine Cur.setOther ?_ (by first | omega | (simp; done) | (simp; omega)) (by first | omega | (simp; done) | (simp; omega)) _))
  have hgW : w.grownBy (w5.alloc (.cells #[.int .i64 x2, .bool false, .int .u64 (uI k3), .int .u64 (uI l3), .slice none 0 0, .bool false, .int .u64 0, .int .u64 0, .slice none 0 0, .bool false] 29)) (some g) := (by repeat (first | with_reducible assumption | with_reducible exact World.grownBy.refl _ _ | with_reducible refine only_alloc ?_ _ | with_reducible refine only_drew ?_ | with_reducible refine only_drewN ?_ _ | with_reducible refine only_setNew ?_ (by first | omega | (simp; done) | (simp; omega)) _ | (with_reducible refine only_trans ?_ (by with_reducible assumption))))
  have HRW : Hid ((w5.alloc (.cells #[.int .i64 x2, .bool false, .int .u64 (uI k3), .int .u64 (uI l3), .slice none 0 0, .bool false, .int .u64 0, .int .u64 0, .slice none 0 0, .bool false] 29)).heap[w.heap.size]? = some (.cells #[.int .i64 0, .bool false, .int .u64 0, .int .u64 0, .slice none 0 0, .bool false, .int .u64 0, .int .u64 0, .slice none 0 0, .bool false] 29 (0, 0))) := Lib.hid (by repeat (first | (with_reducible apply heap_setCell_same) | (with_reducible apply drew_row) | (with_reducible apply drewN_row) | (with_reducible exact HR5.out) | (with_reducible refine (heap_setCell_other _ _ _ _ (by first | omega | (simp; done) | (simp; omega))).trans ?_) | (with_reducible refine (Below.heap_alloc _ _ _ (by first | omega | (simp; done) | (simp; omega))).trans ?_)))
  have HBW : Hid ((w5.alloc (.cells #[.int .i64 x2, .bool false, .int .u64 (uI k3), .int .u64 (uI l3), .slice none 0 0, .bool false, .int .u64 0, .int .u64 0, .slice none 0 0, .bool false] 29)).heap[w5.heap.size]? = some (.cells #[.int .i64 x2, .bool false, .int .u64 (uI k3), .int .u64 (uI l3), .slice none 0 0, .bool false, .int .u64 0, .int .u64 0, .slice none 0 0, .bool false] 29 (0, 0))) := Lib.hid (heap_alloc_new _ _)
  clear HR5
  have hlB := HBW.out
  have r0_hlB := cell_of_row _ _ 0 _ _ _ hlB
  have r1_hlB := cell_of_row _ _ 1 _ _ _ hlB
  have r2_hlB := cell_of_row _ _ 2 _ _ _ hlB
  have r3_hlB := cell_of_row _ _ 3 _ _ _ hlB
  have r4_hlB := cell_of_row _ _ 4 _ _ _ hlB
  have r5_hlB := cell_of_row _ _ 5 _ _ _ hlB
  have r6_hlB := cell_of_row _ _ 6 _ _ _ hlB
  have r7_hlB := cell_of_row _ _ 7 _ _ _ hlB
  have r8_hlB := cell_of_row _ _ 8 _ _ _ hlB
  have r9_hlB := cell_of_row _ _ 9 _ _ _ hlB
  have f0_hlB := frozen_of_row _ _ 0 _ _ hlB
  have f1_hlB := frozen_of_row _ _ 1 _ _ hlB
  have f2_hlB := frozen_of_row _ _ 2 _ _ hlB
  have f3_hlB := frozen_of_row _ _ 3 _ _ hlB
  have f4_hlB := frozen_of_row _ _ 4 _ _ hlB
  have f5_hlB := frozen_of_row _ _ 5 _ _ hlB
  have f6_hlB := frozen_of_row _ _ 6 _ _ hlB
  have f7_hlB := frozen_of_row _ _ 7 _ _ hlB
  have f8_hlB := frozen_of_row _ _ 8 _ _ hlB
  have f9_hlB := frozen_of_row _ _ 9 _ _ hlB
  simp at r0_hlB r1_hlB r2_hlB r3_hlB r4_hlB r5_hlB r6_hlB r7_hlB r8_hlB r9_hlB
  clear hlB
  by_cases hp : (0 : Int) < x2
  · go_wp2_with fail
    refine (l1Once_any (B := B) hcW 2 (by omega) (by omega)).mono ?_
    rintro e w6 ⟨x6, rfl, hc6, ho6⟩
    have hlt6 := hc6.lt
    have hz6 := ho6.size
    simp at hz6
    have hW6 : w.grownBy w6 (some g) := only_trans hgW ho6
    clear r0_hlB f0_hlB r1_hlB f1_hlB r2_hlB f2_hlB r3_hlB f3_hlB r4_hlB f4_hlB r5_hlB f5_hlB r6_hlB f6_hlB r7_hlB f7_hlB r8_hlB f8_hlB r9_hlB f9_hlB
    have HR6 : Hid (w6.heap[w.heap.size]? = some (.cells #[.int .i64 0, .bool false, .int .u64 0, .int .u64 0, .slice none 0 0, .bool false, .int .u64 0, .int .u64 0, .slice none 0 0, .bool false] 29 (0, 0))) := Lib.hid ((grow ho6 (by simp; omega) (by omega)).trans HRW.out)
    have HB6 : Hid (w6.heap[w5.heap.size]? = some (.cells #[.int .i64 x2, .bool false, .int .u64 (uI k3), .int .u64 (uI l3), .slice none 0 0, .bool false, .int .u64 0, .int .u64 0, .slice none 0 0, .bool false] 29 (0, 0))) := Lib.hid ((grow ho6 (by simp) (by omega)).trans HBW.out)
    clear HRW HBW hcW hgW ho6
    cases x6
    · have HRW := HR6
      have HBW := HB6
      have hcW := hc6
      have hgW := hW6
      clear HR6 HB6
      go_wp2_with fail
      refine (l1Once_any (B := B) hcW 3 (by omega) (by omega)).mono ?_
      rintro e w7 ⟨x7, rfl, hc7, ho7⟩
      have hlt7 := hc7.lt
      have hz7 := ho7.size
      have hW7 : w.grownBy w7 (some g) := only_trans hgW ho7
      have HR7 : Hid (w7.heap[w.heap.size]? = some (.cells #[.int .i64 0, .bool false, .int .u64 0, .int .u64 0, .slice none 0 0, .bool false, .int .u64 0, .int .u64 0, .slice none 0 0, .bool false] 29 (0, 0))) := Lib.hid ((grow ho7 (by omega) (by omega)).trans HRW.out)
      have HB7 : Hid (w7.heap[w5.heap.size]? = some (.cells #[.int .i64 x2, .bool false, .int .u64 (uI k3), .int .u64 (uI l3), .slice none 0 0, .bool false, .int .u64 0, .int .u64 0, .slice none 0 0, .bool false] 29 (0, 0))) := Lib.hid ((grow ho7 (by omega) (by omega)).trans HBW.out)
      clear HRW HBW hcW hgW ho7
      cases x7
      · have lHR7 := HR7.out
        have r0_lHR7 := cell_of_row _ _ 0 _ _ _ lHR7
        have r1_lHR7 := cell_of_row _ _ 1 _ _ _ lHR7
        have r2_lHR7 := cell_of_row _ _ 2 _ _ _ lHR7
        have r3_lHR7 := cell_of_row _ _ 3 _ _ _ lHR7
        have r4_lHR7 := cell_of_row _ _ 4 _ _ _ lHR7
        have r5_lHR7 := cell_of_row _ _ 5 _ _ _ lHR7
        have r6_lHR7 := cell_of_row _ _ 6 _ _ _ lHR7
        have r7_lHR7 := cell_of_row _ _ 7 _ _ _ lHR7
        have r8_lHR7 := cell_of_row _ _ 8 _ _ _ lHR7
        have r9_lHR7 := cell_of_row _ _ 9 _ _ _ lHR7
        have f0_lHR7 := frozen_of_row _ _ 0 _ _ lHR7
        have f1_lHR7 := frozen_of_row _ _ 1 _ _ lHR7
        have f2_lHR7 := frozen_of_row _ _ 2 _ _ lHR7
        have f3_lHR7 := frozen_of_row _ _ 3 _ _ lHR7
        have f4_lHR7 := frozen_of_row _ _ 4 _ _ lHR7
        have f5_lHR7 := frozen_of_row _ _ 5 _ _ lHR7
        have f6_lHR7 := frozen_of_row _ _ 6 _ _ lHR7
        have f7_lHR7 := frozen_of_row _ _ 7 _ _ lHR7
        have f8_lHR7 := frozen_of_row _ _ 8 _ _ lHR7
        have f9_lHR7 := frozen_of_row _ _ 9 _ _ lHR7
        simp at r0_lHR7 r1_lHR7 r2_lHR7 r3_lHR7 r4_lHR7 r5_lHR7 r6_lHR7 r7_lHR7 r8_lHR7 r9_lHR7
        clear lHR7
        have lHB7 := HB7.out
        have r0_lHB7 := cell_of_row _ _ 0 _ _ _ lHB7
        have r1_lHB7 := cell_of_row _ _ 1 _ _ _ lHB7
        have r2_lHB7 := cell_of_row _ _ 2 _ _ _ lHB7
        have r3_lHB7 := cell_of_row _ _ 3 _ _ _ lHB7
        have r4_lHB7 := cell_of_row _ _ 4 _ _ _ lHB7
        have r5_lHB7 := cell_of_row _ _ 5 _ _ _ lHB7
        have r6_lHB7 := cell_of_row _ _ 6 _ _ _ lHB7
        have r7_lHB7 := cell_of_row _ _ 7 _ _ _ lHB7
        have r8_lHB7 := cell_of_row _ _ 8 _ _ _ lHB7
        have r9_lHB7 := cell_of_row _ _ 9 _ _ _ lHB7
        have f0_lHB7 := frozen_of_row _ _ 0 _ _ lHB7
        have f1_lHB7 := frozen_of_row _ _ 1 _ _ lHB7
        have f2_lHB7 := frozen_of_row _ _ 2 _ _ lHB7
        have f3_lHB7 := frozen_of_row _ _ 3 _ _ lHB7
        have f4_lHB7 := frozen_of_row _ _ 4 _ _ lHB7
        have f5_lHB7 := frozen_of_row _ _ 5 _ _ lHB7
        have f6_lHB7 := frozen_of_row _ _ 6 _ _ lHB7
        have f7_lHB7 := frozen_of_row _ _ 7 _ _ lHB7
        have f8_lHB7 := frozen_of_row _ _ 8 _ _ lHB7
        have f9_lHB7 := frozen_of_row _ _ 9 _ _ lHB7
        simp at r0_lHB7 r1_lHB7 r2_lHB7 r3_lHB7 r4_lHB7 r5_lHB7 r6_lHB7 r7_lHB7 r8_lHB7 r9_lHB7
        clear lHB7
        go_wp2_with fail
        apply bodyPost_ret (results_cell_row (P := Try.prog) (fn := Try.f72) rfl _ _ _ 29 _ (0, 0) _ rfl _ Try.underlying29 rfl _) rfl
        rotate_left 2
        · repeat (first | (with_reducible apply heap_setCell_same) | (with_reducible apply drew_row) | (with_reducible apply drewN_row) | (with_reducible exact HR7.out) | (with_reducible refine (heap_setCell_other _ _ _ _ (by first | omega | (simp; done) | (simp; omega))).trans ?_) | (with_reducible refine (Below.heap_alloc _ _ _ (by first | omega | (simp; done) | (simp; omega))).trans ?_))
        · kernel_rfl
        exact ⟨⟨x2, ⟨false, k3, l3, []⟩, ⟨false, 0, 0, []⟩, false⟩, .slice none 0 0, .slice none 0 0, by first | (simp; done) | (simp; rfl), own_nil _ _, own_nil _ _, ⟨by first | omega | (simp; done) | assumption, by first | omega | (simp; done) | assumption⟩, ⟨by intro y hy; simp at hy, by intro y hy; simp at hy⟩, ⟨by dsimp only; omega, by dsimp only; omega⟩, (by repeat (first | with_reducible assumption | with_reducible refine Cur.alloc ?_ _ | with_reducible refine Cur.drew ?_ | with_reducible refine Cur.setOther ?_ (by first | omega | (simp; done) | (simp; omega)) (by first | omega | (simp; done) | (simp; omega)) _)), (by repeat (first | with_reducible assumption | with_reducible exact World.grownBy.refl _ _ | with_reducible refine only_alloc ?_ _ | with_reducible refine only_drew ?_ | with_reducible refine only_drewN ?_ _ | with_reducible refine only_setNew ?_ (by first | omega | (simp; done) | (simp; omega)) _ | (with_reducible refine only_trans ?_ (by with_reducible assumption))))⟩
      · go_wp2_with fail
        refine (sTableMac_any (.slice (some ⟨w7.heap.size, 0, none⟩) 0 0) [] (by simp) _ (rd_noneM _ _)).mono ?_
        rintro e w8 ⟨v8, rfl, hO8, hb8⟩
        obtain ⟨A8, c8, rfl⟩ := hO8.form
        have HO8 := Lib.hid hO8
        have hz8 := hb8.size
        simp at hz8
        have hc8 : Cur w8 B g := (hc7.alloc _).grown (grown_below hb8 none) (fun _ h => by cases h)
        have hW8 : w.grownBy w8 (some g) := only_trans (only_alloc hW7 _) (grown_below hb8 _)
        have HR8 : Hid (w8.heap[w.heap.size]? = some (.cells #[.int .i64 0, .bool false, .int .u64 0, .int .u64 0, .slice none 0 0, .bool false, .int .u64 0, .int .u64 0, .slice none 0 0, .bool false] 29 (0, 0))) := Lib.hid ((hb8.block _ (by simp; omega)).trans (by repeat (first | (with_reducible apply heap_setCell_same) | (with_reducible apply drew_row) | (with_reducible apply drewN_row) | (with_reducible exact HR7.out) | (with_reducible refine (heap_setCell_other _ _ _ _ (by first | omega | (simp; done) | (simp; omega))).trans ?_) | (with_reducible refine (Below.heap_alloc _ _ _ (by first | omega | (simp; done) | (simp; omega))).trans ?_))))
        have HB8 : Hid (w8.heap[w5.heap.size]? = some (.cells #[.int .i64 x2, .bool false, .int .u64 (uI k3), .int .u64 (uI l3), .slice none 0 0, .bool false, .int .u64 0, .int .u64 0, .slice none 0 0, .bool false] 29 (0, 0))) := Lib.hid ((hb8.block _ (by simp; omega)).trans (by repeat (first | (with_reducible apply heap_setCell_same) | (with_reducible apply drew_row) | (with_reducible apply drewN_row) | (with_reducible exact HB7.out) | (with_reducible refine (heap_setCell_other _ _ _ _ (by first | omega | (simp; done) | (simp; omega))).trans ?_) | (with_reducible refine (Below.heap_alloc _ _ _ (by first | omega | (simp; done) | (simp; omega))).trans ?_))))
        clear HR7 HB7 hb8 hO8
        have hlt8 := hc8.lt
        have lHR8 := HR8.out
        have r0_lHR8 := cell_of_row _ _ 0 _ _ _ lHR8
        have r1_lHR8 := cell_of_row _ _ 1 _ _ _ lHR8
        have r2_lHR8 := cell_of_row _ _ 2 _ _ _ lHR8
        have r3_lHR8 := cell_of_row _ _ 3 _ _ _ lHR8
        have r4_lHR8 := cell_of_row _ _ 4 _ _ _ lHR8
        have r5_lHR8 := cell_of_row _ _ 5 _ _ _ lHR8
        have r6_lHR8 := cell_of_row _ _ 6 _ _ _ lHR8
        have r7_lHR8 := cell_of_row _ _ 7 _ _ _ lHR8
        have r8_lHR8 := cell_of_row _ _ 8 _ _ _ lHR8
        have r9_lHR8 := cell_of_row _ _ 9 _ _ _ lHR8
        have f0_lHR8 := frozen_of_row _ _ 0 _ _ lHR8
        have f1_lHR8 := frozen_of_row _ _ 1 _ _ lHR8
        have f2_lHR8 := frozen_of_row _ _ 2 _ _ lHR8
        have f3_lHR8 := frozen_of_row _ _ 3 _ _ lHR8
        have f4_lHR8 := frozen_of_row _ _ 4 _ _ lHR8
        have f5_lHR8 := frozen_of_row _ _ 5 _ _ lHR8
        have f6_lHR8 := frozen_of_row _ _ 6 _ _ lHR8
        have f7_lHR8 := frozen_of_row _ _ 7 _ _ lHR8
        have f8_lHR8 := frozen_of_row _ _ 8 _ _ lHR8
        have f9_lHR8 := frozen_of_row _ _ 9 _ _ lHR8
        simp at r0_lHR8 r1_lHR8 r2_lHR8 r3_lHR8 r4_lHR8 r5_lHR8 r6_lHR8 r7_lHR8 r8_lHR8 r9_lHR8
        clear lHR8
        have lHB8 := HB8.out
        have r0_lHB8 := cell_of_row _ _ 0 _ _ _ lHB8
        have r1_lHB8 := cell_of_row _ _ 1 _ _ _ lHB8
        have r2_lHB8 := cell_of_row _ _ 2 _ _ _ lHB8
        have r3_lHB8 := cell_of_row _ _ 3 _ _ _ lHB8
        have r4_lHB8 := cell_of_row _ _ 4 _ _ _ lHB8
        have r5_lHB8 := cell_of_row _ _ 5 _ _ _ lHB8
        have r6_lHB8 := cell_of_row _ _ 6 _ _ _ lHB8
        have r7_lHB8 := cell_of_row _ _ 7 _ _ _ lHB8
        have r8_lHB8 := cell_of_row _ _ 8 _ _ _ lHB8
        have r9_lHB8 := cell_of_row _ _ 9 _ _ _ lHB8
        have f0_lHB8 := frozen_of_row _ _ 0 _ _ lHB8
        have f1_lHB8 := frozen_of_row _ _ 1 _ _ lHB8
        have f2_lHB8 := frozen_of_row _ _ 2 _ _ lHB8
        have f3_lHB8 := frozen_of_row _ _ 3 _ _ lHB8
        have f4_lHB8 := frozen_of_row _ _ 4 _ _ lHB8
        have f5_lHB8 := frozen_of_row _ _ 5 _ _ lHB8
        have f6_lHB8 := frozen_of_row _ _ 6 _ _ lHB8
        have f7_lHB8 := frozen_of_row _ _ 7 _ _ lHB8
        have f8_lHB8 := frozen_of_row _ _ 8 _ _ lHB8
        have f9_lHB8 := frozen_of_row _ _ 9 _ _ lHB8
        simp at r0_lHB8 r1_lHB8 r2_lHB8 r3_lHB8 r4_lHB8 r5_lHB8 r6_lHB8 r7_lHB8 r8_lHB8 r9_lHB8
        clear lHB8
        have u0 : uI 0#64 = 0 := by first | rfl | simp [uI]
        go_wp2_with fail
        apply bodyPost_ret (results_cell_row (P := Try.prog) (fn := Try.f72) rfl _ _ _ 29 _ (0, 0) _ rfl _ Try.underlying29 rfl _) rfl
        rotate_left 2
        · repeat (first | (with_reducible apply heap_setCell_same) | (with_reducible apply drew_row) | (with_reducible apply drewN_row) | (with_reducible exact HR8.out) | (with_reducible refine (heap_setCell_other _ _ _ _ (by first | omega | (simp; done) | (simp; omega))).trans ?_) | (with_reducible refine (Below.heap_alloc _ _ _ (by first | omega | (simp; done) | (simp; omega))).trans ?_))
        · kernel_rfl
        exact ⟨⟨x2, ⟨true, 0, 0, []⟩, ⟨false, 0, 0, []⟩, false⟩, .slice A8 0 c8, .slice none 0 0, by simp [u0], HO8.out.nil rfl _ _, own_nil _ _, ⟨by simp, by simp⟩, ⟨by intro y hy; simp at hy, by intro y hy; simp at hy⟩, ⟨by dsimp only; omega, by dsimp only; omega⟩, (by repeat (first | with_reducible assumption | with_reducible refine Cur.alloc ?_ _ | with_reducible refine Cur.drew ?_ | with_reducible refine Cur.setOther ?_ (by first | omega | (simp; done) | (simp; omega)) (by first | omega | (simp; done) | (simp; omega)) _)), (by repeat (first | with_reducible assumption | with_reducible exact World.grownBy.refl _ _ | with_reducible refine only_alloc ?_ _ | with_reducible refine only_drew ?_ | with_reducible refine only_drewN ?_ _ | with_reducible refine only_setNew ?_ (by first | omega | (simp; done) | (simp; omega)) _ | (with_reducible refine only_trans ?_ (by with_reducible assumption))))⟩
    · have lHB6 := HB6.out
      have r0_lHB6 := cell_of_row _ _ 0 _ _ _ lHB6
      have r1_lHB6 := cell_of_row _ _ 1 _ _ _ lHB6
      have r2_lHB6 := cell_of_row _ _ 2 _ _ _ lHB6
      have r3_lHB6 := cell_of_row _ _ 3 _ _ _ lHB6
      have r4_lHB6 := cell_of_row _ _ 4 _ _ _ lHB6
      have r5_lHB6 := cell_of_row _ _ 5 _ _ _ lHB6
      have r6_lHB6 := cell_of_row _ _ 6 _ _ _ lHB6
      have r7_lHB6 := cell_of_row _ _ 7 _ _ _ lHB6
      have r8_lHB6 := cell_of_row _ _ 8 _ _ _ lHB6
      have r9_lHB6 := cell_of_row _ _ 9 _ _ _ lHB6
      have f0_lHB6 := frozen_of_row _ _ 0 _ _ lHB6
      have f1_lHB6 := frozen_of_row _ _ 1 _ _ lHB6
      have f2_lHB6 := frozen_of_row _ _ 2 _ _ lHB6
      have f3_lHB6 := frozen_of_row _ _ 3 _ _ lHB6
      have f4_lHB6 := frozen_of_row _ _ 4 _ _ lHB6
      have f5_lHB6 := frozen_of_row _ _ 5 _ _ lHB6
      have f6_lHB6 := frozen_of_row _ _ 6 _ _ lHB6
      have f7_lHB6 := frozen_of_row _ _ 7 _ _ lHB6
      have f8_lHB6 := frozen_of_row _ _ 8 _ _ lHB6
      have f9_lHB6 := frozen_of_row _ _ 9 _ _ lHB6
      simp at r0_lHB6 r1_lHB6 r2_lHB6 r3_lHB6 r4_lHB6 r5_lHB6 r6_lHB6 r7_lHB6 r8_lHB6 r9_lHB6
      clear lHB6
      go_wp2_with fail
      have hcX : Cur (w6.setCell ⟨w5.heap.size, 9, none⟩ (.bool true)) B g := (by repeat (first | with_reducible assumption | with_reducible refine Cur.alloc ?_ _ | with_reducible refine Cur.drew ?_ | with_reducible refine Cur.setOther ?_ (by first | omega | (simp; done) | (simp; omega)) (by first | omega | (simp; done) | (simp; omega)) _))
      have hgX : w.grownBy (w6.setCell ⟨w5.heap.size, 9, none⟩ (.bool true)) (some g) := (by repeat (first | with_reducible assumption | with_reducible exact World.grownBy.refl _ _ | with_reducible refine only_alloc ?_ _ | with_reducible refine only_drew ?_ | with_reducible refine only_drewN ?_ _ | with_reducible refine only_setNew ?_ (by first | omega | (simp; done) | (simp; omega)) _ | (with_reducible refine only_trans ?_ (by with_reducible assumption))))
      have HRX : Hid ((w6.setCell ⟨w5.heap.size, 9, none⟩ (.bool true)).heap[w.heap.size]? = some (.cells #[.int .i64 0, .bool false, .int .u64 0, .int .u64 0, .slice none 0 0, .bool false, .int .u64 0, .int .u64 0, .slice none 0 0, .bool false] 29 (0, 0))) := Lib.hid (by repeat (first | (with_reducible apply heap_setCell_same) | (with_reducible apply drew_row) | (with_reducible apply drewN_row) | (with_reducible exact HR6.out) | (with_reducible refine (heap_setCell_other _ _ _ _ (by first | omega | (simp; done) | (simp; omega))).trans ?_) | (with_reducible refine (Below.heap_alloc _ _ _ (by first | omega | (simp; done) | (simp; omega))).trans ?_)))
      have HBX : Hid ((w6.setCell ⟨w5.heap.size, 9, none⟩ (.bool true)).heap[w5.heap.size]? = some (.cells #[.int .i64 x2, .bool false, .int .u64 (uI k3), .int .u64 (uI l3), .slice none 0 0, .bool false, .int .u64 0, .int .u64 0, .slice none 0 0, .bool true] 29 (0, 0))) := Lib.hid ((heap_setCell_same _ _ 9 _ _ _ HB6.out).trans (by simp))
      clear r0_lHB6 f0_lHB6 r1_lHB6 f1_lHB6 r2_lHB6 f2_lHB6 r3_lHB6 f3_lHB6 r4_lHB6 f4_lHB6 r5_lHB6 f5_lHB6 r6_lHB6 f6_lHB6 r7_lHB6 f7_lHB6 r8_lHB6 f8_lHB6 r9_lHB6 f9_lHB6
      clear HR6 HB6
      refine (l10Key_any hcX).mono ?_
      rintro e w8 ⟨k8, rfl, hc8, ho8⟩
      go_wp2_with fail
      refine (l10Key_any hc8).mono ?_
      rintro e w9 ⟨l9, rfl, hc9, ho9⟩
      go_wp2_with fail
      refine (sKeyMac_any _ _ _).mono ?_
      rintro e w10 ⟨rfl, hb10⟩
      have hz8 := ho8.size
      have hz9 := ho9.size
      have hz10 := hb10.size
      simp at hz8
      have hc10 : Cur w10 B g := hc9.grown (grown_below hb10 none) (fun _ h => by cases h)
      have ho10 : w9.grownBy w10 (some g) := grown_below hb10 _
      have hW10 : w.grownBy w10 (some g) := (by repeat (first | with_reducible assumption | with_reducible exact World.grownBy.refl _ _ | with_reducible refine only_alloc ?_ _ | with_reducible refine only_drew ?_ | with_reducible refine only_drewN ?_ _ | with_reducible refine only_setNew ?_ (by first | omega | (simp; done) | (simp; omega)) _ | (with_reducible refine only_trans ?_ (by with_reducible assumption))))
      have hlt10 := hc10.lt
      have HR10 : Hid (w10.heap[w.heap.size]? = some (.cells #[.int .i64 0, .bool false, .int .u64 0, .int .u64 0, .slice none 0 0, .bool false, .int .u64 0, .int .u64 0, .slice none 0 0, .bool false] 29 (0, 0))) := Lib.hid ((hb10.block _ (by omega)).trans ((grow ho9 (by omega) (by omega)).trans ((grow ho8 (by simp; omega) (by omega)).trans HRX.out)))
      have HB10 : Hid (w10.heap[w5.heap.size]? = some (.cells #[.int .i64 x2, .bool false, .int .u64 (uI k3), .int .u64 (uI l3), .slice none 0 0, .bool false, .int .u64 0, .int .u64 0, .slice none 0 0, .bool true] 29 (0, 0))) := Lib.hid ((hb10.block _ (by omega)).trans ((grow ho9 (by omega) (by omega)).trans ((grow ho8 (by simp; omega) (by omega)).trans HBX.out)))
      clear ho8 ho9 ho10 hb10 HRX HBX hcX hgX hc8 hc9
      have lHB10 := HB10.out
      have r0_lHB10 := cell_of_row _ _ 0 _ _ _ lHB10
      have r1_lHB10 := cell_of_row _ _ 1 _ _ _ lHB10
      have r2_lHB10 := cell_of_row _ _ 2 _ _ _ lHB10
      have r3_lHB10 := cell_of_row _ _ 3 _ _ _ lHB10
      have r4_lHB10 := cell_of_row _ _ 4 _ _ _ lHB10
      have r5_lHB10 := cell_of_row _ _ 5 _ _ _ lHB10
      have r6_lHB10 := cell_of_row _ _ 6 _ _ _ lHB10
      have r7_lHB10 := cell_of_row _ _ 7 _ _ _ lHB10
      have r8_lHB10 := cell_of_row _ _ 8 _ _ _ lHB10
      have r9_lHB10 := cell_of_row _ _ 9 _ _ _ lHB10
      have f0_lHB10 := frozen_of_row _ _ 0 _ _ lHB10
      have f1_lHB10 := frozen_of_row _ _ 1 _ _ lHB10
      have f2_lHB10 := frozen_of_row _ _ 2 _ _ lHB10
      have f3_lHB10 := frozen_of_row _ _ 3 _ _ lHB10
      have f4_lHB10 := frozen_of_row _ _ 4 _ _ lHB10
      have f5_lHB10 := frozen_of_row _ _ 5 _ _ lHB10
      have f6_lHB10 := frozen_of_row _ _ 6 _ _ lHB10
      have f7_lHB10 := frozen_of_row _ _ 7 _ _ lHB10
      have f8_lHB10 := frozen_of_row _ _ 8 _ _ lHB10
      have f9_lHB10 := frozen_of_row _ _ 9 _ _ lHB10
      simp at r0_lHB10 r1_lHB10 r2_lHB10 r3_lHB10 r4_lHB10 r5_lHB10 r6_lHB10 r7_lHB10 r8_lHB10 r9_lHB10
      clear lHB10
      have hcW : Cur ((((w10.setCell ⟨w5.heap.size, 5, none⟩ (.bool false)).setCell ⟨w5.heap.size, 6, none⟩ (.int .u64 (uI k8))).setCell ⟨w5.heap.size, 7, none⟩ (.int .u64 (uI l9))).setCell ⟨w5.heap.size, 8, none⟩ (.slice none 0 0)) B g := (by repeat (first | with_reducible assumption | with_reducible refine Cur.alloc ?_ _ | with_reducible refine Cur.drew ?_ | with_reducible refine Cur.setOther ?_ (by first | omega | (simp; done) | (simp; omega)) (by first | omega | (simp; done) | (simp; omega)) _))
      have hgW : w.grownBy ((((w10.setCell ⟨w5.heap.size, 5, none⟩ (.bool false)).setCell ⟨w5.heap.size, 6, none⟩ (.int .u64 (uI k8))).setCell ⟨w5.heap.size, 7, none⟩ (.int .u64 (uI l9))).setCell ⟨w5.heap.size, 8, none⟩ (.slice none 0 0)) (some g) := (by repeat (first | with_reducible assumption | with_reducible exact World.grownBy.refl _ _ | with_reducible refine only_alloc ?_ _ | with_reducible refine only_drew ?_ | with_reducible refine only_drewN ?_ _ | with_reducible refine only_setNew ?_ (by first | omega | (simp; done) | (simp; omega)) _ | (with_reducible refine only_trans ?_ (by with_reducible assumption))))
      have HRW : Hid (((((w10.setCell ⟨w5.heap.size, 5, none⟩ (.bool false)).setCell ⟨w5.heap.size, 6, none⟩ (.int .u64 (uI k8))).setCell ⟨w5.heap.size, 7, none⟩ (.int .u64 (uI l9))).setCell ⟨w5.heap.size, 8, none⟩ (.slice none 0 0)).heap[w.heap.size]? = some (.cells #[.int .i64 0, .bool false, .int .u64 0, .int .u64 0, .slice none 0 0, .bool false, .int .u64 0, .int .u64 0, .slice none 0 0, .bool false] 29 (0, 0))) := Lib.hid (by repeat (first | (with_reducible apply heap_setCell_same) | (with_reducible apply drew_row) | (with_reducible apply drewN_row) | (with_reducible exact HR10.out) | (with_reducible refine (heap_setCell_other _ _ _ _ (by first | omega | (simp; done) | (simp; omega))).trans ?_) | (with_reducible refine (Below.heap_alloc _ _ _ (by first | omega | (simp; done) | (simp; omega))).trans ?_)))
      have HBW : Hid (((((w10.setCell ⟨w5.heap.size, 5, none⟩ (.bool false)).setCell ⟨w5.heap.size, 6, none⟩ (.int .u64 (uI k8))).setCell ⟨w5.heap.size, 7, none⟩ (.int .u64 (uI l9))).setCell ⟨w5.heap.size, 8, none⟩ (.slice none 0 0)).heap[w5.heap.size]? = some (.cells #[.int .i64 x2, .bool false, .int .u64 (uI k3), .int .u64 (uI l3), .slice none 0 0, .bool false, .int .u64 (uI k8), .int .u64 (uI l9), .slice none 0 0, .bool true] 29 (0, 0))) := Lib.hid ((heap_setCell_same _ _ 8 _ _ _ (heap_setCell_same _ _ 7 _ _ _ (heap_setCell_same _ _ 6 _ _ _ (heap_setCell_same _ _ 5 _ _ _ HB10.out)))).trans (by simp))
      go_wp2_with fail
      refine (l1Once_any (B := B) hcW 3 (by omega) (by omega)).mono ?_
      rintro e w11 ⟨x11, rfl, hc11, ho11⟩
      have hlt11 := hc11.lt
      have hz11 := ho11.size
      simp at hz11
      have hW11 : w.grownBy w11 (some g) := only_trans hgW ho11
      have HR11 : Hid (w11.heap[w.heap.size]? = some (.cells #[.int .i64 0, .bool false, .int .u64 0, .int .u64 0, .slice none 0 0, .bool false, .int .u64 0, .int .u64 0, .slice none 0 0, .bool false] 29 (0, 0))) := Lib.hid ((grow ho11 (by simp; omega) (by omega)).trans HRW.out)
      have HB11 : Hid (w11.heap[w5.heap.size]? = some (.cells #[.int .i64 x2, .bool false, .int .u64 (uI k3), .int .u64 (uI l3), .slice none 0 0, .bool false, .int .u64 (uI k8), .int .u64 (uI l9), .slice none 0 0, .bool true] 29 (0, 0))) := Lib.hid ((grow ho11 (by simp; omega) (by omega)).trans HBW.out)
      clear HRW HBW hcW hgW ho11
      cases x11
      · have lHR11 := HR11.out
        have r0_lHR11 := cell_of_row _ _ 0 _ _ _ lHR11
        have r1_lHR11 := cell_of_row _ _ 1 _ _ _ lHR11
        have r2_lHR11 := cell_of_row _ _ 2 _ _ _ lHR11
        have r3_lHR11 := cell_of_row _ _ 3 _ _ _ lHR11
        have r4_lHR11 := cell_of_row _ _ 4 _ _ _ lHR11
        have r5_lHR11 := cell_of_row _ _ 5 _ _ _ lHR11
        have r6_lHR11 := cell_of_row _ _ 6 _ _ _ lHR11
        have r7_lHR11 := cell_of_row _ _ 7 _ _ _ lHR11
        have r8_lHR11 := cell_of_row _ _ 8 _ _ _ lHR11
        have r9_lHR11 := cell_of_row _ _ 9 _ _ _ lHR11
        have f0_lHR11 := frozen_of_row _ _ 0 _ _ lHR11
        have f1_lHR11 := frozen_of_row _ _ 1 _ _ lHR11
        have f2_lHR11 := frozen_of_row _ _ 2 _ _ lHR11
        have f3_lHR11 := frozen_of_row _ _ 3 _ _ lHR11
        have f4_lHR11 := frozen_of_row _ _ 4 _ _ lHR11
        have f5_lHR11 := frozen_of_row _ _ 5 _ _ lHR11
        have f6_lHR11 := frozen_of_row _ _ 6 _ _ lHR11
        have f7_lHR11 := frozen_of_row _ _ 7 _ _ lHR11
        have f8_lHR11 := frozen_of_row _ _ 8 _ _ lHR11
        have f9_lHR11 := frozen_of_row _ _ 9 _ _ lHR11
        simp at r0_lHR11 r1_lHR11 r2_lHR11 r3_lHR11 r4_lHR11 r5_lHR11 r6_lHR11 r7_lHR11 r8_lHR11 r9_lHR11
        clear lHR11
        have lHB11 := HB11.out
        have r0_lHB11 := cell_of_row _ _ 0 _ _ _ lHB11
        have r1_lHB11 := cell_of_row _ _ 1 _ _ _ lHB11
        have r2_lHB11 := cell_of_row _ _ 2 _ _ _ lHB11
        have r3_lHB11 := cell_of_row _ _ 3 _ _ _ lHB11
        have r4_lHB11 := cell_of_row _ _ 4 _ _ _ lHB11
        have r5_lHB11 := cell_of_row _ _ 5 _ _ _ lHB11
        have r6_lHB11 := cell_of_row _ _ 6 _ _ _ lHB11
        have r7_lHB11 := cell_of_row _ _ 7 _ _ _ lHB11
        have r8_lHB11 := cell_of_row _ _ 8 _ _ _ lHB11
        have r9_lHB11 := cell_of_row _ _ 9 _ _ _ lHB11
        have f0_lHB11 := frozen_of_row _ _ 0 _ _ lHB11
        have f1_lHB11 := frozen_of_row _ _ 1 _ _ lHB11
        have f2_lHB11 := frozen_of_row _ _ 2 _ _ lHB11
        have f3_lHB11 := frozen_of_row _ _ 3 _ _ lHB11
        have f4_lHB11 := frozen_of_row _ _ 4 _ _ lHB11
        have f5_lHB11 := frozen_of_row _ _ 5 _ _ lHB11
        have f6_lHB11 := frozen_of_row _ _ 6 _ _ lHB11
        have f7_lHB11 := frozen_of_row _ _ 7 _ _ lHB11
        have f8_lHB11 := frozen_of_row _ _ 8 _ _ lHB11
        have f9_lHB11 := frozen_of_row _ _ 9 _ _ lHB11
        simp at r0_lHB11 r1_lHB11 r2_lHB11 r3_lHB11 r4_lHB11 r5_lHB11 r6_lHB11 r7_lHB11 r8_lHB11 r9_lHB11
        clear lHB11
        go_wp2_with fail
        apply bodyPost_ret (results_cell_row (P := Try.prog) (fn := Try.f72) rfl _ _ _ 29 _ (0, 0) _ rfl _ Try.underlying29 rfl _) rfl
        rotate_left 2
        · repeat (first | (with_reducible apply heap_setCell_same) | (with_reducible apply drew_row) | (with_reducible apply drewN_row) | (with_reducible exact HR11.out) | (with_reducible refine (heap_setCell_other _ _ _ _ (by first | omega | (simp; done) | (simp; omega))).trans ?_) | (with_reducible refine (Below.heap_alloc _ _ _ (by first | omega | (simp; done) | (simp; omega))).trans ?_))
        · kernel_rfl
        exact ⟨⟨x2, ⟨false, k3, l3, []⟩, ⟨false, k8, l9, []⟩, true⟩, .slice none 0 0, .slice none 0 0, by first | (simp; done) | (simp; rfl), own_nil _ _, own_nil _ _, ⟨by first | omega | (simp; done) | assumption, by first | omega | (simp; done) | assumption⟩, ⟨by intro y hy; simp at hy, by intro y hy; simp at hy⟩, ⟨by dsimp only; omega, by dsimp only; omega⟩, (by repeat (first | with_reducible assumption | with_reducible refine Cur.alloc ?_ _ | with_reducible refine Cur.drew ?_ | with_reducible refine Cur.setOther ?_ (by first | omega | (simp; done) | (simp; omega)) (by first | omega | (simp; done) | (simp; omega)) _)), (by repeat (first | with_reducible assumption | with_reducible exact World.grownBy.refl _ _ | with_reducible refine only_alloc ?_ _ | with_reducible refine only_drew ?_ | with_reducible refine only_drewN ?_ _ | with_reducible refine only_setNew ?_ (by first | omega | (simp; done) | (simp; omega)) _ | (with_reducible refine only_trans ?_ (by with_reducible assumption))))⟩
      · go_wp2_with fail
        refine (sTableMac_any (.slice (some ⟨w11.heap.size, 0, none⟩) 0 0) [] (by simp) _ (rd_noneM _ _)).mono ?_
        rintro e w12 ⟨v12, rfl, hO12, hb12⟩
        obtain ⟨A12, c12, rfl⟩ := hO12.form
        have HO12 := Lib.hid hO12
        have hz12 := hb12.size
        simp at hz12
        have hc12 : Cur w12 B g := (hc11.alloc _).grown (grown_below hb12 none) (fun _ h => by cases h)
        have hW12 : w.grownBy w12 (some g) := only_trans (only_alloc hW11 _) (grown_below hb12 _)
        have HR12 : Hid (w12.heap[w.heap.size]? = some (.cells #[.int .i64 0, .bool false, .int .u64 0, .int .u64 0, .slice none 0 0, .bool false, .int .u64 0, .int .u64 0, .slice none 0 0, .bool false] 29 (0, 0))) := Lib.hid ((hb12.block _ (by simp; omega)).trans (by repeat (first | (with_reducible apply heap_setCell_same) | (with_reducible apply drew_row) | (with_reducible apply drewN_row) | (with_reducible exact HR11.out) | (with_reducible refine (heap_setCell_other _ _ _ _ (by first | omega | (simp; done) | (simp; omega))).trans ?_) | (with_reducible refine (Below.heap_alloc _ _ _ (by first | omega | (simp; done) | (simp; omega))).trans ?_))))
        have HB12 : Hid (w12.heap[w5.heap.size]? = some (.cells #[.int .i64 x2, .bool false, .int .u64 (uI k3), .int .u64 (uI l3), .slice none 0 0, .bool false, .int .u64 (uI k8), .int .u64 (uI l9), .slice none 0 0, .bool true] 29 (0, 0))) := Lib.hid ((hb12.block _ (by simp; omega)).trans (by repeat (first | (with_reducible apply heap_setCell_same) | (with_reducible apply drew_row) | (with_reducible apply drewN_row) | (with_reducible exact HB11.out) | (with_reducible refine (heap_setCell_other _ _ _ _ (by first | omega | (simp; done) | (simp; omega))).trans ?_) | (with_reducible refine (Below.heap_alloc _ _ _ (by first | omega | (simp; done) | (simp; omega))).trans ?_))))
        clear HR11 HB11 hb12 hO12
        have hlt12 := hc12.lt
        have lHR12 := HR12.out
        have r0_lHR12 := cell_of_row _ _ 0 _ _ _ lHR12
        have r1_lHR12 := cell_of_row _ _ 1 _ _ _ lHR12
        have r2_lHR12 := cell_of_row _ _ 2 _ _ _ lHR12
        have r3_lHR12 := cell_of_row _ _ 3 _ _ _ lHR12
        have r4_lHR12 := cell_of_row _ _ 4 _ _ _ lHR12
        have r5_lHR12 := cell_of_row _ _ 5 _ _ _ lHR12
        have r6_lHR12 := cell_of_row _ _ 6 _ _ _ lHR12
        have r7_lHR12 := cell_of_row _ _ 7 _ _ _ lHR12
        have r8_lHR12 := cell_of_row _ _ 8 _ _ _ lHR12
        have r9_lHR12 := cell_of_row _ _ 9 _ _ _ lHR12
        have f0_lHR12 := frozen_of_row _ _ 0 _ _ lHR12
        have f1_lHR12 := frozen_of_row _ _ 1 _ _ lHR12
        have f2_lHR12 := frozen_of_row _ _ 2 _ _ lHR12
        have f3_lHR12 := frozen_of_row _ _ 3 _ _ lHR12
        have f4_lHR12 := frozen_of_row _ _ 4 _ _ lHR12
        have f5_lHR12 := frozen_of_row _ _ 5 _ _ lHR12
        have f6_lHR12 := frozen_of_row _ _ 6 _ _ lHR12
        have f7_lHR12 := frozen_of_row _ _ 7 _ _ lHR12
        have f8_lHR12 := frozen_of_row _ _ 8 _ _ lHR12
        have f9_lHR12 := frozen_of_row _ _ 9 _ _ lHR12
        simp at r0_lHR12 r1_lHR12 r2_lHR12 r3_lHR12 r4_lHR12 r5_lHR12 r6_lHR12 r7_lHR12 r8_lHR12 r9_lHR12
        clear lHR12
        have lHB12 := HB12.out
        have r0_lHB12 := cell_of_row _ _ 0 _ _ _ lHB12
        have r1_lHB12 := cell_of_row _ _ 1 _ _ _ lHB12
        have r2_lHB12 := cell_of_row _ _ 2 _ _ _ lHB12
        have r3_lHB12 := cell_of_row _ _ 3 _ _ _ lHB12
        have r4_lHB12 := cell_of_row _ _ 4 _ _ _ lHB12
        have r5_lHB12 := cell_of_row _ _ 5 _ _ _ lHB12
        have r6_lHB12 := cell_of_row _ _ 6 _ _ _ lHB12
        have r7_lHB12 := cell_of_row _ _ 7 _ _ _ lHB12
        have r8_lHB12 := cell_of_row _ _ 8 _ _ _ lHB12
        have r9_lHB12 := cell_of_row _ _ 9 _ _ _ lHB12
        have f0_lHB12 := frozen_of_row _ _ 0 _ _ lHB12
        have f1_lHB12 := frozen_of_row _ _ 1 _ _ lHB12
        have f2_lHB12 := frozen_of_row _ _ 2 _ _ lHB12
        have f3_lHB12 := frozen_of_row _ _ 3 _ _ lHB12
        have f4_lHB12 := frozen_of_row _ _ 4 _ _ lHB12
        have f5_lHB12 := frozen_of_row _ _ 5 _ _ lHB12
        have f6_lHB12 := frozen_of_row _ _ 6 _ _ lHB12
        have f7_lHB12 := frozen_of_row _ _ 7 _ _ lHB12
        have f8_lHB12 := frozen_of_row _ _ 8 _ _ lHB12
        have f9_lHB12 := frozen_of_row _ _ 9 _ _ lHB12
        simp at r0_lHB12 r1_lHB12 r2_lHB12 r3_lHB12 r4_lHB12 r5_lHB12 r6_lHB12 r7_lHB12 r8_lHB12 r9_lHB12
        clear lHB12
        have u0 : uI 0#64 = 0 := by first | rfl | simp [uI]
        go_wp2_with fail
        apply bodyPost_ret (results_cell_row (P := Try.prog) (fn := Try.f72) rfl _ _ _ 29 _ (0, 0) _ rfl _ Try.underlying29 rfl _) rfl
        rotate_left 2
        · repeat (first | (with_reducible apply heap_setCell_same) | (with_reducible apply drew_row) | (with_reducible apply drewN_row) | (with_reducible exact HR12.out) | (with_reducible refine (heap_setCell_other _ _ _ _ (by first | omega | (simp; done) | (simp; omega))).trans ?_) | (with_reducible refine (Below.heap_alloc _ _ _ (by first | omega | (simp; done) | (simp; omega))).trans ?_))
        · kernel_rfl
        exact ⟨⟨x2, ⟨true, 0, 0, []⟩, ⟨false, k8, l9, []⟩, true⟩, .slice A12 0 c12, .slice none 0 0, by simp [u0], HO12.out.nil rfl _ _, own_nil _ _, ⟨by simp, by simp⟩, ⟨by intro y hy; simp at hy, by intro y hy; simp at hy⟩, ⟨by dsimp only; omega, by dsimp only; omega⟩, (by repeat (first | with_reducible assumption | with_reducible refine Cur.alloc ?_ _ | with_reducible refine Cur.drew ?_ | with_reducible refine Cur.setOther ?_ (by first | omega | (simp; done) | (simp; omega)) (by first | omega | (simp; done) | (simp; omega)) _)), (by repeat (first | with_reducible assumption | with_reducible exact World.grownBy.refl _ _ | with_reducible refine only_alloc ?_ _ | with_reducible refine only_drew ?_ | with_reducible refine only_drewN ?_ _ | with_reducible refine only_setNew ?_ (by first | omega | (simp; done) | (simp; omega)) _ | (with_reducible refine only_trans ?_ (by with_reducible assumption))))⟩
  · go_wp2_with fail
    refine (l1Once_any (B := B) hcW 3 (by omega) (by omega)).mono ?_
    rintro e w12 ⟨x12, rfl, hc12, ho12⟩
    have hlt12 := hc12.lt
    have hz12 := ho12.size
    simp at hz12
    have hW12 : w.grownBy w12 (some g) := only_trans hgW ho12
    have HR12 : Hid (w12.heap[w.heap.size]? = some (.cells #[.int .i64 0, .bool false, .int .u64 0, .int .u64 0, .slice none 0 0, .bool false, .int .u64 0, .int .u64 0, .slice none 0 0, .bool false] 29 (0, 0))) := Lib.hid ((grow ho12 (by simp; first | done | omega) (by omega)).trans HRW.out)
    have HB12 : Hid (w12.heap[w5.heap.size]? = some (.cells #[.int .i64 x2, .bool false, .int .u64 (uI k3), .int .u64 (uI l3), .slice none 0 0, .bool false, .int .u64 0, .int .u64 0, .slice none 0 0, .bool false] 29 (0, 0))) := Lib.hid ((grow ho12 (by simp; first | done | omega) (by omega)).trans HBW.out)
    clear HRW HBW hcW hgW ho12
    cases x12
    · have lHR12 := HR12.out
      have r0_lHR12 := cell_of_row _ _ 0 _ _ _ lHR12
      have r1_lHR12 := cell_of_row _ _ 1 _ _ _ lHR12
      have r2_lHR12 := cell_of_row _ _ 2 _ _ _ lHR12
      have r3_lHR12 := cell_of_row _ _ 3 _ _ _ lHR12
      have r4_lHR12 := cell_of_row _ _ 4 _ _ _ lHR12
      have r5_lHR12 := cell_of_row _ _ 5 _ _ _ lHR12
      have r6_lHR12 := cell_of_row _ _ 6 _ _ _ lHR12
      have r7_lHR12 := cell_of_row _ _ 7 _ _ _ lHR12
      have r8_lHR12 := cell_of_row _ _ 8 _ _ _ lHR12
      have r9_lHR12 := cell_of_row _ _ 9 _ _ _ lHR12
      have f0_lHR12 := frozen_of_row _ _ 0 _ _ lHR12
      have f1_lHR12 := frozen_of_row _ _ 1 _ _ lHR12
      have f2_lHR12 := frozen_of_row _ _ 2 _ _ lHR12
      have f3_lHR12 := frozen_of_row _ _ 3 _ _ lHR12
      have f4_lHR12 := frozen_of_row _ _ 4 _ _ lHR12
      have f5_lHR12 := frozen_of_row _ _ 5 _ _ lHR12
      have f6_lHR12 := frozen_of_row _ _ 6 _ _ lHR12
      have f7_lHR12 := frozen_of_row _ _ 7 _ _ lHR12
      have f8_lHR12 := frozen_of_row _ _ 8 _ _ lHR12
      have f9_lHR12 := frozen_of_row _ _ 9 _ _ lHR12
      simp at r0_lHR12 r1_lHR12 r2_lHR12 r3_lHR12 r4_lHR12 r5_lHR12 r6_lHR12 r7_lHR12 r8_lHR12 r9_lHR12
      clear lHR12
      have lHB12 := HB12.out
      have r0_lHB12 := cell_of_row _ _ 0 _ _ _ lHB12
      have r1_lHB12 := cell_of_row _ _ 1 _ _ _ lHB12
      have r2_lHB12 := cell_of_row _ _ 2 _ _ _ lHB12
      have r3_lHB12 := cell_of_row _ _ 3 _ _ _ lHB12
      have r4_lHB12 := cell_of_row _ _ 4 _ _ _ lHB12
      have r5_lHB12 := cell_of_row _ _ 5 _ _ _ lHB12
      have r6_lHB12 := cell_of_row _ _ 6 _ _ _ lHB12
      have r7_lHB12 := cell_of_row _ _ 7 _ _ _ lHB12
      have r8_lHB12 := cell_of_row _ _ 8 _ _ _ lHB12
      have r9_lHB12 := cell_of_row _ _ 9 _ _ _ lHB12
      have f0_lHB12 := frozen_of_row _ _ 0 _ _ lHB12
      have f1_lHB12 := frozen_of_row _ _ 1 _ _ lHB12
      have f2_lHB12 := frozen_of_row _ _ 2 _ _ lHB12
      have f3_lHB12 := frozen_of_row _ _ 3 _ _ lHB12
      have f4_lHB12 := frozen_of_row _ _ 4 _ _ lHB12
      have f5_lHB12 := frozen_of_row _ _ 5 _ _ lHB12
      have f6_lHB12 := frozen_of_row _ _ 6 _ _ lHB12
      have f7_lHB12 := frozen_of_row _ _ 7 _ _ lHB12
      have f8_lHB12 := frozen_of_row _ _ 8 _ _ lHB12
      have f9_lHB12 := frozen_of_row _ _ 9 _ _ lHB12
      simp at r0_lHB12 r1_lHB12 r2_lHB12 r3_lHB12 r4_lHB12 r5_lHB12 r6_lHB12 r7_lHB12 r8_lHB12 r9_lHB12
      clear lHB12
      go_wp2_with fail
      apply bodyPost_ret (results_cell_row (P := Try.prog) (fn := Try.f72) rfl _ _ _ 29 _ (0, 0) _ rfl _ Try.underlying29 rfl _) rfl
      rotate_left 2
      · repeat (first | (with_reducible apply heap_setCell_same) | (with_reducible apply drew_row) | (with_reducible apply drewN_row) | (with_reducible exact HR12.out) | (with_reducible refine (heap_setCell_other _ _ _ _ (by first | omega | (simp; done) | (simp; omega))).trans ?_) | (with_reducible refine (Below.heap_alloc _ _ _ (by first | omega | (simp; done) | (simp; omega))).trans ?_))
      · kernel_rfl
      exact ⟨⟨x2, ⟨false, k3, l3, []⟩, ⟨false, 0, 0, []⟩, false⟩, .slice none 0 0, .slice none 0 0, by first | (simp; done) | (simp; rfl), own_nil _ _, own_nil _ _, ⟨by first | omega | (simp; done) | assumption, by first | omega | (simp; done) | assumption⟩, ⟨by intro y hy; simp at hy, by intro y hy; simp at hy⟩, ⟨by dsimp only; omega, by dsimp only; omega⟩, (by repeat (first | with_reducible assumption | with_reducible refine Cur.alloc ?_ _ | with_reducible refine Cur.drew ?_ | with_reducible refine Cur.setOther ?_ (by first | omega | (simp; done) | (simp; omega)) (by first | omega | (simp; done) | (simp; omega)) _)), (by repeat (first | with_reducible assumption | with_reducible exact World.grownBy.refl _ _ | with_reducible refine only_alloc ?_ _ | with_reducible refine only_drew ?_ | with_reducible refine only_drewN ?_ _ | with_reducible refine only_setNew ?_ (by first | omega | (simp; done) | (simp; omega)) _ | (with_reducible refine only_trans ?_ (by with_reducible assumption))))⟩
    · go_wp2_with fail
      refine (sTableMac_any (.slice (some ⟨w12.heap.size, 0, none⟩) 0 0) [] (by simp) _ (rd_noneM _ _)).mono ?_
      rintro e w13 ⟨v13, rfl, hO13, hb13⟩
      obtain ⟨A13, c13, rfl⟩ := hO13.form
      have HO13 := Lib.hid hO13
      have hz13 := hb13.size
      simp at hz13
      have hc13 : Cur w13 B g := (hc12.alloc _).grown (grown_below hb13 none) (fun _ h => by cases h)
      have hW13 : w.grownBy w13 (some g) := only_trans (only_alloc hW12 _) (grown_below hb13 _)
      have HR13 : Hid (w13.heap[w.heap.size]? = some (.cells #[.int .i64 0, .bool false, .int .u64 0, .int .u64 0, .slice none 0 0, .bool false, .int .u64 0, .int .u64 0, .slice none 0 0, .bool false] 29 (0, 0))) := Lib.hid ((hb13.block _ (by simp; omega)).trans (by repeat (first | (with_reducible apply heap_setCell_same) | (with_reducible apply drew_row) | (with_reducible apply drewN_row) | (with_reducible exact HR12.out) | (with_reducible refine (heap_setCell_other _ _ _ _ (by first | omega | (simp; done) | (simp; omega))).trans ?_) | (with_reducible refine (Below.heap_alloc _ _ _ (by first | omega | (simp; done) | (simp; omega))).trans ?_))))
      have HB13 : Hid (w13.heap[w5.heap.size]? = some (.cells #[.int .i64 x2, .bool false, .int .u64 (uI k3), .int .u64 (uI l3), .slice none 0 0, .bool false, .int .u64 0, .int .u64 0, .slice none 0 0, .bool false] 29 (0, 0))) := Lib.hid ((hb13.block _ (by simp; omega)).trans (by repeat (first | (with_reducible apply heap_setCell_same) | (with_reducible apply drew_row) | (with_reducible apply drewN_row) | (with_reducible exact HB12.out) | (with_reducible refine (heap_setCell_other _ _ _ _ (by first | omega | (simp; done) | (simp; omega))).trans ?_) | (with_reducible refine (Below.heap_alloc _ _ _ (by first | omega | (simp; done) | (simp; omega))).trans ?_))))
      clear HR12 HB12 hb13 hO13
      have hlt13 := hc13.lt
      have lHR13 := HR13.out
      have r0_lHR13 := cell_of_row _ _ 0 _ _ _ lHR13
      have r1_lHR13 := cell_of_row _ _ 1 _ _ _ lHR13
      have r2_lHR13 := cell_of_row _ _ 2 _ _ _ lHR13
      have r3_lHR13 := cell_of_row _ _ 3 _ _ _ lHR13
      have r4_lHR13 := cell_of_row _ _ 4 _ _ _ lHR13
      have r5_lHR13 := cell_of_row _ _ 5 _ _ _ lHR13
      have r6_lHR13 := cell_of_row _ _ 6 _ _ _ lHR13
      have r7_lHR13 := cell_of_row _ _ 7 _ _ _ lHR13
      have r8_lHR13 := cell_of_row _ _ 8 _ _ _ lHR13
      have r9_lHR13 := cell_of_row _ _ 9 _ _ _ lHR13
      have f0_lHR13 := frozen_of_row _ _ 0 _ _ lHR13
      have f1_lHR13 := frozen_of_row _ _ 1 _ _ lHR13
      have f2_lHR13 := frozen_of_row _ _ 2 _ _ lHR13
      have f3_lHR13 := frozen_of_row _ _ 3 _ _ lHR13
      have f4_lHR13 := frozen_of_row _ _ 4 _ _ lHR13
      have f5_lHR13 := frozen_of_row _ _ 5 _ _ lHR13
      have f6_lHR13 := frozen_of_row _ _ 6 _ _ lHR13
      have f7_lHR13 := frozen_of_row _ _ 7 _ _ lHR13
      have f8_lHR13 := frozen_of_row _ _ 8 _ _ lHR13
      have f9_lHR13 := frozen_of_row _ _ 9 _ _ lHR13
      simp at r0_lHR13 r1_lHR13 r2_lHR13 r3_lHR13 r4_lHR13 r5_lHR13 r6_lHR13 r7_lHR13 r8_lHR13 r9_lHR13
      clear lHR13
      have lHB13 := HB13.out
      have r0_lHB13 := cell_of_row _ _ 0 _ _ _ lHB13
      have r1_lHB13 := cell_of_row _ _ 1 _ _ _ lHB13
      have r2_lHB13 := cell_of_row _ _ 2 _ _ _ lHB13
      have r3_lHB13 := cell_of_row _ _ 3 _ _ _ lHB13
      have r4_lHB13 := cell_of_row _ _ 4 _ _ _ lHB13
      have r5_lHB13 := cell_of_row _ _ 5 _ _ _ lHB13
      have r6_lHB13 := cell_of_row _ _ 6 _ _ _ lHB13
      have r7_lHB13 := cell_of_row _ _ 7 _ _ _ lHB13
      have r8_lHB13 := cell_of_row _ _ 8 _ _ _ lHB13
      have r9_lHB13 := cell_of_row _ _ 9 _ _ _ lHB13
      have f0_lHB13 := frozen_of_row _ _ 0 _ _ lHB13
      have f1_lHB13 := frozen_of_row _ _ 1 _ _ lHB13
      have f2_lHB13 := frozen_of_row _ _ 2 _ _ lHB13
      have f3_lHB13 := frozen_of_row _ _ 3 _ _ lHB13
      have f4_lHB13 := frozen_of_row _ _ 4 _ _ lHB13
      have f5_lHB13 := frozen_of_row _ _ 5 _ _ lHB13
      have f6_lHB13 := frozen_of_row _ _ 6 _ _ lHB13
      have f7_lHB13 := frozen_of_row _ _ 7 _ _ lHB13
      have f8_lHB13 := frozen_of_row _ _ 8 _ _ lHB13
      have f9_lHB13 := frozen_of_row _ _ 9 _ _ lHB13
      simp at r0_lHB13 r1_lHB13 r2_lHB13 r3_lHB13 r4_lHB13 r5_lHB13 r6_lHB13 r7_lHB13 r8_lHB13 r9_lHB13
      clear lHB13
      have u0 : uI 0#64 = 0 := by first | rfl | simp [uI]
      go_wp2_with fail
      apply bodyPost_ret (results_cell_row (P := Try.prog) (fn := Try.f72) rfl _ _ _ 29 _ (0, 0) _ rfl _ Try.underlying29 rfl _) rfl
      rotate_left 2
      · repeat (first | (with_reducible apply heap_setCell_same) | (with_reducible apply drew_row) | (with_reducible apply drewN_row) | (with_reducible exact HR13.out) | (with_reducible refine (heap_setCell_other _ _ _ _ (by first | omega | (simp; done) | (simp; omega))).trans ?_) | (with_reducible refine (Below.heap_alloc _ _ _ (by first | omega | (simp; done) | (simp; omega))).trans ?_))
      · kernel_rfl
      exact ⟨⟨x2, ⟨true, 0, 0, []⟩, ⟨false, 0, 0, []⟩, false⟩, .slice A13 0 c13, .slice none 0 0, by simp [u0], HO13.out.nil rfl _ _, own_nil _ _, ⟨by simp, by simp⟩, ⟨by intro y hy; simp at hy, by intro y hy; simp at hy⟩, ⟨by dsimp only; omega, by dsimp only; omega⟩, (by repeat (first | with_reducible assumption | with_reducible refine Cur.alloc ?_ _ | with_reducible refine Cur.drew ?_ | with_reducible refine Cur.setOther ?_ (by first | omega | (simp; done) | (simp; omega)) (by first | omega | (simp; done) | (simp; omega)) _)), (by repeat (first | with_reducible assumption | with_reducible exact World.grownBy.refl _ _ | with_reducible refine only_alloc ?_ _ | with_reducible refine only_drew ?_ | with_reducible refine only_drewN ?_ _ | with_reducible refine only_setNew ?_ (by first | omega | (simp; done) | (simp; omega)) _ | (with_reducible refine only_trans ?_ (by with_reducible assumption))))⟩
set_option maxHeartbeats 8000000 in
theorem l13Bent_any {w : World} {B g : Nat} (hcur : Cur w B g) :
    Calls Try.prog 44 #[.pointer (some ⟨g, 0, none⟩)] w (DrewKeys w B g) := by
  have hlt := hcur.lt
  have hlow := hcur.low
  go_enter Try.func44, Try.ntmps44
  go_wp2_with fail
  refine (l13Keys_any (B := B) (by repeat (first | with_reducible assumption | with_reducible refine Cur.alloc ?_ _ | with_reducible refine Cur.drew ?_ | with_reducible refine Cur.setOther ?_ (by first | omega | (simp; done) | (simp; omega)) (by first | omega | (simp; done) | (simp; omega)) _))).mono ?_
  rintro e w1 ⟨x, v1, v2, rfl, hO1, hO2, ⟨n1, n2⟩, ⟨f1, f2⟩, ⟨he1, he2⟩, hc1, ho1⟩
  obtain ⟨A1, c1, rfl⟩ := hO1.form
  obtain ⟨A2, c2, rfl⟩ := hO2.form
  have HO1 : Hid (OwnMacRow w1 (w.heap.size + 1) (.slice A1 x.now.rs.length c1) x.now.rs) := Lib.hid (hO1.mono (by simp))
  have HO2 : Hid (OwnMacRow w1 (w.heap.size + 1) (.slice A2 x.bef.rs.length c2) x.bef.rs) := Lib.hid (hO2.mono (by simp))
  have HF1 := Lib.hid f1
  have HF2 := Lib.hid f2
  have hz1 := ho1.size
  simp at hz1
  have hlt1 := hc1.lt
  have HR1 : Hid (w1.heap[w.heap.size]? = some (.cells #[.int .i64 0, .bool false, .int .u64 0, .int .u64 0, .slice none 0 0, .bool false, .int .u64 0, .int .u64 0, .slice none 0 0, .bool false] 29 (0, 0))) := Lib.hid ((grow ho1 (by simp) (by omega)).trans (by repeat (first | exact heap_new _ _ _ (by first | rfl | (simp; done) | (simp; omega)) | refine (Below.heap_alloc _ _ _ (by first | omega | (simp; done) | (simp; omega))).trans ?_)))
  have hg1 : w.grownBy (w1.alloc (.cells #[.int .i64 x.ep, .bool x.now.u, .int .u64 (uI x.now.k), .int .u64 (uI x.now.l), .slice A1 x.now.rs.length c1, .bool x.bef.u, .int .u64 (uI x.bef.k), .int .u64 (uI x.bef.l), .slice A2 x.bef.rs.length c2, .bool x.two] 29)) (some g) := only_alloc (only_trans (by repeat (first | with_reducible assumption | with_reducible exact World.grownBy.refl _ _ | with_reducible refine only_alloc ?_ _ | with_reducible refine only_drew ?_ | with_reducible refine only_drewN ?_ _ | with_reducible refine only_setNew ?_ (by first | omega | (simp; done) | (simp; omega)) _ | (with_reducible refine only_trans ?_ (by with_reducible assumption)))) ho1) _
  clear hO1 hO2 f1 f2 hcur
  go_wp2_with fail
  refine (l1Below_any (B := B) (by repeat (first | with_reducible assumption | with_reducible refine Cur.alloc ?_ _ | with_reducible refine Cur.drew ?_ | with_reducible refine Cur.setOther ?_ (by first | omega | (simp; done) | (simp; omega)) (by first | omega | (simp; done) | (simp; omega)) _)) 10 (by omega) (by omega)).mono ?_
  rintro e w2 ⟨x2, rfl, ⟨hl2, hh2⟩, hc2, ho2⟩
  have hlt2 := hc2.lt
  have hz2 := ho2.size
  simp at hz2
  have hg2 : w.grownBy w2 (some g) := only_trans hg1 ho2
  have HR2 : Hid (w2.heap[w.heap.size]? = some (.cells #[.int .i64 0, .bool false, .int .u64 0, .int .u64 0, .slice none 0 0, .bool false, .int .u64 0, .int .u64 0, .slice none 0 0, .bool false] 29 (0, 0))) := Lib.hid ((grow ho2 (by simp; omega) (by omega)).trans (by repeat (first | (with_reducible apply heap_setCell_same) | (with_reducible apply drew_row) | (with_reducible apply drewN_row) | (with_reducible exact HR1.out) | (with_reducible refine (heap_setCell_other _ _ _ _ (by first | omega | (simp; done) | (simp; omega))).trans ?_) | (with_reducible refine (Below.heap_alloc _ _ _ (by first | omega | (simp; done) | (simp; omega))).trans ?_))))
  have HB2 : Hid (w2.heap[w1.heap.size]? = some (.cells #[.int .i64 x.ep, .bool x.now.u, .int .u64 (uI x.now.k), .int .u64 (uI x.now.l), .slice A1 x.now.rs.length c1, .bool x.bef.u, .int .u64 (uI x.bef.k), .int .u64 (uI x.bef.l), .slice A2 x.bef.rs.length c2, .bool x.two] 29 (0, 0))) := Lib.hid ((grow ho2 (by simp) (by omega)).trans (heap_alloc_new _ _))
  have HP1 : Hid (OwnMacRow w2 (w.heap.size + 1) (.slice A1 x.now.rs.length c1) x.now.rs) := Lib.hid ((HO1.out.alloc _).grow ho2 (by omega))
  have HP2 : Hid (OwnMacRow w2 (w.heap.size + 1) (.slice A2 x.bef.rs.length c2) x.bef.rs) := Lib.hid ((HO2.out.alloc _).grow ho2 (by omega))
  clear ho2 ho1 hg1 HR1
  by_cases h0 : x2 = 0
  · subst h0
    go_wp2_with fail
    refine (l1Pick_new (B := B) (-1) (4294967296) (by repeat (first | with_reducible assumption | with_reducible refine Cur.alloc ?_ _ | with_reducible refine Cur.drew ?_ | with_reducible refine Cur.setOther ?_ (by first | omega | (simp; done) | (simp; omega)) (by first | omega | (simp; done) | (simp; omega)) _)) (by rfl) (by omega) (by omega) (by kernel_rfl)).mono ?_
    rintro e w3 ⟨x3, rfl, ⟨hl3, hh3⟩, hc3, ho3⟩
    have hlt3 := hc3.lt
    have hz3 := ho3.size
    simp at hz3
    have hg3 : w.grownBy w3 (some g) := only_trans (only_alloc hg2 _) ho3
    have HR3 : Hid (w3.heap[w.heap.size]? = some (.cells #[.int .i64 0, .bool false, .int .u64 0, .int .u64 0, .slice none 0 0, .bool false, .int .u64 0, .int .u64 0, .slice none 0 0, .bool false] 29 (0, 0))) := Lib.hid ((grow ho3 (by first | (simp; omega) | omega) (by omega)).trans (by repeat (first | (with_reducible apply heap_setCell_same) | (with_reducible apply drew_row) | (with_reducible apply drewN_row) | (with_reducible exact HR2.out) | (with_reducible refine (heap_setCell_other _ _ _ _ (by first | omega | (simp; done) | (simp; omega))).trans ?_) | (with_reducible refine (Below.heap_alloc _ _ _ (by first | omega | (simp; done) | (simp; omega))).trans ?_))))
    have HB3 : Hid (w3.heap[w1.heap.size]? = some (.cells #[.int .i64 x.ep, .bool x.now.u, .int .u64 (uI x.now.k), .int .u64 (uI x.now.l), .slice A1 x.now.rs.length c1, .bool x.bef.u, .int .u64 (uI x.bef.k), .int .u64 (uI x.bef.l), .slice A2 x.bef.rs.length c2, .bool x.two] 29 (0, 0))) := Lib.hid ((grow ho3 (by first | (simp; omega) | omega) (by omega)).trans (by repeat (first | (with_reducible apply heap_setCell_same) | (with_reducible apply drew_row) | (with_reducible apply drewN_row) | (with_reducible exact HB2.out) | (with_reducible refine (heap_setCell_other _ _ _ _ (by first | omega | (simp; done) | (simp; omega))).trans ?_) | (with_reducible refine (Below.heap_alloc _ _ _ (by first | omega | (simp; done) | (simp; omega))).trans ?_))))
    have HQ1 : Hid (OwnMacRow w3 (w.heap.size + 1) (.slice A1 x.now.rs.length c1) x.now.rs) := Lib.hid ((HP1.out.alloc _).grow ho3 (by omega))
    have HQ2 : Hid (OwnMacRow w3 (w.heap.size + 1) (.slice A2 x.bef.rs.length c2) x.bef.rs) := Lib.hid ((HP2.out.alloc _).grow ho3 (by omega))
    clear ho3 HR2 HB2 HP1 HP2
    have lHR3 := HR3.out
    have r0_lHR3 := cell_of_row _ _ 0 _ _ _ lHR3
    have r1_lHR3 := cell_of_row _ _ 1 _ _ _ lHR3
    have r2_lHR3 := cell_of_row _ _ 2 _ _ _ lHR3
    have r3_lHR3 := cell_of_row _ _ 3 _ _ _ lHR3
    have r4_lHR3 := cell_of_row _ _ 4 _ _ _ lHR3
    have r5_lHR3 := cell_of_row _ _ 5 _ _ _ lHR3
    have r6_lHR3 := cell_of_row _ _ 6 _ _ _ lHR3
    have r7_lHR3 := cell_of_row _ _ 7 _ _ _ lHR3
    have r8_lHR3 := cell_of_row _ _ 8 _ _ _ lHR3
    have r9_lHR3 := cell_of_row _ _ 9 _ _ _ lHR3
    have f0_lHR3 := frozen_of_row _ _ 0 _ _ lHR3
    have f1_lHR3 := frozen_of_row _ _ 1 _ _ lHR3
    have f2_lHR3 := frozen_of_row _ _ 2 _ _ lHR3
    have f3_lHR3 := frozen_of_row _ _ 3 _ _ lHR3
    have f4_lHR3 := frozen_of_row _ _ 4 _ _ lHR3
    have f5_lHR3 := frozen_of_row _ _ 5 _ _ lHR3
    have f6_lHR3 := frozen_of_row _ _ 6 _ _ lHR3
    have f7_lHR3 := frozen_of_row _ _ 7 _ _ lHR3
    have f8_lHR3 := frozen_of_row _ _ 8 _ _ lHR3
    have f9_lHR3 := frozen_of_row _ _ 9 _ _ lHR3
    simp at r0_lHR3 r1_lHR3 r2_lHR3 r3_lHR3 r4_lHR3 r5_lHR3 r6_lHR3 r7_lHR3 r8_lHR3 r9_lHR3
    clear lHR3
    have lHB3 := HB3.out
    have r0_lHB3 := cell_of_row _ _ 0 _ _ _ lHB3
    have r1_lHB3 := cell_of_row _ _ 1 _ _ _ lHB3
    have r2_lHB3 := cell_of_row _ _ 2 _ _ _ lHB3
    have r3_lHB3 := cell_of_row _ _ 3 _ _ _ lHB3
    have r4_lHB3 := cell_of_row _ _ 4 _ _ _ lHB3
    have r5_lHB3 := cell_of_row _ _ 5 _ _ _ lHB3
    have r6_lHB3 := cell_of_row _ _ 6 _ _ _ lHB3
    have r7_lHB3 := cell_of_row _ _ 7 _ _ _ lHB3
    have r8_lHB3 := cell_of_row _ _ 8 _ _ _ lHB3
    have r9_lHB3 := cell_of_row _ _ 9 _ _ _ lHB3
    have f0_lHB3 := frozen_of_row _ _ 0 _ _ lHB3
    have f1_lHB3 := frozen_of_row _ _ 1 _ _ lHB3
    have f2_lHB3 := frozen_of_row _ _ 2 _ _ lHB3
    have f3_lHB3 := frozen_of_row _ _ 3 _ _ lHB3
    have f4_lHB3 := frozen_of_row _ _ 4 _ _ lHB3
    have f5_lHB3 := frozen_of_row _ _ 5 _ _ lHB3
    have f6_lHB3 := frozen_of_row _ _ 6 _ _ lHB3
    have f7_lHB3 := frozen_of_row _ _ 7 _ _ lHB3
    have f8_lHB3 := frozen_of_row _ _ 8 _ _ lHB3
    have f9_lHB3 := frozen_of_row _ _ 9 _ _ lHB3
    simp at r0_lHB3 r1_lHB3 r2_lHB3 r3_lHB3 r4_lHB3 r5_lHB3 r6_lHB3 r7_lHB3 r8_lHB3 r9_lHB3
    clear lHB3
    go_wp2_with fail
    apply bodyPost_ret (results_cell_row (P := Try.prog) (fn := Try.f44) rfl _ _ _ 29 _ (0, 0) _ rfl _ Try.underlying29 rfl _) rfl
    rotate_left 2
    · repeat (first | (with_reducible apply heap_setCell_same) | (with_reducible apply drew_row) | (with_reducible apply drewN_row) | (with_reducible exact HR3.out) | (with_reducible refine (heap_setCell_other _ _ _ _ (by first | omega | (simp; done) | (simp; omega))).trans ?_) | (with_reducible refine (Below.heap_alloc _ _ _ (by first | omega | (simp; done) | (simp; omega))).trans ?_))
    · kernel_rfl
    exact ⟨⟨x3, x.now, x.bef, x.two⟩, .slice A1 x.now.rs.length c1, .slice A2 x.bef.rs.length c2, by first | (simp; done) | (simp; rfl), (OwnE.mono (base := w.heap.size + 1) (by repeat (first | with_reducible exact HQ1.out | with_reducible refine OwnE.setBelow ?_ (by first | (simp; done) | (simp; omega)) _ | with_reducible refine OwnE.setNew HO1.out (by first | exact Nat.le_refl _ | omega | (simp; omega)) ?_ _ | with_reducible refine OwnE.alloc ?_ _ | with_reducible refine OwnE.drew ?_)) (by omega)), (OwnE.mono (base := w.heap.size + 1) (by repeat (first | with_reducible exact HQ2.out | with_reducible refine OwnE.setBelow ?_ (by first | (simp; done) | (simp; omega)) _ | with_reducible refine OwnE.setNew HO2.out (by first | exact Nat.le_refl _ | omega | (simp; omega)) ?_ _ | with_reducible refine OwnE.alloc ?_ _ | with_reducible refine OwnE.drew ?_)) (by omega)), ⟨n1, n2⟩, ⟨HF1.out, HF2.out⟩, ⟨hl3, hh3⟩, (by repeat (first | with_reducible assumption | with_reducible refine Cur.alloc ?_ _ | with_reducible refine Cur.drew ?_ | with_reducible refine Cur.setOther ?_ (by first | omega | (simp; done) | (simp; omega)) (by first | omega | (simp; done) | (simp; omega)) _)), (by repeat (first | with_reducible assumption | with_reducible exact World.grownBy.refl _ _ | with_reducible refine only_alloc ?_ _ | with_reducible refine only_drew ?_ | with_reducible refine only_drewN ?_ _ | with_reducible refine only_setNew ?_ (by first | omega | (simp; done) | (simp; omega)) _ | (with_reducible refine only_trans ?_ (by with_reducible assumption))))⟩
  have h0 : (x2 == 0) = false := by simpa using h0
  by_cases h1 : x2 = 1
  · subst h1
    have lHR2 := HR2.out
    have r0_lHR2 := cell_of_row _ _ 0 _ _ _ lHR2
    have r1_lHR2 := cell_of_row _ _ 1 _ _ _ lHR2
    have r2_lHR2 := cell_of_row _ _ 2 _ _ _ lHR2
    have r3_lHR2 := cell_of_row _ _ 3 _ _ _ lHR2
    have r4_lHR2 := cell_of_row _ _ 4 _ _ _ lHR2
    have r5_lHR2 := cell_of_row _ _ 5 _ _ _ lHR2
    have r6_lHR2 := cell_of_row _ _ 6 _ _ _ lHR2
    have r7_lHR2 := cell_of_row _ _ 7 _ _ _ lHR2
    have r8_lHR2 := cell_of_row _ _ 8 _ _ _ lHR2
    have r9_lHR2 := cell_of_row _ _ 9 _ _ _ lHR2
    have f0_lHR2 := frozen_of_row _ _ 0 _ _ lHR2
    have f1_lHR2 := frozen_of_row _ _ 1 _ _ lHR2
    have f2_lHR2 := frozen_of_row _ _ 2 _ _ lHR2
    have f3_lHR2 := frozen_of_row _ _ 3 _ _ lHR2
    have f4_lHR2 := frozen_of_row _ _ 4 _ _ lHR2
    have f5_lHR2 := frozen_of_row _ _ 5 _ _ lHR2
    have f6_lHR2 := frozen_of_row _ _ 6 _ _ lHR2
    have f7_lHR2 := frozen_of_row _ _ 7 _ _ lHR2
    have f8_lHR2 := frozen_of_row _ _ 8 _ _ lHR2
    have f9_lHR2 := frozen_of_row _ _ 9 _ _ lHR2
    simp at r0_lHR2 r1_lHR2 r2_lHR2 r3_lHR2 r4_lHR2 r5_lHR2 r6_lHR2 r7_lHR2 r8_lHR2 r9_lHR2
    clear lHR2
    have lHB2 := HB2.out
    have r0_lHB2 := cell_of_row _ _ 0 _ _ _ lHB2
    have r1_lHB2 := cell_of_row _ _ 1 _ _ _ lHB2
    have r2_lHB2 := cell_of_row _ _ 2 _ _ _ lHB2
    have r3_lHB2 := cell_of_row _ _ 3 _ _ _ lHB2
    have r4_lHB2 := cell_of_row _ _ 4 _ _ _ lHB2
    have r5_lHB2 := cell_of_row _ _ 5 _ _ _ lHB2
    have r6_lHB2 := cell_of_row _ _ 6 _ _ _ lHB2
    have r7_lHB2 := cell_of_row _ _ 7 _ _ _ lHB2
    have r8_lHB2 := cell_of_row _ _ 8 _ _ _ lHB2
    have r9_lHB2 := cell_of_row _ _ 9 _ _ _ lHB2
    have f0_lHB2 := frozen_of_row _ _ 0 _ _ lHB2
    have f1_lHB2 := frozen_of_row _ _ 1 _ _ lHB2
    have f2_lHB2 := frozen_of_row _ _ 2 _ _ lHB2
    have f3_lHB2 := frozen_of_row _ _ 3 _ _ lHB2
    have f4_lHB2 := frozen_of_row _ _ 4 _ _ lHB2
    have f5_lHB2 := frozen_of_row _ _ 5 _ _ lHB2
    have f6_lHB2 := frozen_of_row _ _ 6 _ _ lHB2
    have f7_lHB2 := frozen_of_row _ _ 7 _ _ lHB2
    have f8_lHB2 := frozen_of_row _ _ 8 _ _ lHB2
    have f9_lHB2 := frozen_of_row _ _ 9 _ _ lHB2
    simp at r0_lHB2 r1_lHB2 r2_lHB2 r3_lHB2 r4_lHB2 r5_lHB2 r6_lHB2 r7_lHB2 r8_lHB2 r9_lHB2
    clear lHB2
    go_wp2_with fail
    apply bodyPost_ret (results_cell_row (P := Try.prog) (fn := Try.f44) rfl _ _ _ 29 _ (0, 0) _ rfl _ Try.underlying29 rfl _) rfl
    rotate_left 2
    · repeat (first | (with_reducible apply heap_setCell_same) | (with_reducible apply drew_row) | (with_reducible apply drewN_row) | (with_reducible exact HR2.out) | (with_reducible refine (heap_setCell_other _ _ _ _ (by first | omega | (simp; done) | (simp; omega))).trans ?_) | (with_reducible refine (Below.heap_alloc _ _ _ (by first | omega | (simp; done) | (simp; omega))).trans ?_))
    · kernel_rfl
    exact ⟨⟨x.ep, x.now, x.bef, !x.two⟩, .slice A1 x.now.rs.length c1, .slice A2 x.bef.rs.length c2, by first | (simp; done) | (simp; rfl), (OwnE.mono (base := w.heap.size + 1) (by repeat (first | with_reducible exact HP1.out | with_reducible refine OwnE.setBelow ?_ (by first | (simp; done) | (simp; omega)) _ | with_reducible refine OwnE.setNew HO1.out (by first | exact Nat.le_refl _ | omega | (simp; omega)) ?_ _ | with_reducible refine OwnE.alloc ?_ _ | with_reducible refine OwnE.drew ?_)) (by omega)), (OwnE.mono (base := w.heap.size + 1) (by repeat (first | with_reducible exact HP2.out | with_reducible refine OwnE.setBelow ?_ (by first | (simp; done) | (simp; omega)) _ | with_reducible refine OwnE.setNew HO2.out (by first | exact Nat.le_refl _ | omega | (simp; omega)) ?_ _ | with_reducible refine OwnE.alloc ?_ _ | with_reducible refine OwnE.drew ?_)) (by omega)), ⟨n1, n2⟩, ⟨HF1.out, HF2.out⟩, ⟨he1, he2⟩, (by repeat (first | with_reducible assumption | with_reducible refine Cur.alloc ?_ _ | with_reducible refine Cur.drew ?_ | with_reducible refine Cur.setOther ?_ (by first | omega | (simp; done) | (simp; omega)) (by first | omega | (simp; done) | (simp; omega)) _)), (by repeat (first | with_reducible assumption | with_reducible exact World.grownBy.refl _ _ | with_reducible refine only_alloc ?_ _ | with_reducible refine only_drew ?_ | with_reducible refine only_drewN ?_ _ | with_reducible refine only_setNew ?_ (by first | omega | (simp; done) | (simp; omega)) _ | (with_reducible refine only_trans ?_ (by with_reducible assumption))))⟩
  have h1 : (x2 == 1) = false := by simpa using h1
  by_cases h2 : x2 = 2
  · subst h2
    go_wp2_with fail
    refine (l11Mac_any hc2).mono ?_
    rintro e w3 ⟨mu, mk, ml, v3, rs, rfl, hO3, n3, f3, hc3, ho3⟩
    obtain ⟨A3, c3, rfl⟩ := hO3.form
    have HO3 : Hid (OwnMacRow w3 w2.heap.size (.slice A3 rs.length c3) rs) := Lib.hid hO3
    have HF3 := Lib.hid f3
    have hlt3 := hc3.lt
    have hz3 := ho3.size
    have hg3 : w.grownBy w3 (some g) := only_trans hg2 ho3
    have HR3 : Hid (w3.heap[w.heap.size]? = some (.cells #[.int .i64 0, .bool false, .int .u64 0, .int .u64 0, .slice none 0 0, .bool false, .int .u64 0, .int .u64 0, .slice none 0 0, .bool false] 29 (0, 0))) := Lib.hid ((grow ho3 (by first | (simp; omega) | omega) (by omega)).trans (by repeat (first | (with_reducible apply heap_setCell_same) | (with_reducible apply drew_row) | (with_reducible apply drewN_row) | (with_reducible exact HR2.out) | (with_reducible refine (heap_setCell_other _ _ _ _ (by first | omega | (simp; done) | (simp; omega))).trans ?_) | (with_reducible refine (Below.heap_alloc _ _ _ (by first | omega | (simp; done) | (simp; omega))).trans ?_))))
    have HB3 : Hid (w3.heap[w1.heap.size]? = some (.cells #[.int .i64 x.ep, .bool x.now.u, .int .u64 (uI x.now.k), .int .u64 (uI x.now.l), .slice A1 x.now.rs.length c1, .bool x.bef.u, .int .u64 (uI x.bef.k), .int .u64 (uI x.bef.l), .slice A2 x.bef.rs.length c2, .bool x.two] 29 (0, 0))) := Lib.hid ((grow ho3 (by first | (simp; omega) | omega) (by omega)).trans (by repeat (first | (with_reducible apply heap_setCell_same) | (with_reducible apply drew_row) | (with_reducible apply drewN_row) | (with_reducible exact HB2.out) | (with_reducible refine (heap_setCell_other _ _ _ _ (by first | omega | (simp; done) | (simp; omega))).trans ?_) | (with_reducible refine (Below.heap_alloc _ _ _ (by first | omega | (simp; done) | (simp; omega))).trans ?_))))
    have HQ1 : Hid (OwnMacRow w3 (w.heap.size + 1) (.slice A1 x.now.rs.length c1) x.now.rs) := Lib.hid (HP1.out.grow ho3 (by omega))
    have HQ2 : Hid (OwnMacRow w3 (w.heap.size + 1) (.slice A2 x.bef.rs.length c2) x.bef.rs) := Lib.hid (HP2.out.grow ho3 (by omega))
    clear ho3 HR2 HB2 HP1 HP2 hO3 f3
    have lHR3 := HR3.out
    have r0_lHR3 := cell_of_row _ _ 0 _ _ _ lHR3
    have r1_lHR3 := cell_of_row _ _ 1 _ _ _ lHR3
    have r2_lHR3 := cell_of_row _ _ 2 _ _ _ lHR3
    have r3_lHR3 := cell_of_row _ _ 3 _ _ _ lHR3
    have r4_lHR3 := cell_of_row _ _ 4 _ _ _ lHR3
    have r5_lHR3 := cell_of_row _ _ 5 _ _ _ lHR3
    have r6_lHR3 := cell_of_row _ _ 6 _ _ _ lHR3
    have r7_lHR3 := cell_of_row _ _ 7 _ _ _ lHR3
    have r8_lHR3 := cell_of_row _ _ 8 _ _ _ lHR3
    have r9_lHR3 := cell_of_row _ _ 9 _ _ _ lHR3
    have f0_lHR3 := frozen_of_row _ _ 0 _ _ lHR3
    have f1_lHR3 := frozen_of_row _ _ 1 _ _ lHR3
    have f2_lHR3 := frozen_of_row _ _ 2 _ _ lHR3
    have f3_lHR3 := frozen_of_row _ _ 3 _ _ lHR3
    have f4_lHR3 := frozen_of_row _ _ 4 _ _ lHR3
    have f5_lHR3 := frozen_of_row _ _ 5 _ _ lHR3
    have f6_lHR3 := frozen_of_row _ _ 6 _ _ lHR3
    have f7_lHR3 := frozen_of_row _ _ 7 _ _ lHR3
    have f8_lHR3 := frozen_of_row _ _ 8 _ _ lHR3
    have f9_lHR3 := frozen_of_row _ _ 9 _ _ lHR3
    simp at r0_lHR3 r1_lHR3 r2_lHR3 r3_lHR3 r4_lHR3 r5_lHR3 r6_lHR3 r7_lHR3 r8_lHR3 r9_lHR3
    clear lHR3
    have lHB3 := HB3.out
    have r0_lHB3 := cell_of_row _ _ 0 _ _ _ lHB3
    have r1_lHB3 := cell_of_row _ _ 1 _ _ _ lHB3
    have r2_lHB3 := cell_of_row _ _ 2 _ _ _ lHB3
    have r3_lHB3 := cell_of_row _ _ 3 _ _ _ lHB3
    have r4_lHB3 := cell_of_row _ _ 4 _ _ _ lHB3
    have r5_lHB3 := cell_of_row _ _ 5 _ _ _ lHB3
    have r6_lHB3 := cell_of_row _ _ 6 _ _ _ lHB3
    have r7_lHB3 := cell_of_row _ _ 7 _ _ _ lHB3
    have r8_lHB3 := cell_of_row _ _ 8 _ _ _ lHB3
    have r9_lHB3 := cell_of_row _ _ 9 _ _ _ lHB3
    have f0_lHB3 := frozen_of_row _ _ 0 _ _ lHB3
    have f1_lHB3 := frozen_of_row _ _ 1 _ _ lHB3
    have f2_lHB3 := frozen_of_row _ _ 2 _ _ lHB3
    have f3_lHB3 := frozen_of_row _ _ 3 _ _ lHB3
    have f4_lHB3 := frozen_of_row _ _ 4 _ _ lHB3
    have f5_lHB3 := frozen_of_row _ _ 5 _ _ lHB3
    have f6_lHB3 := frozen_of_row _ _ 6 _ _ lHB3
    have f7_lHB3 := frozen_of_row _ _ 7 _ _ lHB3
    have f8_lHB3 := frozen_of_row _ _ 8 _ _ lHB3
    have f9_lHB3 := frozen_of_row _ _ 9 _ _ lHB3
    simp at r0_lHB3 r1_lHB3 r2_lHB3 r3_lHB3 r4_lHB3 r5_lHB3 r6_lHB3 r7_lHB3 r8_lHB3 r9_lHB3
    clear lHB3
    go_wp2_with fail
    apply bodyPost_ret (results_cell_row (P := Try.prog) (fn := Try.f44) rfl _ _ _ 29 _ (0, 0) _ rfl _ Try.underlying29 rfl _) rfl
    rotate_left 2
    · repeat (first | (with_reducible apply heap_setCell_same) | (with_reducible apply drew_row) | (with_reducible apply drewN_row) | (with_reducible exact HR3.out) | (with_reducible refine (heap_setCell_other _ _ _ _ (by first | omega | (simp; done) | (simp; omega))).trans ?_) | (with_reducible refine (Below.heap_alloc _ _ _ (by first | omega | (simp; done) | (simp; omega))).trans ?_))
    · kernel_rfl
    exact ⟨⟨x.ep, ⟨mu, mk, ml, rs⟩, x.bef, x.two⟩, .slice A3 rs.length c3, .slice A2 x.bef.rs.length c2, by first | (simp; done) | (simp; rfl), (OwnE.mono (base := w2.heap.size) (by repeat (first | with_reducible exact HO3.out | (with_reducible refine OwnE.setBelow ?_ (by first | (simp; done) | (simp; omega)) _) | with_reducible refine OwnE.alloc ?_ _ | with_reducible refine OwnE.drew ?_)) (by omega)), (OwnE.mono (base := w.heap.size + 1) (by repeat (first | with_reducible exact HQ2.out | with_reducible refine OwnE.setBelow ?_ (by first | (simp; done) | (simp; omega)) _ | with_reducible refine OwnE.setNew HO2.out (by first | exact Nat.le_refl _ | omega | (simp; omega)) ?_ _ | with_reducible refine OwnE.alloc ?_ _ | with_reducible refine OwnE.drew ?_)) (by omega)), ⟨n3, n2⟩, ⟨HF3.out, HF2.out⟩, ⟨he1, he2⟩, (by repeat (first | with_reducible assumption | with_reducible refine Cur.alloc ?_ _ | with_reducible refine Cur.drew ?_ | with_reducible refine Cur.setOther ?_ (by first | omega | (simp; done) | (simp; omega)) (by first | omega | (simp; done) | (simp; omega)) _)), (by repeat (first | with_reducible assumption | with_reducible exact World.grownBy.refl _ _ | with_reducible refine only_alloc ?_ _ | with_reducible refine only_drew ?_ | with_reducible refine only_drewN ?_ _ | with_reducible refine only_setNew ?_ (by first | omega | (simp; done) | (simp; omega)) _ | (with_reducible refine only_trans ?_ (by with_reducible assumption))))⟩
  have h2 : (x2 == 2) = false := by simpa using h2
  by_cases h3 : x2 = 3
  · subst h3
    go_wp2_with fail
    refine (l11Mac_any hc2).mono ?_
    rintro e w3 ⟨mu, mk, ml, v3, rs, rfl, hO3, n3, f3, hc3, ho3⟩
    obtain ⟨A3, c3, rfl⟩ := hO3.form
    have HO3 : Hid (OwnMacRow w3 w2.heap.size (.slice A3 rs.length c3) rs) := Lib.hid hO3
    have HF3 := Lib.hid f3
    have hlt3 := hc3.lt
    have hz3 := ho3.size
    have hg3 : w.grownBy w3 (some g) := only_trans hg2 ho3
    have HR3 : Hid (w3.heap[w.heap.size]? = some (.cells #[.int .i64 0, .bool false, .int .u64 0, .int .u64 0, .slice none 0 0, .bool false, .int .u64 0, .int .u64 0, .slice none 0 0, .bool false] 29 (0, 0))) := Lib.hid ((grow ho3 (by first | (simp; omega) | omega) (by omega)).trans (by repeat (first | (with_reducible apply heap_setCell_same) | (with_reducible apply drew_row) | (with_reducible apply drewN_row) | (with_reducible exact HR2.out) | (with_reducible refine (heap_setCell_other _ _ _ _ (by first | omega | (simp; done) | (simp; omega))).trans ?_) | (with_reducible refine (Below.heap_alloc _ _ _ (by first | omega | (simp; done) | (simp; omega))).trans ?_))))
    have HB3 : Hid (w3.heap[w1.heap.size]? = some (.cells #[.int .i64 x.ep, .bool x.now.u, .int .u64 (uI x.now.k), .int .u64 (uI x.now.l), .slice A1 x.now.rs.length c1, .bool x.bef.u, .int .u64 (uI x.bef.k), .int .u64 (uI x.bef.l), .slice A2 x.bef.rs.length c2, .bool x.two] 29 (0, 0))) := Lib.hid ((grow ho3 (by first | (simp; omega) | omega) (by omega)).trans (by repeat (first | (with_reducible apply heap_setCell_same) | (with_reducible apply drew_row) | (with_reducible apply drewN_row) | (with_reducible exact HB2.out) | (with_reducible refine (heap_setCell_other _ _ _ _ (by first | omega | (simp; done) | (simp; omega))).trans ?_) | (with_reducible refine (Below.heap_alloc _ _ _ (by first | omega | (simp; done) | (simp; omega))).trans ?_))))
    have HQ1 : Hid (OwnMacRow w3 (w.heap.size + 1) (.slice A1 x.now.rs.length c1) x.now.rs) := Lib.hid (HP1.out.grow ho3 (by omega))
    have HQ2 : Hid (OwnMacRow w3 (w.heap.size + 1) (.slice A2 x.bef.rs.length c2) x.bef.rs) := Lib.hid (HP2.out.grow ho3 (by omega))
    clear ho3 HR2 HB2 HP1 HP2 hO3 f3
    have lHR3 := HR3.out
    have r0_lHR3 := cell_of_row _ _ 0 _ _ _ lHR3
    have r1_lHR3 := cell_of_row _ _ 1 _ _ _ lHR3
    have r2_lHR3 := cell_of_row _ _ 2 _ _ _ lHR3
    have r3_lHR3 := cell_of_row _ _ 3 _ _ _ lHR3
    have r4_lHR3 := cell_of_row _ _ 4 _ _ _ lHR3
    have r5_lHR3 := cell_of_row _ _ 5 _ _ _ lHR3
    have r6_lHR3 := cell_of_row _ _ 6 _ _ _ lHR3
    have r7_lHR3 := cell_of_row _ _ 7 _ _ _ lHR3
    have r8_lHR3 := cell_of_row _ _ 8 _ _ _ lHR3
    have r9_lHR3 := cell_of_row _ _ 9 _ _ _ lHR3
    have f0_lHR3 := frozen_of_row _ _ 0 _ _ lHR3
    have f1_lHR3 := frozen_of_row _ _ 1 _ _ lHR3
    have f2_lHR3 := frozen_of_row _ _ 2 _ _ lHR3
    have f3_lHR3 := frozen_of_row _ _ 3 _ _ lHR3
    have f4_lHR3 := frozen_of_row _ _ 4 _ _ lHR3
    have f5_lHR3 := frozen_of_row _ _ 5 _ _ lHR3
    have f6_lHR3 := frozen_of_row _ _ 6 _ _ lHR3
    have f7_lHR3 := frozen_of_row _ _ 7 _ _ lHR3
    have f8_lHR3 := frozen_of_row _ _ 8 _ _ lHR3
    have f9_lHR3 := frozen_of_row _ _ 9 _ _ lHR3
    simp at r0_lHR3 r1_lHR3 r2_lHR3 r3_lHR3 r4_lHR3 r5_lHR3 r6_lHR3 r7_lHR3 r8_lHR3 r9_lHR3
    clear lHR3
    have lHB3 := HB3.out
    have r0_lHB3 := cell_of_row _ _ 0 _ _ _ lHB3
    have r1_lHB3 := cell_of_row _ _ 1 _ _ _ lHB3
    have r2_lHB3 := cell_of_row _ _ 2 _ _ _ lHB3
    have r3_lHB3 := cell_of_row _ _ 3 _ _ _ lHB3
    have r4_lHB3 := cell_of_row _ _ 4 _ _ _ lHB3
    have r5_lHB3 := cell_of_row _ _ 5 _ _ _ lHB3
    have r6_lHB3 := cell_of_row _ _ 6 _ _ _ lHB3
    have r7_lHB3 := cell_of_row _ _ 7 _ _ _ lHB3
    have r8_lHB3 := cell_of_row _ _ 8 _ _ _ lHB3
    have r9_lHB3 := cell_of_row _ _ 9 _ _ _ lHB3
    have f0_lHB3 := frozen_of_row _ _ 0 _ _ lHB3
    have f1_lHB3 := frozen_of_row _ _ 1 _ _ lHB3
    have f2_lHB3 := frozen_of_row _ _ 2 _ _ lHB3
    have f3_lHB3 := frozen_of_row _ _ 3 _ _ lHB3
    have f4_lHB3 := frozen_of_row _ _ 4 _ _ lHB3
    have f5_lHB3 := frozen_of_row _ _ 5 _ _ lHB3
    have f6_lHB3 := frozen_of_row _ _ 6 _ _ lHB3
    have f7_lHB3 := frozen_of_row _ _ 7 _ _ lHB3
    have f8_lHB3 := frozen_of_row _ _ 8 _ _ lHB3
    have f9_lHB3 := frozen_of_row _ _ 9 _ _ lHB3
    simp at r0_lHB3 r1_lHB3 r2_lHB3 r3_lHB3 r4_lHB3 r5_lHB3 r6_lHB3 r7_lHB3 r8_lHB3 r9_lHB3
    clear lHB3
    go_wp2_with fail
    apply bodyPost_ret (results_cell_row (P := Try.prog) (fn := Try.f44) rfl _ _ _ 29 _ (0, 0) _ rfl _ Try.underlying29 rfl _) rfl
    rotate_left 2
    · repeat (first | (with_reducible apply heap_setCell_same) | (with_reducible apply drew_row) | (with_reducible apply drewN_row) | (with_reducible exact HR3.out) | (with_reducible refine (heap_setCell_other _ _ _ _ (by first | omega | (simp; done) | (simp; omega))).trans ?_) | (with_reducible refine (Below.heap_alloc _ _ _ (by first | omega | (simp; done) | (simp; omega))).trans ?_))
    · kernel_rfl
    exact ⟨⟨x.ep, x.now, ⟨mu, mk, ml, rs⟩, x.two⟩, .slice A1 x.now.rs.length c1, .slice A3 rs.length c3, by first | (simp; done) | (simp; rfl), (OwnE.mono (base := w.heap.size + 1) (by repeat (first | with_reducible exact HQ1.out | with_reducible refine OwnE.setBelow ?_ (by first | (simp; done) | (simp; omega)) _ | with_reducible refine OwnE.setNew HO1.out (by first | exact Nat.le_refl _ | omega | (simp; omega)) ?_ _ | with_reducible refine OwnE.alloc ?_ _ | with_reducible refine OwnE.drew ?_)) (by omega)), (OwnE.mono (base := w2.heap.size) (by repeat (first | with_reducible exact HO3.out | (with_reducible refine OwnE.setBelow ?_ (by first | (simp; done) | (simp; omega)) _) | with_reducible refine OwnE.alloc ?_ _ | with_reducible refine OwnE.drew ?_)) (by omega)), ⟨n1, n3⟩, ⟨HF1.out, HF3.out⟩, ⟨he1, he2⟩, (by repeat (first | with_reducible assumption | with_reducible refine Cur.alloc ?_ _ | with_reducible refine Cur.drew ?_ | with_reducible refine Cur.setOther ?_ (by first | omega | (simp; done) | (simp; omega)) (by first | omega | (simp; done) | (simp; omega)) _)), (by repeat (first | with_reducible assumption | with_reducible exact World.grownBy.refl _ _ | with_reducible refine only_alloc ?_ _ | with_reducible refine only_drew ?_ | with_reducible refine only_drewN ?_ _ | with_reducible refine only_setNew ?_ (by first | omega | (simp; done) | (simp; omega)) _ | (with_reducible refine only_trans ?_ (by with_reducible assumption))))⟩
  have h3 : (x2 == 3) = false := by simpa using h3
  have lHR2 := HR2.out
  have r0_lHR2 := cell_of_row _ _ 0 _ _ _ lHR2
  have r1_lHR2 := cell_of_row _ _ 1 _ _ _ lHR2
  have r2_lHR2 := cell_of_row _ _ 2 _ _ _ lHR2
  have r3_lHR2 := cell_of_row _ _ 3 _ _ _ lHR2
  have r4_lHR2 := cell_of_row _ _ 4 _ _ _ lHR2
  have r5_lHR2 := cell_of_row _ _ 5 _ _ _ lHR2
  have r6_lHR2 := cell_of_row _ _ 6 _ _ _ lHR2
  have r7_lHR2 := cell_of_row _ _ 7 _ _ _ lHR2
  have r8_lHR2 := cell_of_row _ _ 8 _ _ _ lHR2
  have r9_lHR2 := cell_of_row _ _ 9 _ _ _ lHR2
  have f0_lHR2 := frozen_of_row _ _ 0 _ _ lHR2
  have f1_lHR2 := frozen_of_row _ _ 1 _ _ lHR2
  have f2_lHR2 := frozen_of_row _ _ 2 _ _ lHR2
  have f3_lHR2 := frozen_of_row _ _ 3 _ _ lHR2
  have f4_lHR2 := frozen_of_row _ _ 4 _ _ lHR2
  have f5_lHR2 := frozen_of_row _ _ 5 _ _ lHR2
  have f6_lHR2 := frozen_of_row _ _ 6 _ _ lHR2
  have f7_lHR2 := frozen_of_row _ _ 7 _ _ lHR2
  have f8_lHR2 := frozen_of_row _ _ 8 _ _ lHR2
  have f9_lHR2 := frozen_of_row _ _ 9 _ _ lHR2
  simp at r0_lHR2 r1_lHR2 r2_lHR2 r3_lHR2 r4_lHR2 r5_lHR2 r6_lHR2 r7_lHR2 r8_lHR2 r9_lHR2
  clear lHR2
  have lHB2 := HB2.out
  have r0_lHB2 := cell_of_row _ _ 0 _ _ _ lHB2
  have r1_lHB2 := cell_of_row _ _ 1 _ _ _ lHB2
  have r2_lHB2 := cell_of_row _ _ 2 _ _ _ lHB2
  have r3_lHB2 := cell_of_row _ _ 3 _ _ _ lHB2
  have r4_lHB2 := cell_of_row _ _ 4 _ _ _ lHB2
  have r5_lHB2 := cell_of_row _ _ 5 _ _ _ lHB2
  have r6_lHB2 := cell_of_row _ _ 6 _ _ _ lHB2
  have r7_lHB2 := cell_of_row _ _ 7 _ _ _ lHB2
  have r8_lHB2 := cell_of_row _ _ 8 _ _ _ lHB2
  have r9_lHB2 := cell_of_row _ _ 9 _ _ _ lHB2
  have f0_lHB2 := frozen_of_row _ _ 0 _ _ lHB2
  have f1_lHB2 := frozen_of_row _ _ 1 _ _ lHB2
  have f2_lHB2 := frozen_of_row _ _ 2 _ _ lHB2
  have f3_lHB2 := frozen_of_row _ _ 3 _ _ lHB2
  have f4_lHB2 := frozen_of_row _ _ 4 _ _ lHB2
  have f5_lHB2 := frozen_of_row _ _ 5 _ _ lHB2
  have f6_lHB2 := frozen_of_row _ _ 6 _ _ lHB2
  have f7_lHB2 := frozen_of_row _ _ 7 _ _ lHB2
  have f8_lHB2 := frozen_of_row _ _ 8 _ _ lHB2
  have f9_lHB2 := frozen_of_row _ _ 9 _ _ lHB2
  simp at r0_lHB2 r1_lHB2 r2_lHB2 r3_lHB2 r4_lHB2 r5_lHB2 r6_lHB2 r7_lHB2 r8_lHB2 r9_lHB2
  clear lHB2
  go_wp2_with fail
  apply bodyPost_ret (results_cell_row (P := Try.prog) (fn := Try.f44) rfl _ _ _ 29 _ (0, 0) _ rfl _ Try.underlying29 rfl _) rfl
  rotate_left 2
  · repeat (first | (with_reducible apply heap_setCell_same) | (with_reducible apply drew_row) | (with_reducible apply drewN_row) | (with_reducible exact HR2.out) | (with_reducible refine (heap_setCell_other _ _ _ _ (by first | omega | (simp; done) | (simp; omega))).trans ?_) | (with_reducible refine (Below.heap_alloc _ _ _ (by first | omega | (simp; done) | (simp; omega))).trans ?_))
  · kernel_rfl
  exact ⟨⟨x.ep, x.now, x.bef, x.two⟩, .slice A1 x.now.rs.length c1, .slice A2 x.bef.rs.length c2, by first | (simp; done) | (simp; rfl), (OwnE.mono (base := w.heap.size + 1) (by repeat (first | with_reducible exact HP1.out | with_reducible refine OwnE.setBelow ?_ (by first | (simp; done) | (simp; omega)) _ | with_reducible refine OwnE.setNew HO1.out (by first | exact Nat.le_refl _ | omega | (simp; omega)) ?_ _ | with_reducible refine OwnE.alloc ?_ _ | with_reducible refine OwnE.drew ?_)) (by omega)), (OwnE.mono (base := w.heap.size + 1) (by repeat (first | with_reducible exact HP2.out | with_reducible refine OwnE.setBelow ?_ (by first | (simp; done) | (simp; omega)) _ | with_reducible refine OwnE.setNew HO2.out (by first | exact Nat.le_refl _ | omega | (simp; omega)) ?_ _ | with_reducible refine OwnE.alloc ?_ _ | with_reducible refine OwnE.drew ?_)) (by omega)), ⟨n1, n2⟩, ⟨HF1.out, HF2.out⟩, ⟨he1, he2⟩, (by repeat (first | with_reducible assumption | with_reducible refine Cur.alloc ?_ _ | with_reducible refine Cur.drew ?_ | with_reducible refine Cur.setOther ?_ (by first | omega | (simp; done) | (simp; omega)) (by first | omega | (simp; done) | (simp; omega)) _)), (by repeat (first | with_reducible assumption | with_reducible exact World.grownBy.refl _ _ | with_reducible refine only_alloc ?_ _ | with_reducible refine only_drew ?_ | with_reducible refine only_drewN ?_ _ | with_reducible refine only_setNew ?_ (by first | omega | (simp; done) | (simp; omega)) _ | (with_reducible refine only_trans ?_ (by with_reducible assumption))))⟩
end Go.Proofs.Ytjlnbjabehpncaa
