/-
  The draws of a sender out of a code.
-/
import Derived.Test.YtkkpeienbhbgeaaSdw
import Derived.Test.YtkkpeienbhbgeaaBytes
import Derived.IntWalk
namespace Go.Proofs.Ytkkpeienbhbgeaa
set_option maxRecDepth 100000
open Go.RowKit Go.Deep
/-- A sender that was drawn and bent. -/
def SndBent (u : Int) (d : ByteArray) (s : Int) : Prop := I64 u ∧ d.size ≤ 49 ∧ (-1 ≤ s ∧ s ≤ 50)
def DrewBent (w : World) (B g : Nat) (e : Ending) (w' : World) : Prop := ∃ (u : Int) (d : ByteArray) (s : Int) (f fs dn : Bool), e = .returned (vSn u d s f fs dn) ∧ SndBent u d s ∧ Cur w' B g ∧ w.grownBy w' (some g)
set_option maxHeartbeats 8000000 in
set_option linter.unusedVariables false in
theorem l17Bent_any {w : World} {B g : Nat} (hcur : Cur w B g) :
    Calls Try.prog 53 #[.pointer (some ⟨g, 0, none⟩)] w (DrewBent w B g) := by
  have hlt := hcur.lt
  have hlow := hcur.low
  go_enter Try.func53, Try.ntmps53
  go_wp2_with fail
  refine (l17Sender_any (B := B) (by repeat (first | with_reducible assumption | with_reducible refine Cur.alloc ?_ _ | with_reducible refine Cur.drew ?_ | with_reducible refine Cur.setOther ?_ (by first | omega | (simp; done) | (simp; omega)) (by first | omega | (simp; done) | (simp; omega)) _))).mono ?_
  rintro e w1 ⟨u, d, s, f, fs, dn, rfl, ⟨⟨hu1, hu2⟩, hd, hs1, hs2⟩, hc1, ho1⟩
  have hz1 := ho1.size
  simp at hz1
  have hlt1 := hc1.lt
  go_wp2_with fail
  refine (l1Below_any (B := B) (by repeat (first | with_reducible assumption | with_reducible refine Cur.alloc ?_ _ | with_reducible refine Cur.drew ?_ | with_reducible refine Cur.setOther ?_ (by first | omega | (simp; done) | (simp; omega)) (by first | omega | (simp; done) | (simp; omega)) _)) 10 (by omega) (by omega)).mono ?_
  rintro e w2 ⟨y, rfl, ⟨hy1, hy2⟩, hc2, ho2⟩
  have hz2 := ho2.size
  simp at hz2
  have hg2 : w.grownBy w2 (some g) := only_trans (only_alloc (only_trans (by repeat (first | with_reducible assumption | with_reducible exact World.grownBy.refl _ _ | with_reducible refine only_alloc ?_ _ | with_reducible refine only_drew ?_ | with_reducible refine only_drewN ?_ _ | with_reducible refine only_setNew ?_ (by first | omega | (simp; done) | (simp; omega)) _ | (with_reducible refine only_trans ?_ (by with_reducible assumption)))) ho1) _) ho2
  have HR2 : Hid (w2.heap[w.heap.size]? = some (.cells #[.int .i64 0, .string ⟨#[]⟩, .int .i64 0, .bool false, .bool false, .bool false] 26 (0, 0))) := Lib.hid ((grow ho2 (by simp; omega) (by omega)).trans ((Below.heap_alloc _ _ _ (by omega)).trans ((grow ho1 (by simp) (by omega)).trans (heap_alloc_new _ _))))
  have HQ2 : Hid (w2.heap[w1.heap.size]? = some (.cells #[.int .i64 u, .string d, .int .i64 s, .bool f, .bool fs, .bool dn] 26 (0, 0))) := Lib.hid ((grow ho2 (by simp) (by omega)).trans (heap_alloc_new _ _))
  have hlq2 : w1.heap.size < w2.heap.size := by omega
  clear ho1 ho2 hcur hc1
  by_cases h0 : y = 0
  · subst h0
    go_wp2_with fail
    refine (l2Word_any hc2).mono ?_
    rintro e w3 ⟨x3, rfl, hi3, hc3, ho3⟩
    have hz3 := ho3.size
    have hg3 : w.grownBy w3 (some g) := only_trans (by repeat (first | with_reducible assumption | with_reducible exact World.grownBy.refl _ _ | with_reducible refine only_alloc ?_ _ | with_reducible refine only_drew ?_ | with_reducible refine only_drewN ?_ _ | with_reducible refine only_setNew ?_ (by first | omega | (simp; done) | (simp; omega)) _ | (with_reducible refine only_trans ?_ (by with_reducible assumption)))) ho3
    have hqr : w3.heap[w1.heap.size]? = some (.cells #[.int .i64 u, .string d, .int .i64 s, .bool f, .bool fs, .bool dn] 26 (0, 0)) := (grow ho3 (by first | omega | (simp; omega)) (by omega)).trans (by repeat (first | (with_reducible apply heap_setCell_same) | (with_reducible apply drew_row) | (with_reducible apply drewN_row) | (with_reducible exact HQ2.out) | (with_reducible refine (heap_setCell_other _ _ _ _ (by first | omega | (simp; done) | (simp; omega))).trans ?_) | (with_reducible refine (Below.heap_alloc _ _ _ (by first | omega | (simp; done) | (simp; omega))).trans ?_)))
    have hrr : w3.heap[w.heap.size]? = some (.cells #[.int .i64 0, .string ⟨#[]⟩, .int .i64 0, .bool false, .bool false, .bool false] 26 (0, 0)) := (grow ho3 (by first | omega | (simp; omega)) (by omega)).trans (by repeat (first | (with_reducible apply heap_setCell_same) | (with_reducible apply drew_row) | (with_reducible apply drewN_row) | (with_reducible exact HR2.out) | (with_reducible refine (heap_setCell_other _ _ _ _ (by first | omega | (simp; done) | (simp; omega))).trans ?_) | (with_reducible refine (Below.heap_alloc _ _ _ (by first | omega | (simp; done) | (simp; omega))).trans ?_)))
    have HRF := Lib.hid hrr
    have r0_hqr := cell_of_row _ _ 0 _ _ _ hqr
    have r1_hqr := cell_of_row _ _ 1 _ _ _ hqr
    have r2_hqr := cell_of_row _ _ 2 _ _ _ hqr
    have r3_hqr := cell_of_row _ _ 3 _ _ _ hqr
    have r4_hqr := cell_of_row _ _ 4 _ _ _ hqr
    have r5_hqr := cell_of_row _ _ 5 _ _ _ hqr
    have f0_hqr := frozen_of_row _ _ 0 _ _ hqr
    have f1_hqr := frozen_of_row _ _ 1 _ _ hqr
    have f2_hqr := frozen_of_row _ _ 2 _ _ hqr
    have f3_hqr := frozen_of_row _ _ 3 _ _ hqr
    have f4_hqr := frozen_of_row _ _ 4 _ _ hqr
    have f5_hqr := frozen_of_row _ _ 5 _ _ hqr
    simp at r0_hqr r1_hqr r2_hqr r3_hqr r4_hqr r5_hqr
    have r0_hrr := cell_of_row _ _ 0 _ _ _ hrr
    have r1_hrr := cell_of_row _ _ 1 _ _ _ hrr
    have r2_hrr := cell_of_row _ _ 2 _ _ _ hrr
    have r3_hrr := cell_of_row _ _ 3 _ _ _ hrr
    have r4_hrr := cell_of_row _ _ 4 _ _ _ hrr
    have r5_hrr := cell_of_row _ _ 5 _ _ _ hrr
    have f0_hrr := frozen_of_row _ _ 0 _ _ hrr
    have f1_hrr := frozen_of_row _ _ 1 _ _ hrr
    have f2_hrr := frozen_of_row _ _ 2 _ _ hrr
    have f3_hrr := frozen_of_row _ _ 3 _ _ hrr
    have f4_hrr := frozen_of_row _ _ 4 _ _ hrr
    have f5_hrr := frozen_of_row _ _ 5 _ _ hrr
    simp at r0_hrr r1_hrr r2_hrr r3_hrr r4_hrr r5_hrr
    clear hqr hrr
    go_wp2_with fail
    apply bodyPost_ret (results_cell_row (P := Try.prog) (fn := Try.f53) rfl _ _ _ 26 _ (0, 0) _ rfl _ Try.underlying26 rfl _) rfl
    rotate_left 2
    · repeat (first | (with_reducible apply heap_setCell_same) | (with_reducible apply drew_row) | (with_reducible apply drewN_row) | (with_reducible exact HRF.out) | (with_reducible refine (heap_setCell_other _ _ _ _ (by first | omega | (simp; done) | (simp; omega))).trans ?_) | (with_reducible refine (Below.heap_alloc _ _ _ (by first | omega | (simp; done) | (simp; omega))).trans ?_))
    · kernel_rfl
    exact ⟨x3, d, s, f, fs, dn, by first | (simp; done) | (simp; rfl), ⟨hi3, by omega, ⟨by omega, by omega⟩⟩, (by repeat (first | with_reducible assumption | with_reducible refine Cur.alloc ?_ _ | with_reducible refine Cur.drew ?_ | with_reducible refine Cur.setOther ?_ (by first | omega | (simp; done) | (simp; omega)) (by first | omega | (simp; done) | (simp; omega)) _)), (by repeat (first | with_reducible assumption | with_reducible exact World.grownBy.refl _ _ | with_reducible refine only_alloc ?_ _ | with_reducible refine only_drew ?_ | with_reducible refine only_drewN ?_ _ | with_reducible refine only_setNew ?_ (by first | omega | (simp; done) | (simp; omega)) _ | (with_reducible refine only_trans ?_ (by with_reducible assumption))))⟩
  have h0 : (y == 0) = false := by simpa using h0
  by_cases h1 : y = 1
  · subst h1
    have hqr : w2.heap[w1.heap.size]? = some (.cells #[.int .i64 u, .string d, .int .i64 s, .bool f, .bool fs, .bool dn] 26 (0, 0)) := HQ2.out
    have r0_hqr := cell_of_row _ _ 0 _ _ _ hqr
    have r1_hqr := cell_of_row _ _ 1 _ _ _ hqr
    have r2_hqr := cell_of_row _ _ 2 _ _ _ hqr
    have r3_hqr := cell_of_row _ _ 3 _ _ _ hqr
    have r4_hqr := cell_of_row _ _ 4 _ _ _ hqr
    have r5_hqr := cell_of_row _ _ 5 _ _ _ hqr
    have f0_hqr := frozen_of_row _ _ 0 _ _ hqr
    have f1_hqr := frozen_of_row _ _ 1 _ _ hqr
    have f2_hqr := frozen_of_row _ _ 2 _ _ hqr
    have f3_hqr := frozen_of_row _ _ 3 _ _ hqr
    have f4_hqr := frozen_of_row _ _ 4 _ _ hqr
    have f5_hqr := frozen_of_row _ _ 5 _ _ hqr
    simp at r0_hqr r1_hqr r2_hqr r3_hqr r4_hqr r5_hqr
    clear hqr
    go_wp2_with fail
    refine (l1Pick_new (-1) (50) (by repeat (first | with_reducible assumption | with_reducible refine Cur.alloc ?_ _ | with_reducible refine Cur.drew ?_ | with_reducible refine Cur.setOther ?_ (by first | omega | (simp; done) | (simp; omega)) (by first | omega | (simp; done) | (simp; omega)) _)) (by rfl) (by omega) (by omega) (by simp [allInts]; omega)).mono ?_
    rintro e w3 ⟨x3, rfl, ⟨hl3, hh3⟩, hc3, ho3⟩
    have hz3 := ho3.size
    simp at hz3
    have hg3 : w.grownBy w3 (some g) := only_trans (by repeat (first | with_reducible assumption | with_reducible exact World.grownBy.refl _ _ | with_reducible refine only_alloc ?_ _ | with_reducible refine only_drew ?_ | with_reducible refine only_drewN ?_ _ | with_reducible refine only_setNew ?_ (by first | omega | (simp; done) | (simp; omega)) _ | (with_reducible refine only_trans ?_ (by with_reducible assumption)))) ho3
    have hqr : w3.heap[w1.heap.size]? = some (.cells #[.int .i64 u, .string d, .int .i64 s, .bool f, .bool fs, .bool dn] 26 (0, 0)) := (grow ho3 (by first | omega | (simp; omega)) (by omega)).trans (by repeat (first | (with_reducible apply heap_setCell_same) | (with_reducible apply drew_row) | (with_reducible apply drewN_row) | (with_reducible exact HQ2.out) | (with_reducible refine (heap_setCell_other _ _ _ _ (by first | omega | (simp; done) | (simp; omega))).trans ?_) | (with_reducible refine (Below.heap_alloc _ _ _ (by first | omega | (simp; done) | (simp; omega))).trans ?_)))
    have hrr : w3.heap[w.heap.size]? = some (.cells #[.int .i64 0, .string ⟨#[]⟩, .int .i64 0, .bool false, .bool false, .bool false] 26 (0, 0)) := (grow ho3 (by first | omega | (simp; omega)) (by omega)).trans (by repeat (first | (with_reducible apply heap_setCell_same) | (with_reducible apply drew_row) | (with_reducible apply drewN_row) | (with_reducible exact HR2.out) | (with_reducible refine (heap_setCell_other _ _ _ _ (by first | omega | (simp; done) | (simp; omega))).trans ?_) | (with_reducible refine (Below.heap_alloc _ _ _ (by first | omega | (simp; done) | (simp; omega))).trans ?_)))
    have HRF := Lib.hid hrr
    have r0_hqr := cell_of_row _ _ 0 _ _ _ hqr
    have r1_hqr := cell_of_row _ _ 1 _ _ _ hqr
    have r2_hqr := cell_of_row _ _ 2 _ _ _ hqr
    have r3_hqr := cell_of_row _ _ 3 _ _ _ hqr
    have r4_hqr := cell_of_row _ _ 4 _ _ _ hqr
    have r5_hqr := cell_of_row _ _ 5 _ _ _ hqr
    have f0_hqr := frozen_of_row _ _ 0 _ _ hqr
    have f1_hqr := frozen_of_row _ _ 1 _ _ hqr
    have f2_hqr := frozen_of_row _ _ 2 _ _ hqr
    have f3_hqr := frozen_of_row _ _ 3 _ _ hqr
    have f4_hqr := frozen_of_row _ _ 4 _ _ hqr
    have f5_hqr := frozen_of_row _ _ 5 _ _ hqr
    simp at r0_hqr r1_hqr r2_hqr r3_hqr r4_hqr r5_hqr
    have r0_hrr := cell_of_row _ _ 0 _ _ _ hrr
    have r1_hrr := cell_of_row _ _ 1 _ _ _ hrr
    have r2_hrr := cell_of_row _ _ 2 _ _ _ hrr
    have r3_hrr := cell_of_row _ _ 3 _ _ _ hrr
    have r4_hrr := cell_of_row _ _ 4 _ _ _ hrr
    have r5_hrr := cell_of_row _ _ 5 _ _ _ hrr
    have f0_hrr := frozen_of_row _ _ 0 _ _ hrr
    have f1_hrr := frozen_of_row _ _ 1 _ _ hrr
    have f2_hrr := frozen_of_row _ _ 2 _ _ hrr
    have f3_hrr := frozen_of_row _ _ 3 _ _ hrr
    have f4_hrr := frozen_of_row _ _ 4 _ _ hrr
    have f5_hrr := frozen_of_row _ _ 5 _ _ hrr
    simp at r0_hrr r1_hrr r2_hrr r3_hrr r4_hrr r5_hrr
    clear hqr hrr
    go_wp2_with fail
    apply bodyPost_ret (results_cell_row (P := Try.prog) (fn := Try.f53) rfl _ _ _ 26 _ (0, 0) _ rfl _ Try.underlying26 rfl _) rfl
    rotate_left 2
    · repeat (first | (with_reducible apply heap_setCell_same) | (with_reducible apply drew_row) | (with_reducible apply drewN_row) | (with_reducible exact HRF.out) | (with_reducible refine (heap_setCell_other _ _ _ _ (by first | omega | (simp; done) | (simp; omega))).trans ?_) | (with_reducible refine (Below.heap_alloc _ _ _ (by first | omega | (simp; done) | (simp; omega))).trans ?_))
    · kernel_rfl
    exact ⟨u, d, x3, f, fs, dn, by first | (simp; done) | (simp; rfl), ⟨⟨by omega, by omega⟩, by omega, ⟨hl3, hh3⟩⟩, (by repeat (first | with_reducible assumption | with_reducible refine Cur.alloc ?_ _ | with_reducible refine Cur.drew ?_ | with_reducible refine Cur.setOther ?_ (by first | omega | (simp; done) | (simp; omega)) (by first | omega | (simp; done) | (simp; omega)) _)), (by repeat (first | with_reducible assumption | with_reducible exact World.grownBy.refl _ _ | with_reducible refine only_alloc ?_ _ | with_reducible refine only_drew ?_ | with_reducible refine only_drewN ?_ _ | with_reducible refine only_setNew ?_ (by first | omega | (simp; done) | (simp; omega)) _ | (with_reducible refine only_trans ?_ (by with_reducible assumption))))⟩
  have h1 : (y == 1) = false := by simpa using h1
  by_cases h2 : y = 2
  · subst h2
    have hqr : w2.heap[w1.heap.size]? = some (.cells #[.int .i64 u, .string d, .int .i64 s, .bool f, .bool fs, .bool dn] 26 (0, 0)) := HQ2.out
    have hrr : w2.heap[w.heap.size]? = some (.cells #[.int .i64 0, .string ⟨#[]⟩, .int .i64 0, .bool false, .bool false, .bool false] 26 (0, 0)) := HR2.out
    have HRF := Lib.hid hrr
    have r0_hqr := cell_of_row _ _ 0 _ _ _ hqr
    have r1_hqr := cell_of_row _ _ 1 _ _ _ hqr
    have r2_hqr := cell_of_row _ _ 2 _ _ _ hqr
    have r3_hqr := cell_of_row _ _ 3 _ _ _ hqr
    have r4_hqr := cell_of_row _ _ 4 _ _ _ hqr
    have r5_hqr := cell_of_row _ _ 5 _ _ _ hqr
    have f0_hqr := frozen_of_row _ _ 0 _ _ hqr
    have f1_hqr := frozen_of_row _ _ 1 _ _ hqr
    have f2_hqr := frozen_of_row _ _ 2 _ _ hqr
    have f3_hqr := frozen_of_row _ _ 3 _ _ hqr
    have f4_hqr := frozen_of_row _ _ 4 _ _ hqr
    have f5_hqr := frozen_of_row _ _ 5 _ _ hqr
    simp at r0_hqr r1_hqr r2_hqr r3_hqr r4_hqr r5_hqr
    have r0_hrr := cell_of_row _ _ 0 _ _ _ hrr
    have r1_hrr := cell_of_row _ _ 1 _ _ _ hrr
    have r2_hrr := cell_of_row _ _ 2 _ _ _ hrr
    have r3_hrr := cell_of_row _ _ 3 _ _ _ hrr
    have r4_hrr := cell_of_row _ _ 4 _ _ _ hrr
    have r5_hrr := cell_of_row _ _ 5 _ _ _ hrr
    have f0_hrr := frozen_of_row _ _ 0 _ _ hrr
    have f1_hrr := frozen_of_row _ _ 1 _ _ hrr
    have f2_hrr := frozen_of_row _ _ 2 _ _ hrr
    have f3_hrr := frozen_of_row _ _ 3 _ _ hrr
    have f4_hrr := frozen_of_row _ _ 4 _ _ hrr
    have f5_hrr := frozen_of_row _ _ 5 _ _ hrr
    simp at r0_hrr r1_hrr r2_hrr r3_hrr r4_hrr r5_hrr
    clear hqr hrr
    go_wp2_with fail
    apply bodyPost_ret (results_cell_row (P := Try.prog) (fn := Try.f53) rfl _ _ _ 26 _ (0, 0) _ rfl _ Try.underlying26 rfl _) rfl
    rotate_left 2
    · repeat (first | (with_reducible apply heap_setCell_same) | (with_reducible apply drew_row) | (with_reducible apply drewN_row) | (with_reducible exact HRF.out) | (with_reducible refine (heap_setCell_other _ _ _ _ (by first | omega | (simp; done) | (simp; omega))).trans ?_) | (with_reducible refine (Below.heap_alloc _ _ _ (by first | omega | (simp; done) | (simp; omega))).trans ?_))
    · kernel_rfl
    exact ⟨u, d, s, f, !fs, dn, by first | (simp; done) | (simp; rfl), ⟨⟨by omega, by omega⟩, by omega, ⟨by omega, by omega⟩⟩, (by repeat (first | with_reducible assumption | with_reducible refine Cur.alloc ?_ _ | with_reducible refine Cur.drew ?_ | with_reducible refine Cur.setOther ?_ (by first | omega | (simp; done) | (simp; omega)) (by first | omega | (simp; done) | (simp; omega)) _)), (by repeat (first | with_reducible assumption | with_reducible exact World.grownBy.refl _ _ | with_reducible refine only_alloc ?_ _ | with_reducible refine only_drew ?_ | with_reducible refine only_drewN ?_ _ | with_reducible refine only_setNew ?_ (by first | omega | (simp; done) | (simp; omega)) _ | (with_reducible refine only_trans ?_ (by with_reducible assumption))))⟩
  have h2 : (y == 2) = false := by simpa using h2
  by_cases h3 : y = 3
  · subst h3
    have hqr : w2.heap[w1.heap.size]? = some (.cells #[.int .i64 u, .string d, .int .i64 s, .bool f, .bool fs, .bool dn] 26 (0, 0)) := HQ2.out
    have hrr : w2.heap[w.heap.size]? = some (.cells #[.int .i64 0, .string ⟨#[]⟩, .int .i64 0, .bool false, .bool false, .bool false] 26 (0, 0)) := HR2.out
    have HRF := Lib.hid hrr
    have r0_hqr := cell_of_row _ _ 0 _ _ _ hqr
    have r1_hqr := cell_of_row _ _ 1 _ _ _ hqr
    have r2_hqr := cell_of_row _ _ 2 _ _ _ hqr
    have r3_hqr := cell_of_row _ _ 3 _ _ _ hqr
    have r4_hqr := cell_of_row _ _ 4 _ _ _ hqr
    have r5_hqr := cell_of_row _ _ 5 _ _ _ hqr
    have f0_hqr := frozen_of_row _ _ 0 _ _ hqr
    have f1_hqr := frozen_of_row _ _ 1 _ _ hqr
    have f2_hqr := frozen_of_row _ _ 2 _ _ hqr
    have f3_hqr := frozen_of_row _ _ 3 _ _ hqr
    have f4_hqr := frozen_of_row _ _ 4 _ _ hqr
    have f5_hqr := frozen_of_row _ _ 5 _ _ hqr
    simp at r0_hqr r1_hqr r2_hqr r3_hqr r4_hqr r5_hqr
    have r0_hrr := cell_of_row _ _ 0 _ _ _ hrr
    have r1_hrr := cell_of_row _ _ 1 _ _ _ hrr
    have r2_hrr := cell_of_row _ _ 2 _ _ _ hrr
    have r3_hrr := cell_of_row _ _ 3 _ _ _ hrr
    have r4_hrr := cell_of_row _ _ 4 _ _ _ hrr
    have r5_hrr := cell_of_row _ _ 5 _ _ _ hrr
    have f0_hrr := frozen_of_row _ _ 0 _ _ hrr
    have f1_hrr := frozen_of_row _ _ 1 _ _ hrr
    have f2_hrr := frozen_of_row _ _ 2 _ _ hrr
    have f3_hrr := frozen_of_row _ _ 3 _ _ hrr
    have f4_hrr := frozen_of_row _ _ 4 _ _ hrr
    have f5_hrr := frozen_of_row _ _ 5 _ _ hrr
    simp at r0_hrr r1_hrr r2_hrr r3_hrr r4_hrr r5_hrr
    clear hqr hrr
    go_wp2_with fail
    apply bodyPost_ret (results_cell_row (P := Try.prog) (fn := Try.f53) rfl _ _ _ 26 _ (0, 0) _ rfl _ Try.underlying26 rfl _) rfl
    rotate_left 2
    · repeat (first | (with_reducible apply heap_setCell_same) | (with_reducible apply drew_row) | (with_reducible apply drewN_row) | (with_reducible exact HRF.out) | (with_reducible refine (heap_setCell_other _ _ _ _ (by first | omega | (simp; done) | (simp; omega))).trans ?_) | (with_reducible refine (Below.heap_alloc _ _ _ (by first | omega | (simp; done) | (simp; omega))).trans ?_))
    · kernel_rfl
    exact ⟨u, d, s, f, fs, !dn, by first | (simp; done) | (simp; rfl), ⟨⟨by omega, by omega⟩, by omega, ⟨by omega, by omega⟩⟩, (by repeat (first | with_reducible assumption | with_reducible refine Cur.alloc ?_ _ | with_reducible refine Cur.drew ?_ | with_reducible refine Cur.setOther ?_ (by first | omega | (simp; done) | (simp; omega)) (by first | omega | (simp; done) | (simp; omega)) _)), (by repeat (first | with_reducible assumption | with_reducible exact World.grownBy.refl _ _ | with_reducible refine only_alloc ?_ _ | with_reducible refine only_drew ?_ | with_reducible refine only_drewN ?_ _ | with_reducible refine only_setNew ?_ (by first | omega | (simp; done) | (simp; omega)) _ | (with_reducible refine only_trans ?_ (by with_reducible assumption))))⟩
  have h3 : (y == 3) = false := by simpa using h3
  by_cases h4 : y = 4
  · subst h4
    go_wp2_with fail
    refine (l1Below_any (B := B) hc2 3 (by omega) (by omega)).mono ?_
    rintro e w3 ⟨x3, rfl, ⟨hl3, hh3⟩, hc3, ho3⟩
    have hz3 := ho3.size
    go_wp2_with fail
    refine (l5Long_any _ (by omega) (by omega) _).mono ?_
    rintro e w4 ⟨⟨d4, rfl, hd4⟩, hb4⟩
    have hd4' : d4.size ≤ 49 := by omega
    clear hd4
    have hz4 := hb4.size
    have hc4 : Cur w4 B g := hc3.grown ⟨hb4.os, hb4.tape, hb4.output, hb4.size, fun k hk _ => hb4.block k hk⟩ (row := none) (fun _ h => by cases h)
    have ho4 : w3.grownBy w4 (some g) := ⟨hb4.os, hb4.tape, hb4.output, hb4.size, fun k hk _ => hb4.block k hk⟩
    have hg4 : w.grownBy w4 (some g) := only_trans (only_trans hg2 ho3) ho4
    have hqr : w4.heap[w1.heap.size]? = some (.cells #[.int .i64 u, .string d, .int .i64 s, .bool f, .bool fs, .bool dn] 26 (0, 0)) := (grow ho4 (by omega) (by omega)).trans ((grow ho3 (by omega) (by omega)).trans HQ2.out)
    have hrr : w4.heap[w.heap.size]? = some (.cells #[.int .i64 0, .string ⟨#[]⟩, .int .i64 0, .bool false, .bool false, .bool false] 26 (0, 0)) := (grow ho4 (by omega) (by omega)).trans ((grow ho3 (by omega) (by omega)).trans HR2.out)
    have HRF := Lib.hid hrr
    have r0_hqr := cell_of_row _ _ 0 _ _ _ hqr
    have r1_hqr := cell_of_row _ _ 1 _ _ _ hqr
    have r2_hqr := cell_of_row _ _ 2 _ _ _ hqr
    have r3_hqr := cell_of_row _ _ 3 _ _ _ hqr
    have r4_hqr := cell_of_row _ _ 4 _ _ _ hqr
    have r5_hqr := cell_of_row _ _ 5 _ _ _ hqr
    have f0_hqr := frozen_of_row _ _ 0 _ _ hqr
    have f1_hqr := frozen_of_row _ _ 1 _ _ hqr
    have f2_hqr := frozen_of_row _ _ 2 _ _ hqr
    have f3_hqr := frozen_of_row _ _ 3 _ _ hqr
    have f4_hqr := frozen_of_row _ _ 4 _ _ hqr
    have f5_hqr := frozen_of_row _ _ 5 _ _ hqr
    simp at r0_hqr r1_hqr r2_hqr r3_hqr r4_hqr r5_hqr
    have r0_hrr := cell_of_row _ _ 0 _ _ _ hrr
    have r1_hrr := cell_of_row _ _ 1 _ _ _ hrr
    have r2_hrr := cell_of_row _ _ 2 _ _ _ hrr
    have r3_hrr := cell_of_row _ _ 3 _ _ _ hrr
    have r4_hrr := cell_of_row _ _ 4 _ _ _ hrr
    have r5_hrr := cell_of_row _ _ 5 _ _ _ hrr
    have f0_hrr := frozen_of_row _ _ 0 _ _ hrr
    have f1_hrr := frozen_of_row _ _ 1 _ _ hrr
    have f2_hrr := frozen_of_row _ _ 2 _ _ hrr
    have f3_hrr := frozen_of_row _ _ 3 _ _ hrr
    have f4_hrr := frozen_of_row _ _ 4 _ _ hrr
    have f5_hrr := frozen_of_row _ _ 5 _ _ hrr
    simp at r0_hrr r1_hrr r2_hrr r3_hrr r4_hrr r5_hrr
    clear hqr hrr
    go_wp2_with fail
    apply bodyPost_ret (results_cell_row (P := Try.prog) (fn := Try.f53) rfl _ _ _ 26 _ (0, 0) _ rfl _ Try.underlying26 rfl _) rfl
    rotate_left 2
    · repeat (first | (with_reducible apply heap_setCell_same) | (with_reducible apply drew_row) | (with_reducible apply drewN_row) | (with_reducible exact HRF.out) | (with_reducible refine (heap_setCell_other _ _ _ _ (by first | omega | (simp; done) | (simp; omega))).trans ?_) | (with_reducible refine (Below.heap_alloc _ _ _ (by first | omega | (simp; done) | (simp; omega))).trans ?_))
    · kernel_rfl
    exact ⟨u, d4, s, f, fs, dn, by first | (simp; done) | (simp; rfl), ⟨⟨by omega, by omega⟩, hd4', ⟨by omega, by omega⟩⟩, (by repeat (first | with_reducible assumption | with_reducible refine Cur.alloc ?_ _ | with_reducible refine Cur.drew ?_ | with_reducible refine Cur.setOther ?_ (by first | omega | (simp; done) | (simp; omega)) (by first | omega | (simp; done) | (simp; omega)) _)), (by repeat (first | with_reducible assumption | with_reducible exact World.grownBy.refl _ _ | with_reducible refine only_alloc ?_ _ | with_reducible refine only_drew ?_ | with_reducible refine only_drewN ?_ _ | with_reducible refine only_setNew ?_ (by first | omega | (simp; done) | (simp; omega)) _ | (with_reducible refine only_trans ?_ (by with_reducible assumption))))⟩
  have h4 : (y == 4) = false := by simpa using h4
  have hqr : w2.heap[w1.heap.size]? = some (.cells #[.int .i64 u, .string d, .int .i64 s, .bool f, .bool fs, .bool dn] 26 (0, 0)) := HQ2.out
  have hrr : w2.heap[w.heap.size]? = some (.cells #[.int .i64 0, .string ⟨#[]⟩, .int .i64 0, .bool false, .bool false, .bool false] 26 (0, 0)) := HR2.out
  have HRF := Lib.hid hrr
  have r0_hqr := cell_of_row _ _ 0 _ _ _ hqr
  have r1_hqr := cell_of_row _ _ 1 _ _ _ hqr
  have r2_hqr := cell_of_row _ _ 2 _ _ _ hqr
  have r3_hqr := cell_of_row _ _ 3 _ _ _ hqr
  have r4_hqr := cell_of_row _ _ 4 _ _ _ hqr
  have r5_hqr := cell_of_row _ _ 5 _ _ _ hqr
  have f0_hqr := frozen_of_row _ _ 0 _ _ hqr
  have f1_hqr := frozen_of_row _ _ 1 _ _ hqr
  have f2_hqr := frozen_of_row _ _ 2 _ _ hqr
  have f3_hqr := frozen_of_row _ _ 3 _ _ hqr
  have f4_hqr := frozen_of_row _ _ 4 _ _ hqr
  have f5_hqr := frozen_of_row _ _ 5 _ _ hqr
  simp at r0_hqr r1_hqr r2_hqr r3_hqr r4_hqr r5_hqr
  have r0_hrr := cell_of_row _ _ 0 _ _ _ hrr
  have r1_hrr := cell_of_row _ _ 1 _ _ _ hrr
  have r2_hrr := cell_of_row _ _ 2 _ _ _ hrr
  have r3_hrr := cell_of_row _ _ 3 _ _ _ hrr
  have r4_hrr := cell_of_row _ _ 4 _ _ _ hrr
  have r5_hrr := cell_of_row _ _ 5 _ _ _ hrr
  have f0_hrr := frozen_of_row _ _ 0 _ _ hrr
  have f1_hrr := frozen_of_row _ _ 1 _ _ hrr
  have f2_hrr := frozen_of_row _ _ 2 _ _ hrr
  have f3_hrr := frozen_of_row _ _ 3 _ _ hrr
  have f4_hrr := frozen_of_row _ _ 4 _ _ hrr
  have f5_hrr := frozen_of_row _ _ 5 _ _ hrr
  simp at r0_hrr r1_hrr r2_hrr r3_hrr r4_hrr r5_hrr
  clear hqr hrr
  go_wp2_with fail
  apply bodyPost_ret (results_cell_row (P := Try.prog) (fn := Try.f53) rfl _ _ _ 26 _ (0, 0) _ rfl _ Try.underlying26 rfl _) rfl
  rotate_left 2
  · repeat (first | (with_reducible apply heap_setCell_same) | (with_reducible apply drew_row) | (with_reducible apply drewN_row) | (with_reducible exact HRF.out) | (with_reducible refine (heap_setCell_other _ _ _ _ (by first | omega | (simp; done) | (simp; omega))).trans ?_) | (with_reducible refine (Below.heap_alloc _ _ _ (by first | omega | (simp; done) | (simp; omega))).trans ?_))
  · kernel_rfl
  exact ⟨u, d, s, f, fs, dn, by first | (simp; done) | (simp; rfl), ⟨⟨by omega, by omega⟩, by omega, ⟨by omega, by omega⟩⟩, (by repeat (first | with_reducible assumption | with_reducible refine Cur.alloc ?_ _ | with_reducible refine Cur.drew ?_ | with_reducible refine Cur.setOther ?_ (by first | omega | (simp; done) | (simp; omega)) (by first | omega | (simp; done) | (simp; omega)) _)), (by repeat (first | with_reducible assumption | with_reducible exact World.grownBy.refl _ _ | with_reducible refine only_alloc ?_ _ | with_reducible refine only_drew ?_ | with_reducible refine only_drewN ?_ _ | with_reducible refine only_setNew ?_ (by first | omega | (simp; done) | (simp; omega)) _ | (with_reducible refine only_trans ?_ (by with_reducible assumption))))⟩
/-- A sender, drawn. -/
def DrawnSnd (w : World) (e : Ending) (w' : World) : Prop := ∃ (u : Int) (d : ByteArray) (s : Int) (f fs dn : Bool), e = .returned (vSn u d s f fs dn) ∧ SndBent u d s ∧ Below w.heap.size w w'
theorem DrawRewound_any {w : World} {A : Option Addr} {n c : Nat} (hn : n ≤ maxLen) (hb : Byts w w.heap.size A n) :
    Calls Try.prog 39 #[.slice A n c] w (DrawnSnd w) := by
  go_enter Try.func39, Try.ntmps39
  go_wp2_with fail
  refine (l1New_any hn (hb.below (by repeat (first | with_reducible exact Below.refl _ _ | with_reducible assumption | with_reducible refine Below.drew ?_ | with_reducible refine Below.alloc ?_ (by first | exact Nat.le_refl _ | omega | (simp; done) | (simp; omega)) _ | with_reducible refine Below.setCell ?_ (by first | exact Nat.le_refl _ | omega | (simp; done) | (simp; omega)) _ | (with_reducible refine ext_trans ?_ (by with_reducible assumption)))))).mono ?_
  rintro e w1 ⟨g, rfl, hc1, hb1⟩
  have hlt1 := hc1.lt
  have hz1 := hb1.size
  have hlow := hc1.low
  simp at hz1 hlow hc1
  go_wp2_with fail
  refine (l17Bent_any hc1).mono ?_
  rintro e w2 ⟨u, d, s, f, fs, dn, rfl, hG, hc2, ho2⟩
  have hz2 := ho2.size
  have hlt2 := hc2.lt
  have HG := Lib.hid hG
  clear hG
  have hr : w2.heap[w.heap.size]? = some (.cells #[.int .i64 0, .string ⟨#[]⟩, .int .i64 0, .bool false, .bool false, .bool false] 26 (0, 0)) := (grow ho2 (by omega) (by omega)).trans ((hb1.block _ (by simp)).trans (heap_alloc_new _ _))
  have hbw : Below w.heap.size w w2 := ext_trans ((Below.refl _ _).alloc (Nat.le_refl _) _) (hb1.trans (only_below (a := w1) (g := g) (by repeat (first | with_reducible assumption | with_reducible exact World.grownBy.refl _ _ | with_reducible refine only_alloc ?_ _ | with_reducible refine only_drew ?_ | with_reducible refine only_drewN ?_ _ | with_reducible refine only_setNew ?_ (by first | omega | (simp; done) | (simp; omega)) _ | (with_reducible refine only_trans ?_ (by with_reducible assumption)))) hb1.size (by simpa using hlow)))
  have HR := Lib.hid hr
  have r0_hr := cell_of_row _ _ 0 _ _ _ hr
  have r1_hr := cell_of_row _ _ 1 _ _ _ hr
  have r2_hr := cell_of_row _ _ 2 _ _ _ hr
  have r3_hr := cell_of_row _ _ 3 _ _ _ hr
  have r4_hr := cell_of_row _ _ 4 _ _ _ hr
  have r5_hr := cell_of_row _ _ 5 _ _ _ hr
  have f0_hr := frozen_of_row _ _ 0 _ _ hr
  have f1_hr := frozen_of_row _ _ 1 _ _ hr
  have f2_hr := frozen_of_row _ _ 2 _ _ hr
  have f3_hr := frozen_of_row _ _ 3 _ _ hr
  have f4_hr := frozen_of_row _ _ 4 _ _ hr
  have f5_hr := frozen_of_row _ _ 5 _ _ hr
  simp at r0_hr r1_hr r2_hr r3_hr r4_hr r5_hr
  clear hr
  go_wp2_with fail
  apply bodyPost_ret (results_cell_row (P := Try.prog) (fn := Try.f39) rfl _ _ _ 26 _ (0, 0) _ rfl _ Try.underlying26 rfl _) rfl
  rotate_left 2
  · repeat (first | (with_reducible apply heap_setCell_same) | (with_reducible apply drew_row) | (with_reducible apply drewN_row) | (with_reducible exact HR.out) | (with_reducible refine (heap_setCell_other _ _ _ _ (by first | omega | (simp; done) | (simp; omega))).trans ?_) | (with_reducible refine (Below.heap_alloc _ _ _ (by first | omega | (simp; done) | (simp; omega))).trans ?_))
  · kernel_rfl
  exact ⟨u, d, s, f, fs, dn, by first | (simp; done) | (simp; rfl), HG.out, (by repeat (first | with_reducible exact Below.refl _ _ | with_reducible assumption | with_reducible refine Below.drew ?_ | with_reducible refine Below.alloc ?_ (by first | exact Nat.le_refl _ | omega | (simp; done) | (simp; omega)) _ | with_reducible refine Below.setCell ?_ (by first | exact Nat.le_refl _ | omega | (simp; done) | (simp; omega)) _ | (with_reducible refine ext_trans ?_ (by with_reducible assumption))))⟩
theorem results_row_tt {P : Program} {fn : Func} {p u v : Tmp} {ty : TypeId} (h : fn.results = #[.cell p ty, .tmp u, .tmp v]) (tmps : Array Value) (w : World) (g : Nat) (t : TypeId) (cs : Array Value) (fr : Nat × Nat) (d : TypeDesc)
    (hp : tmps.getD p undef = .pointer (some ⟨g, 0, none⟩)) (hg : w.heap[g]? = some (.cells cs t fr))
    (hu : P.underlying ty = some d) (hd : (match d with | .struct _ | .array _ _ => true | _ => false) = true) (hi : (P.info? ty).map (·.size) = some cs.size) :
    (results fn tmps).run P w = .ok (.tuple #[.agg cs, tmps.getD u undef, tmps.getD v undef]) w := by
  have hp' : tmps[p]?.getD undef = .pointer (some ⟨g, 0, none⟩) := by simpa using hp
  simp [results, h, hp', asAddr, run_loadVar_row w g t ty cs fr d hg hu hd hi]
/-- A sender, a window and a greatest size, drawn. -/
def DrawnNext (w : World) (e : Ending) (w' : World) : Prop := ∃ (u : Int) (d : ByteArray) (s : Int) (f fs dn : Bool) (win mss : Int), e = .returned (.tuple #[vSn u d s f fs dn, .int .i64 win, .int .i64 mss]) ∧ SndBent u d s ∧ I64 win ∧ I64 mss ∧ Below w.heap.size w w'
theorem DrawNextChunk_any {w : World} {A : Option Addr} {n c : Nat} (hn : n ≤ maxLen) (hb : Byts w w.heap.size A n) :
    Calls Try.prog 36 #[.slice A n c] w (DrawnNext w) := by
  go_enter Try.func36, Try.ntmps36
  go_wp2_with fail
  refine (l1New_any hn (hb.below (by repeat (first | with_reducible exact Below.refl _ _ | with_reducible assumption | with_reducible refine Below.drew ?_ | with_reducible refine Below.alloc ?_ (by first | exact Nat.le_refl _ | omega | (simp; done) | (simp; omega)) _ | with_reducible refine Below.setCell ?_ (by first | exact Nat.le_refl _ | omega | (simp; done) | (simp; omega)) _ | (with_reducible refine ext_trans ?_ (by with_reducible assumption)))))).mono ?_
  rintro e w1 ⟨g, rfl, hc1, hb1⟩
  have hlt1 := hc1.lt
  have hz1 := hb1.size
  have hlow := hc1.low
  simp at hz1 hlow hc1
  go_wp2_with fail
  refine (l17Bent_any hc1).mono ?_
  rintro e w2 ⟨u, d, s, f, fs, dn, rfl, hG, hc2, ho2⟩
  have hz2 := ho2.size
  have hlt2 := hc2.lt
  have HG := Lib.hid hG
  clear hG
  go_wp2_with fail
  refine (l1Pick_new (-9223372036854775808) (9223372036854775807) hc2 (by rfl) (by omega) (by omega) (by kernel_rfl)).mono ?_
  rintro e w3 ⟨x3, rfl, ⟨hl3, hh3⟩, hc3, ho3⟩
  have hz3 := ho3.size
  simp at hz3
  go_wp2_with fail
  refine (l1Pick_new (-1) (1460) hc3 (by rfl) (by omega) (by omega) (by kernel_rfl)).mono ?_
  rintro e w4 ⟨x4, rfl, ⟨hl4, hh4⟩, hc4, ho4⟩
  have hz4 := ho4.size
  simp at hz4
  have hr : w4.heap[w.heap.size]? = some (.cells #[.int .i64 0, .string ⟨#[]⟩, .int .i64 0, .bool false, .bool false, .bool false] 26 (0, 0)) := (grow ho4 (by simp; omega) (by omega)).trans ((Below.heap_alloc _ _ _ (by omega)).trans ((grow ho3 (by simp; omega) (by omega)).trans ((Below.heap_alloc _ _ _ (by omega)).trans ((grow ho2 (by omega) (by omega)).trans ((hb1.block _ (by simp)).trans (heap_alloc_new _ _))))))
  have hbw : Below w.heap.size w w4 := ext_trans ((Below.refl _ _).alloc (Nat.le_refl _) _) (hb1.trans (only_below (a := w1) (g := g) (by repeat (first | with_reducible assumption | with_reducible exact World.grownBy.refl _ _ | with_reducible refine only_alloc ?_ _ | with_reducible refine only_drew ?_ | with_reducible refine only_drewN ?_ _ | with_reducible refine only_setNew ?_ (by first | omega | (simp; done) | (simp; omega)) _ | (with_reducible refine only_trans ?_ (by with_reducible assumption)))) hb1.size (by simpa using hlow)))
  have HR := Lib.hid hr
  have r0_hr := cell_of_row _ _ 0 _ _ _ hr
  have r1_hr := cell_of_row _ _ 1 _ _ _ hr
  have r2_hr := cell_of_row _ _ 2 _ _ _ hr
  have r3_hr := cell_of_row _ _ 3 _ _ _ hr
  have r4_hr := cell_of_row _ _ 4 _ _ _ hr
  have r5_hr := cell_of_row _ _ 5 _ _ _ hr
  have f0_hr := frozen_of_row _ _ 0 _ _ hr
  have f1_hr := frozen_of_row _ _ 1 _ _ hr
  have f2_hr := frozen_of_row _ _ 2 _ _ hr
  have f3_hr := frozen_of_row _ _ 3 _ _ hr
  have f4_hr := frozen_of_row _ _ 4 _ _ hr
  have f5_hr := frozen_of_row _ _ 5 _ _ hr
  simp at r0_hr r1_hr r2_hr r3_hr r4_hr r5_hr
  clear hr
  go_wp2_with fail
  apply bodyPost_ret (results_row_tt (P := Try.prog) (fn := Try.f36) rfl _ _ _ 26 _ (0, 0) _ rfl _ Try.underlying26 rfl _) rfl
  rotate_left 2
  · repeat (first | (with_reducible apply heap_setCell_same) | (with_reducible apply drew_row) | (with_reducible apply drewN_row) | (with_reducible exact HR.out) | (with_reducible refine (heap_setCell_other _ _ _ _ (by first | omega | (simp; done) | (simp; omega))).trans ?_) | (with_reducible refine (Below.heap_alloc _ _ _ (by first | omega | (simp; done) | (simp; omega))).trans ?_))
  · kernel_rfl
  exact ⟨u, d, s, f, fs, dn, x3, x4, by first | (simp; done) | (simp; rfl), HG.out, ⟨by omega, by omega⟩, ⟨by omega, by omega⟩, (by repeat (first | with_reducible exact Below.refl _ _ | with_reducible assumption | with_reducible refine Below.drew ?_ | with_reducible refine Below.alloc ?_ (by first | exact Nat.le_refl _ | omega | (simp; done) | (simp; omega)) _ | with_reducible refine Below.setCell ?_ (by first | exact Nat.le_refl _ | omega | (simp; done) | (simp; omega)) _ | (with_reducible refine ext_trans ?_ (by with_reducible assumption))))⟩
/-- A sender and a place, drawn. -/
def DrawnAck (w : World) (e : Ending) (w' : World) : Prop := ∃ (u : Int) (d : ByteArray) (s : Int) (f fs dn : Bool) (k : Int), e = .returned (.tuple #[vSn u d s f fs dn, .int .i64 k]) ∧ SndBent u d s ∧ I64 k ∧ Below w.heap.size w w'
set_option maxHeartbeats 8000000 in
set_option linter.unusedSimpArgs false in
set_option linter.unusedVariables false in
theorem DrawAcked_any {w : World} {A : Option Addr} {n c : Nat} (hn : n ≤ maxLen) (hb : Byts w w.heap.size A n) :
    Calls Try.prog 40 #[.slice A n c] w (DrawnAck w) := by
  go_enter Try.func40, Try.ntmps40
  go_wp2_with fail
  refine (l1New_any hn (hb.below (by repeat (first | with_reducible exact Below.refl _ _ | with_reducible assumption | with_reducible refine Below.drew ?_ | with_reducible refine Below.alloc ?_ (by first | exact Nat.le_refl _ | omega | (simp; done) | (simp; omega)) _ | with_reducible refine Below.setCell ?_ (by first | exact Nat.le_refl _ | omega | (simp; done) | (simp; omega)) _ | (with_reducible refine ext_trans ?_ (by with_reducible assumption)))))).mono ?_
  rintro e w1 ⟨g, rfl, hc1, hb1⟩
  have hlt1 := hc1.lt
  have hz1 := hb1.size
  have hlow := hc1.low
  simp at hz1 hlow hc1
  have hr : w1.heap[w.heap.size]? = some (.cells #[.int .i64 0, .string ⟨#[]⟩, .int .i64 0, .bool false, .bool false, .bool false] 26 (0, 0)) := (hb1.block _ (by simp)).trans (heap_alloc_new _ _)
  have HR := Lib.hid hr
  clear hr
  go_wp2_with fail
  refine (l17Bent_any hc1).mono ?_
  rintro e w2 ⟨u, d, s, f, fs, dn, rfl, hG, hc2, ho2⟩
  have hz2 := ho2.size
  have hlt2 := hc2.lt
  have HG := Lib.hid hG
  obtain ⟨⟨hu1, hu2⟩, hd, hs1, hs2⟩ := hG
  go_wp2_with fail
  refine (l1Once_any (B := (w.heap.size + 1)) (by repeat (first | with_reducible assumption | with_reducible refine Cur.alloc ?_ _ | with_reducible refine Cur.drew ?_ | with_reducible refine Cur.setOther ?_ (by first | omega | (simp; done) | (simp; omega)) (by first | omega | (simp; done) | (simp; omega)) _)) 4 (by omega) (by omega)).mono ?_
  rintro e w3 ⟨b3, rfl, hc3, ho3⟩
  have hz3 := ho3.size
  simp at hz3
  have hg3 : w1.grownBy w3 (some g) := only_trans (only_alloc ho2 _) ho3
  have hqr : w3.heap[w2.heap.size]? = some (.cells #[.int .i64 u, .string d, .int .i64 s, .bool f, .bool fs, .bool dn] 26 (0, 0)) := (grow ho3 (by simp) (by omega)).trans (heap_alloc_new _ _)
  have HR3 := Lib.hid ((grow hg3 (by omega) (by omega)).trans HR.out)
  have hlq : w2.heap.size < w3.heap.size := by omega
  have hgq : ¬ w2.heap.size = g := by omega
  have hlt3 := hc3.lt
  have r0_hqr := cell_of_row _ _ 0 _ _ _ hqr
  have r1_hqr := cell_of_row _ _ 1 _ _ _ hqr
  have r2_hqr := cell_of_row _ _ 2 _ _ _ hqr
  have r3_hqr := cell_of_row _ _ 3 _ _ _ hqr
  have r4_hqr := cell_of_row _ _ 4 _ _ _ hqr
  have r5_hqr := cell_of_row _ _ 5 _ _ _ hqr
  have f0_hqr := frozen_of_row _ _ 0 _ _ hqr
  have f1_hqr := frozen_of_row _ _ 1 _ _ hqr
  have f2_hqr := frozen_of_row _ _ 2 _ _ hqr
  have f3_hqr := frozen_of_row _ _ 3 _ _ hqr
  have f4_hqr := frozen_of_row _ _ 4 _ _ hqr
  have f5_hqr := frozen_of_row _ _ 5 _ _ hqr
  simp at r0_hqr r1_hqr r2_hqr r3_hqr r4_hqr r5_hqr
  clear hqr ho2 ho3 hc1 hc2
  cases b3
  · go_wp2_with fail
    refine wp_region_noPanic ?_
    refine wp_region_owed (S := (fun w' => (∀ b' o, b' < w3.heap.size → ¬ b' = g → w'.cell? ⟨b', o, none⟩ = w3.cell? ⟨b', o, none⟩) ∧ Kept w3 (w.heap.size + 1) g w')) (B := (fun i => i != 7 && i != 8)) (by kernel_rfl) (kp_start hc3) (fun hHeld => ?_)
    refine owed_take (fun k => List.elem k [7, 8]) (i := 0) (oi := _) (v := ?v0_6) rfl (by kernel_rfl) (by kernel_rfl) (by kernel_rfl) (fun _ _ _ h => h) (Or.inl ⟨by rfl, ?hy0_6⟩) (by with_reducible assumption) ?rest0_6
    case hy0_6 => ((intro w hSw; (try dsimp only at hSw); go_simp); (try with_reducible rfl))
    (try simp only [Act.put, List.getElem_toArray, List.getElem_cons_succ, List.getElem_cons_zero, List.setIfInBounds_toArray, List.set_cons_zero, List.set_cons_succ])
    refine owed_take (fun k => List.elem k [2, 6, 7, 8]) (i := 1) (oi := _) (v := ?v1_7) rfl (by kernel_rfl) (by kernel_rfl) (by kernel_rfl) (fun _ _ _ h => h) (Or.inl ⟨by rfl, ?hy1_7⟩) (by with_reducible assumption) ?rest1_7
    case hy1_7 => ((intro w hSw; (try dsimp only at hSw); go_simp); (try with_reducible rfl))
    (try simp only [Act.put, List.getElem_toArray, List.getElem_cons_succ, List.getElem_cons_zero, List.setIfInBounds_toArray, List.set_cons_zero, List.set_cons_succ])
    refine owed_take (fun k => List.elem k [6, 7, 8]) (i := 2) (oi := _) (v := ?v2_8) rfl (by kernel_rfl) (by kernel_rfl) (by kernel_rfl) (fun _ _ _ h => h) (Or.inl ⟨by rfl, ?hy2_8⟩) (by with_reducible assumption) ?rest2_8
    case hy2_8 => ((intro w hSw; (try dsimp only at hSw); go_simp); (try with_reducible rfl))
    (try simp only [Act.put, List.getElem_toArray, List.getElem_cons_succ, List.getElem_cons_zero, List.setIfInBounds_toArray, List.set_cons_zero, List.set_cons_succ])
    refine owed_take (fun k => List.elem k [4, 5, 6, 7, 8]) (i := 3) (oi := _) (v := ?v3_9) rfl (by kernel_rfl) (by kernel_rfl) (by kernel_rfl) (fun _ _ _ h => h) (Or.inl ⟨by rfl, ?hy3_9⟩) (by with_reducible assumption) ?rest3_9
    case hy3_9 => ((intro w hSw; (try dsimp only at hSw); go_simp); (try with_reducible rfl))
    (try simp only [Act.put, List.getElem_toArray, List.getElem_cons_succ, List.getElem_cons_zero, List.setIfInBounds_toArray, List.set_cons_zero, List.set_cons_succ])
    refine owed_ready (rs := [4]) (by kernel_rfl) (by simp) ?_
    refine owedEach.cons (o := _) rfl (fun K hK => ?_) owedEach.nil
    go_simp
    go_at_call 55; ((with_reducible refine (l1Below_any (B := (w.heap.size + 1)) ((by with_reducible assumption : _ ∧ Kept _ _ g _).2.cur) _ (by omega) (by omega)).mono ?_); (rintro e wA ⟨yA, rfl, ⟨hlA, hhA⟩, hcA, hoA⟩; have hSA := kp_draw (by with_reducible assumption) hcA hoA; have hLA := hSA.2.size; have hGA := hSA.2.lt; have hsA := hoA.size; have hwy : IntKind.i64.wrap (yA - 2) = yA - 2 := IntWalk.i64_in _ ⟨by omega, by omega⟩; have hwy1 : -2 ≤ yA - 2 := (by omega); have hwy2 : yA - 2 ≤ 100 := (by omega); have hrr := (hSA.2.row (b := w.heap.size) (by omega) (by omega)).trans HR3.out; have r0_hrr := cell_of_row _ _ 0 _ _ _ hrr; have f0_hrr := frozen_of_row _ _ 0 _ _ hrr; have r1_hrr := cell_of_row _ _ 1 _ _ _ hrr; have f1_hrr := frozen_of_row _ _ 1 _ _ hrr; have r2_hrr := cell_of_row _ _ 2 _ _ _ hrr; have f2_hrr := frozen_of_row _ _ 2 _ _ hrr; have r3_hrr := cell_of_row _ _ 3 _ _ _ hrr; have f3_hrr := frozen_of_row _ _ 3 _ _ hrr; have r4_hrr := cell_of_row _ _ 4 _ _ _ hrr; have f4_hrr := frozen_of_row _ _ 4 _ _ hrr; have r5_hrr := cell_of_row _ _ 5 _ _ _ hrr; have f5_hrr := frozen_of_row _ _ 5 _ _ hrr; simp at r0_hrr r1_hrr r2_hrr r3_hrr r4_hrr r5_hrr; clear hrr))
    go_wp2_with fail
    refine hK.out _ _ ?_ (fun hHeld => ?_)
    · intro _
      (try dsimp only)
      (first | with_reducible assumption | with_reducible exact kp_start hc3 | with_reducible exact kp_start_alloc hc3 _ | with_reducible exact kp_alloc (by with_reducible assumption) _)
    clear hK K
    replace hHeld := hHeld rfl
    (try simp only [Act.put, List.getElem_toArray, List.getElem_cons_succ, List.getElem_cons_zero, List.setIfInBounds_toArray, List.set_cons_zero, List.set_cons_succ])
    refine owed_take (fun k => List.elem k [6, 7, 8]) (i := 5) (oi := _) (v := ?v5_10) rfl (by kernel_rfl) (by kernel_rfl) (by kernel_rfl) (fun _ _ _ h => h) (Or.inl ⟨by rfl, ?hy5_10⟩) (by with_reducible assumption) ?rest5_10
    case hy5_10 => ((intro w hSw; (try dsimp only at hSw); go_simp); (try with_reducible rfl))
    (try simp only [Act.put, List.getElem_toArray, List.getElem_cons_succ, List.getElem_cons_zero, List.setIfInBounds_toArray, List.set_cons_zero, List.set_cons_succ])
    refine owed_ready (rs := [6]) (by kernel_rfl) (by simp) ?_
    refine owedEach.cons (o := _) rfl (fun K hK => ?_) owedEach.nil
    go_simp
    go_at_call 42; ((with_reducible refine (sSeqAdd_any _ _ (by omega) (by omega) (by omega) (by omega) _).mono ?_); (rintro e w' ⟨rfl, rfl⟩; obtain ⟨hqa1, hqa2⟩ := seqAdd_bd u (yA - 2)))
    go_wp2_with fail
    refine hK.out _ _ ?_ (fun hHeld => ?_)
    · intro _
      (try dsimp only)
      (first | with_reducible assumption | with_reducible exact kp_start hc3 | with_reducible exact kp_start_alloc hc3 _ | with_reducible exact kp_alloc (by with_reducible assumption) _)
    clear hK K
    replace hHeld := hHeld rfl
    (try simp only [Act.put, List.getElem_toArray, List.getElem_cons_succ, List.getElem_cons_zero, List.setIfInBounds_toArray, List.set_cons_zero, List.set_cons_succ])
    refine owed_ready (rs := [7]) (by kernel_rfl) (by simp) ?_
    refine owedEach.cons (o := _) rfl (fun K hK => ?_) owedEach.nil
    go_simp
    refine hK.out _ _ ?_ (fun hHeld => ?_)
    · intro h
      exact absurd h (by decide)
    clear hK K
    (try simp only [Act.put, List.getElem_toArray, List.getElem_cons_succ, List.getElem_cons_zero, List.setIfInBounds_toArray, List.set_cons_zero, List.set_cons_succ])
    refine owed_take_free (fun k => List.elem k []) (i := 8) (oi := _) (v := ?v8_11) rfl (by kernel_rfl) (by kernel_rfl) (by kernel_rfl) (fun _ _ _ h => h) (Or.inl ⟨by rfl, ?hy8_11⟩) (by rfl) ?rest8_11
    case hy8_11 => ((intro w _; go_simp); (try with_reducible rfl))
    (try simp only [Act.put, List.getElem_toArray, List.getElem_cons_succ, List.getElem_cons_zero, List.setIfInBounds_toArray, List.set_cons_zero, List.set_cons_succ])
    refine owed_done (by kernel_rfl) (NoPanic.normal ?_)
    go_wp2_with fail
    have hbw : Below w.heap.size w wA := ext_trans ((Below.refl _ _).alloc (Nat.le_refl _) _) (hb1.trans (only_below (only_trans hg3 hSA.2.by_) hb1.size (by simpa using hlow)))
    have HRB := Lib.hid ((hSA.2.row (b := w.heap.size) (by omega) (by omega)).trans HR3.out)
    apply bodyPost_ret (results_row_tmp1 (P := Try.prog) (fn := Try.f40) rfl _ _ _ 26 _ (0, 0) _ rfl _ Try.underlying26 rfl _) rfl
    rotate_left 2
    · repeat (first | (with_reducible apply heap_setCell_same) | (with_reducible apply drew_row) | (with_reducible apply drewN_row) | (with_reducible exact HRB.out) | (with_reducible refine (heap_setCell_other _ _ _ _ (by first | omega | (simp; done) | (simp; omega))).trans ?_) | (with_reducible refine (Below.heap_alloc _ _ _ (by first | omega | (simp; done) | (simp; omega))).trans ?_))
    · kernel_rfl
    exact ⟨u, d, s, f, fs, dn, seqAdd u (yA - 2), by first | (simp [Act.put]; done) | (simp [Act.put]; rfl), HG.out, ⟨by omega, by omega⟩, (by repeat (first | with_reducible exact Below.refl _ _ | with_reducible assumption | with_reducible refine Below.drew ?_ | with_reducible refine Below.alloc ?_ (by first | exact Nat.le_refl _ | omega | (simp; done) | (simp; omega)) _ | with_reducible refine Below.setCell ?_ (by first | exact Nat.le_refl _ | omega | (simp; done) | (simp; omega)) _ | (with_reducible refine ext_trans ?_ (by with_reducible assumption))))⟩
  · go_wp2_with fail
    refine wp_region_noPanic ?_
    refine wp_region_owed (S := (fun w' => (∀ b' o, b' < w3.heap.size → ¬ b' = g → w'.cell? ⟨b', o, none⟩ = w3.cell? ⟨b', o, none⟩) ∧ Kept w3 (w.heap.size + 1) g w')) (B := (fun i => i != 3 && i != 4)) (by kernel_rfl) (kp_start hc3) (fun hHeld => ?_)
    refine owed_take (fun k => List.elem k [3, 4]) (i := 0) (oi := _) (v := ?v0_12) rfl (by kernel_rfl) (by kernel_rfl) (by kernel_rfl) (fun _ _ _ h => h) (Or.inl ⟨by rfl, ?hy0_12⟩) (by with_reducible assumption) ?rest0_12
    case hy0_12 => ((intro w hSw; (try dsimp only at hSw); go_simp); (try with_reducible rfl))
    (try simp only [Act.put, List.getElem_toArray, List.getElem_cons_succ, List.getElem_cons_zero, List.setIfInBounds_toArray, List.set_cons_zero, List.set_cons_succ])
    refine owed_take (fun k => List.elem k [2, 3, 4]) (i := 1) (oi := _) (v := ?v1_13) rfl (by kernel_rfl) (by kernel_rfl) (by kernel_rfl) (fun _ _ _ h => h) (Or.inl ⟨by rfl, ?hy1_13⟩) (by with_reducible assumption) ?rest1_13
    case hy1_13 => ((intro w hSw; (try dsimp only at hSw); go_simp); (try with_reducible rfl))
    (try simp only [Act.put, List.getElem_toArray, List.getElem_cons_succ, List.getElem_cons_zero, List.setIfInBounds_toArray, List.set_cons_zero, List.set_cons_succ])
    refine owed_ready (rs := [2]) (by kernel_rfl) (by simp) ?_
    refine owedEach.cons (o := _) rfl (fun K hK => ?_) owedEach.nil
    go_simp
    go_at_call 58; ((with_reducible refine (l4Place_any (B := (w.heap.size + 1)) ((by with_reducible assumption : _ ∧ Kept _ _ g _).2.cur)).mono ?_); (rintro e wA ⟨yA, rfl, ⟨hlA, hhA⟩, hcA, hoA⟩; have hSA := kp_draw (by with_reducible assumption) hcA hoA; have hLA := hSA.2.size; have hGA := hSA.2.lt; have hrr := (hSA.2.row (b := w.heap.size) (by omega) (by omega)).trans HR3.out; have r0_hrr := cell_of_row _ _ 0 _ _ _ hrr; have f0_hrr := frozen_of_row _ _ 0 _ _ hrr; have r1_hrr := cell_of_row _ _ 1 _ _ _ hrr; have f1_hrr := frozen_of_row _ _ 1 _ _ hrr; have r2_hrr := cell_of_row _ _ 2 _ _ _ hrr; have f2_hrr := frozen_of_row _ _ 2 _ _ hrr; have r3_hrr := cell_of_row _ _ 3 _ _ _ hrr; have f3_hrr := frozen_of_row _ _ 3 _ _ hrr; have r4_hrr := cell_of_row _ _ 4 _ _ _ hrr; have f4_hrr := frozen_of_row _ _ 4 _ _ hrr; have r5_hrr := cell_of_row _ _ 5 _ _ _ hrr; have f5_hrr := frozen_of_row _ _ 5 _ _ hrr; simp at r0_hrr r1_hrr r2_hrr r3_hrr r4_hrr r5_hrr; clear hrr))
    go_wp2_with fail
    refine hK.out _ _ ?_ (fun hHeld => ?_)
    · intro _
      (try dsimp only)
      (first | with_reducible assumption | with_reducible exact kp_start hc3 | with_reducible exact kp_start_alloc hc3 _ | with_reducible exact kp_alloc (by with_reducible assumption) _)
    clear hK K
    replace hHeld := hHeld rfl
    (try simp only [Act.put, List.getElem_toArray, List.getElem_cons_succ, List.getElem_cons_zero, List.setIfInBounds_toArray, List.set_cons_zero, List.set_cons_succ])
    refine owed_ready (rs := [3]) (by kernel_rfl) (by simp) ?_
    refine owedEach.cons (o := _) rfl (fun K hK => ?_) owedEach.nil
    go_simp
    refine hK.out _ _ ?_ (fun hHeld => ?_)
    · intro h
      exact absurd h (by decide)
    clear hK K
    (try simp only [Act.put, List.getElem_toArray, List.getElem_cons_succ, List.getElem_cons_zero, List.setIfInBounds_toArray, List.set_cons_zero, List.set_cons_succ])
    refine owed_take_free (fun k => List.elem k []) (i := 4) (oi := _) (v := ?v4_14) rfl (by kernel_rfl) (by kernel_rfl) (by kernel_rfl) (fun _ _ _ h => h) (Or.inl ⟨by rfl, ?hy4_14⟩) (by rfl) ?rest4_14
    case hy4_14 => ((intro w _; go_simp); (try with_reducible rfl))
    (try simp only [Act.put, List.getElem_toArray, List.getElem_cons_succ, List.getElem_cons_zero, List.setIfInBounds_toArray, List.set_cons_zero, List.set_cons_succ])
    refine owed_done (by kernel_rfl) (NoPanic.normal ?_)
    go_wp2_with fail
    have hbw : Below w.heap.size w wA := ext_trans ((Below.refl _ _).alloc (Nat.le_refl _) _) (hb1.trans (only_below (only_trans hg3 hSA.2.by_) hb1.size (by simpa using hlow)))
    have HRB := Lib.hid ((hSA.2.row (b := w.heap.size) (by omega) (by omega)).trans HR3.out)
    apply bodyPost_ret (results_row_tmp1 (P := Try.prog) (fn := Try.f40) rfl _ _ _ 26 _ (0, 0) _ rfl _ Try.underlying26 rfl _) rfl
    rotate_left 2
    · repeat (first | (with_reducible apply heap_setCell_same) | (with_reducible apply drew_row) | (with_reducible apply drewN_row) | (with_reducible exact HRB.out) | (with_reducible refine (heap_setCell_other _ _ _ _ (by first | omega | (simp; done) | (simp; omega))).trans ?_) | (with_reducible refine (Below.heap_alloc _ _ _ (by first | omega | (simp; done) | (simp; omega))).trans ?_))
    · kernel_rfl
    exact ⟨u, d, s, f, fs, dn, yA, by first | (simp [Act.put]; done) | (simp [Act.put]; rfl), HG.out, ⟨by omega, by omega⟩, (by repeat (first | with_reducible exact Below.refl _ _ | with_reducible assumption | with_reducible refine Below.drew ?_ | with_reducible refine Below.alloc ?_ (by first | exact Nat.le_refl _ | omega | (simp; done) | (simp; omega)) _ | with_reducible refine Below.setCell ?_ (by first | exact Nat.le_refl _ | omega | (simp; done) | (simp; omega)) _ | (with_reducible refine ext_trans ?_ (by with_reducible assumption))))⟩
end Go.Proofs.Ytkkpeienbhbgeaa
