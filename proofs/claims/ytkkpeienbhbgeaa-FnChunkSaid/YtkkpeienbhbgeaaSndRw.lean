/-
  Contracts of Rewound.
-/
import Derived.Test.YtkkpeienbhbgeaaSnd
namespace Go.Proofs.Ytkkpeienbhbgeaa
open Go.RowKit

theorem Rewound_yes (u : Int) (d : ByteArray) (s : Int) (f fs dn : Bool) (hd : d.size ≤ maxLen) (h : sndB u d s f fs dn = true) (w : World) :
    Calls Try.prog 21 #[.agg #[.int .i64 u, .string d, .int .i64 s, .bool f, .bool fs, .bool dn]] w fun e w' => e = .returned (.agg #[.int .i64 u, .string d, .int .i64 0, .bool f, .bool false, .bool dn]) ∧ Below w.heap.size w w' := by
  go_enter Try.func21, Try.ntmps21
  go_wp2_with fail
  refine (SenderOk_any _ _ _ _ _ _ hd _).mono ?_
  rintro e w1 ⟨rfl, hb1⟩
  obtain ⟨hc1, hf1⟩ := bcell hb1
  have hz1 := hb1.size
  (try simp at hz1)
  have hy1_0 : w.heap.size < w1.heap.size := by omega
  have hy1_1 : w.heap.size + 1 < w1.heap.size := by omega
  have hr : w1.heap[w.heap.size + 1]? = some (.cells #[.int .i64 0, .string ⟨#[]⟩, .int .i64 0, .bool false, .bool false, .bool false] 26 (0, 0)) := (hb1.block _ (by simp)).trans (heap_alloc2_new _ _ _)
  have hs1 : w1.heap[w.heap.size]? = some (.cells #[.int .i64 u, .string d, .int .i64 s, .bool f, .bool fs, .bool dn] 26 (0, 0)) := (hb1.block _ (by simp; omega)).trans (heap_alloc2_old _ _ _)
  have r0_hs1 := cell_of_row _ _ 0 _ _ _ hs1
  have r1_hs1 := cell_of_row _ _ 1 _ _ _ hs1
  have r2_hs1 := cell_of_row _ _ 2 _ _ _ hs1
  have r3_hs1 := cell_of_row _ _ 3 _ _ _ hs1
  have r4_hs1 := cell_of_row _ _ 4 _ _ _ hs1
  have r5_hs1 := cell_of_row _ _ 5 _ _ _ hs1
  have f0_hs1 := frozen_of_row _ _ 0 _ _ hs1
  have f1_hs1 := frozen_of_row _ _ 1 _ _ hs1
  have f2_hs1 := frozen_of_row _ _ 2 _ _ hs1
  have f3_hs1 := frozen_of_row _ _ 3 _ _ hs1
  have f4_hs1 := frozen_of_row _ _ 4 _ _ hs1
  have f5_hs1 := frozen_of_row _ _ 5 _ _ hs1
  simp at r0_hs1 r1_hs1 r2_hs1 r3_hs1 r4_hs1 r5_hs1
  have r0_hr := cell_of_row _ _ 0 _ _ _ hr
  have r1_hr := cell_of_row _ _ 1 _ _ _ hr
  have r2_hr := cell_of_row _ _ 2 _ _ _ hr
  have r3_hr := cell_of_row _ _ 3 _ _ _ hr
  have r4_hr := cell_of_row _ _ 4 _ _ _ hr
  have r5_hr := cell_of_row _ _ 5 _ _ _ hr
  have f0_hr := frozen_of_row _ _ 0 _ _ hr
  have f1_hr := frozen_of_row _ _ 1 _ _ hr
  have f2_hr := frozen_of_row _ _ 2 _ _ hr
  have f3_hr := frozen_of_row _ _ 3 _ _ hr
  have f4_hr := frozen_of_row _ _ 4 _ _ hr
  have f5_hr := frozen_of_row _ _ 5 _ _ hr
  simp at r0_hr r1_hr r2_hr r3_hr r4_hr r5_hr
  clear hc1 hf1
  go_wp2_with fail
  apply bodyPost_ret (results_cell_row (P := Try.prog) (fn := Try.f21) rfl _ _ _ 26 _ (0, 0) _ rfl _ Try.underlying26 rfl _) rfl
  rotate_left 2
  · repeat (first | (with_reducible apply heap_setCell_same) | (with_reducible apply drew_row) | (with_reducible apply drewN_row) | (with_reducible exact hr) | (with_reducible refine (heap_setCell_other _ _ _ _ (by first | omega | (simp; done) | (simp; omega))).trans ?_) | (with_reducible refine (Below.heap_alloc _ _ _ (by first | omega | (simp; done) | (simp; omega))).trans ?_))
  · kernel_rfl
  exact ⟨by simp, (by repeat (first | with_reducible exact Below.refl _ _ | with_reducible assumption | with_reducible refine Below.drew ?_ | with_reducible refine Below.alloc ?_ (by first | exact Nat.le_refl _ | omega | (simp; done) | (simp; omega)) _ | with_reducible refine Below.setCell ?_ (by first | exact Nat.le_refl _ | omega | (simp; done) | (simp; omega)) _ | (with_reducible refine ext_trans ?_ (by with_reducible assumption))))⟩

theorem Rewound_no (u : Int) (d : ByteArray) (s : Int) (f fs dn : Bool) (hd : d.size ≤ maxLen) (h : sndB u d s f fs dn = false) (w : World) :
    Calls Try.prog 21 #[.agg #[.int .i64 u, .string d, .int .i64 s, .bool f, .bool fs, .bool dn]] w fun e w' => e = .returned (.agg #[.int .i64 u, .string d, .int .i64 s, .bool f, .bool fs, .bool dn]) ∧ Below w.heap.size w w' := by
  go_enter Try.func21, Try.ntmps21
  go_wp2_with fail
  refine (SenderOk_any _ _ _ _ _ _ hd _).mono ?_
  rintro e w1 ⟨rfl, hb1⟩
  obtain ⟨hc1, hf1⟩ := bcell hb1
  have hz1 := hb1.size
  (try simp at hz1)
  have hy1_0 : w.heap.size < w1.heap.size := by omega
  have hy1_1 : w.heap.size + 1 < w1.heap.size := by omega
  have hr : w1.heap[w.heap.size + 1]? = some (.cells #[.int .i64 0, .string ⟨#[]⟩, .int .i64 0, .bool false, .bool false, .bool false] 26 (0, 0)) := (hb1.block _ (by simp)).trans (heap_alloc2_new _ _ _)
  have hs1 : w1.heap[w.heap.size]? = some (.cells #[.int .i64 u, .string d, .int .i64 s, .bool f, .bool fs, .bool dn] 26 (0, 0)) := (hb1.block _ (by simp; omega)).trans (heap_alloc2_old _ _ _)
  have r0_hs1 := cell_of_row _ _ 0 _ _ _ hs1
  have r1_hs1 := cell_of_row _ _ 1 _ _ _ hs1
  have r2_hs1 := cell_of_row _ _ 2 _ _ _ hs1
  have r3_hs1 := cell_of_row _ _ 3 _ _ _ hs1
  have r4_hs1 := cell_of_row _ _ 4 _ _ _ hs1
  have r5_hs1 := cell_of_row _ _ 5 _ _ _ hs1
  have f0_hs1 := frozen_of_row _ _ 0 _ _ hs1
  have f1_hs1 := frozen_of_row _ _ 1 _ _ hs1
  have f2_hs1 := frozen_of_row _ _ 2 _ _ hs1
  have f3_hs1 := frozen_of_row _ _ 3 _ _ hs1
  have f4_hs1 := frozen_of_row _ _ 4 _ _ hs1
  have f5_hs1 := frozen_of_row _ _ 5 _ _ hs1
  simp at r0_hs1 r1_hs1 r2_hs1 r3_hs1 r4_hs1 r5_hs1
  have r0_hr := cell_of_row _ _ 0 _ _ _ hr
  have r1_hr := cell_of_row _ _ 1 _ _ _ hr
  have r2_hr := cell_of_row _ _ 2 _ _ _ hr
  have r3_hr := cell_of_row _ _ 3 _ _ _ hr
  have r4_hr := cell_of_row _ _ 4 _ _ _ hr
  have r5_hr := cell_of_row _ _ 5 _ _ _ hr
  have f0_hr := frozen_of_row _ _ 0 _ _ hr
  have f1_hr := frozen_of_row _ _ 1 _ _ hr
  have f2_hr := frozen_of_row _ _ 2 _ _ hr
  have f3_hr := frozen_of_row _ _ 3 _ _ hr
  have f4_hr := frozen_of_row _ _ 4 _ _ hr
  have f5_hr := frozen_of_row _ _ 5 _ _ hr
  simp at r0_hr r1_hr r2_hr r3_hr r4_hr r5_hr
  clear hc1 hf1
  go_wp2_with fail
  apply bodyPost_ret (results_cell_row (P := Try.prog) (fn := Try.f21) rfl _ _ _ 26 _ (0, 0) _ rfl _ Try.underlying26 rfl _) rfl
  rotate_left 2
  · repeat (first | (with_reducible apply heap_setCell_same) | (with_reducible apply drew_row) | (with_reducible apply drewN_row) | (with_reducible exact hr) | (with_reducible refine (heap_setCell_other _ _ _ _ (by first | omega | (simp; done) | (simp; omega))).trans ?_) | (with_reducible refine (Below.heap_alloc _ _ _ (by first | omega | (simp; done) | (simp; omega))).trans ?_))
  · kernel_rfl
  exact ⟨by simp, (by repeat (first | with_reducible exact Below.refl _ _ | with_reducible assumption | with_reducible refine Below.drew ?_ | with_reducible refine Below.alloc ?_ (by first | exact Nat.le_refl _ | omega | (simp; done) | (simp; omega)) _ | with_reducible refine Below.setCell ?_ (by first | exact Nat.le_refl _ | omega | (simp; done) | (simp; omega)) _ | (with_reducible refine ext_trans ?_ (by with_reducible assumption))))⟩

theorem sRewound_yes (u : Int) (d : ByteArray) (s : Int) (f fs dn : Bool) (hd : d.size ≤ maxLen) (h : sndB u d s f fs dn = true) (w : World) :
    Calls Try.prog 20 #[.agg #[.int .i64 u, .string d, .int .i64 s, .bool f, .bool fs, .bool dn]] w fun e w' => e = .returned (.agg #[.int .i64 u, .string d, .int .i64 0, .bool f, .bool false, .bool dn]) ∧ Below w.heap.size w w' := by
  go_enter Try.func20, Try.ntmps20
  go_wp2_with fail
  refine (sSenderOk_any _ _ _ _ _ _ hd _).mono ?_
  rintro e w1 ⟨rfl, hb1⟩
  obtain ⟨hc1, hf1⟩ := bcell hb1
  have hz1 := hb1.size
  (try simp at hz1)
  have hy1_0 : w.heap.size < w1.heap.size := by omega
  have hy1_1 : w.heap.size + 1 < w1.heap.size := by omega
  have hr : w1.heap[w.heap.size + 1]? = some (.cells #[.int .i64 0, .string ⟨#[]⟩, .int .i64 0, .bool false, .bool false, .bool false] 26 (0, 0)) := (hb1.block _ (by simp)).trans (heap_alloc2_new _ _ _)
  have hs1 : w1.heap[w.heap.size]? = some (.cells #[.int .i64 u, .string d, .int .i64 s, .bool f, .bool fs, .bool dn] 26 (0, 0)) := (hb1.block _ (by simp; omega)).trans (heap_alloc2_old _ _ _)
  have r0_hs1 := cell_of_row _ _ 0 _ _ _ hs1
  have r1_hs1 := cell_of_row _ _ 1 _ _ _ hs1
  have r2_hs1 := cell_of_row _ _ 2 _ _ _ hs1
  have r3_hs1 := cell_of_row _ _ 3 _ _ _ hs1
  have r4_hs1 := cell_of_row _ _ 4 _ _ _ hs1
  have r5_hs1 := cell_of_row _ _ 5 _ _ _ hs1
  have f0_hs1 := frozen_of_row _ _ 0 _ _ hs1
  have f1_hs1 := frozen_of_row _ _ 1 _ _ hs1
  have f2_hs1 := frozen_of_row _ _ 2 _ _ hs1
  have f3_hs1 := frozen_of_row _ _ 3 _ _ hs1
  have f4_hs1 := frozen_of_row _ _ 4 _ _ hs1
  have f5_hs1 := frozen_of_row _ _ 5 _ _ hs1
  simp at r0_hs1 r1_hs1 r2_hs1 r3_hs1 r4_hs1 r5_hs1
  have r0_hr := cell_of_row _ _ 0 _ _ _ hr
  have r1_hr := cell_of_row _ _ 1 _ _ _ hr
  have r2_hr := cell_of_row _ _ 2 _ _ _ hr
  have r3_hr := cell_of_row _ _ 3 _ _ _ hr
  have r4_hr := cell_of_row _ _ 4 _ _ _ hr
  have r5_hr := cell_of_row _ _ 5 _ _ _ hr
  have f0_hr := frozen_of_row _ _ 0 _ _ hr
  have f1_hr := frozen_of_row _ _ 1 _ _ hr
  have f2_hr := frozen_of_row _ _ 2 _ _ hr
  have f3_hr := frozen_of_row _ _ 3 _ _ hr
  have f4_hr := frozen_of_row _ _ 4 _ _ hr
  have f5_hr := frozen_of_row _ _ 5 _ _ hr
  simp at r0_hr r1_hr r2_hr r3_hr r4_hr r5_hr
  clear hc1 hf1
  go_wp2_with fail
  apply bodyPost_ret (results_cell_row (P := Try.prog) (fn := Try.f20) rfl _ _ _ 26 _ (0, 0) _ rfl _ Try.underlying26 rfl _) rfl
  rotate_left 2
  · repeat (first | (with_reducible apply heap_setCell_same) | (with_reducible apply drew_row) | (with_reducible apply drewN_row) | (with_reducible exact hr) | (with_reducible refine (heap_setCell_other _ _ _ _ (by first | omega | (simp; done) | (simp; omega))).trans ?_) | (with_reducible refine (Below.heap_alloc _ _ _ (by first | omega | (simp; done) | (simp; omega))).trans ?_))
  · kernel_rfl
  exact ⟨by simp, (by repeat (first | with_reducible exact Below.refl _ _ | with_reducible assumption | with_reducible refine Below.drew ?_ | with_reducible refine Below.alloc ?_ (by first | exact Nat.le_refl _ | omega | (simp; done) | (simp; omega)) _ | with_reducible refine Below.setCell ?_ (by first | exact Nat.le_refl _ | omega | (simp; done) | (simp; omega)) _ | (with_reducible refine ext_trans ?_ (by with_reducible assumption))))⟩

theorem sRewound_no (u : Int) (d : ByteArray) (s : Int) (f fs dn : Bool) (hd : d.size ≤ maxLen) (h : sndB u d s f fs dn = false) (w : World) :
    Calls Try.prog 20 #[.agg #[.int .i64 u, .string d, .int .i64 s, .bool f, .bool fs, .bool dn]] w fun e w' => e = .returned (.agg #[.int .i64 u, .string d, .int .i64 s, .bool f, .bool fs, .bool dn]) ∧ Below w.heap.size w w' := by
  go_enter Try.func20, Try.ntmps20
  go_wp2_with fail
  refine (sSenderOk_any _ _ _ _ _ _ hd _).mono ?_
  rintro e w1 ⟨rfl, hb1⟩
  obtain ⟨hc1, hf1⟩ := bcell hb1
  have hz1 := hb1.size
  (try simp at hz1)
  have hy1_0 : w.heap.size < w1.heap.size := by omega
  have hy1_1 : w.heap.size + 1 < w1.heap.size := by omega
  have hr : w1.heap[w.heap.size + 1]? = some (.cells #[.int .i64 0, .string ⟨#[]⟩, .int .i64 0, .bool false, .bool false, .bool false] 26 (0, 0)) := (hb1.block _ (by simp)).trans (heap_alloc2_new _ _ _)
  have hs1 : w1.heap[w.heap.size]? = some (.cells #[.int .i64 u, .string d, .int .i64 s, .bool f, .bool fs, .bool dn] 26 (0, 0)) := (hb1.block _ (by simp; omega)).trans (heap_alloc2_old _ _ _)
  have r0_hs1 := cell_of_row _ _ 0 _ _ _ hs1
  have r1_hs1 := cell_of_row _ _ 1 _ _ _ hs1
  have r2_hs1 := cell_of_row _ _ 2 _ _ _ hs1
  have r3_hs1 := cell_of_row _ _ 3 _ _ _ hs1
  have r4_hs1 := cell_of_row _ _ 4 _ _ _ hs1
  have r5_hs1 := cell_of_row _ _ 5 _ _ _ hs1
  have f0_hs1 := frozen_of_row _ _ 0 _ _ hs1
  have f1_hs1 := frozen_of_row _ _ 1 _ _ hs1
  have f2_hs1 := frozen_of_row _ _ 2 _ _ hs1
  have f3_hs1 := frozen_of_row _ _ 3 _ _ hs1
  have f4_hs1 := frozen_of_row _ _ 4 _ _ hs1
  have f5_hs1 := frozen_of_row _ _ 5 _ _ hs1
  simp at r0_hs1 r1_hs1 r2_hs1 r3_hs1 r4_hs1 r5_hs1
  have r0_hr := cell_of_row _ _ 0 _ _ _ hr
  have r1_hr := cell_of_row _ _ 1 _ _ _ hr
  have r2_hr := cell_of_row _ _ 2 _ _ _ hr
  have r3_hr := cell_of_row _ _ 3 _ _ _ hr
  have r4_hr := cell_of_row _ _ 4 _ _ _ hr
  have r5_hr := cell_of_row _ _ 5 _ _ _ hr
  have f0_hr := frozen_of_row _ _ 0 _ _ hr
  have f1_hr := frozen_of_row _ _ 1 _ _ hr
  have f2_hr := frozen_of_row _ _ 2 _ _ hr
  have f3_hr := frozen_of_row _ _ 3 _ _ hr
  have f4_hr := frozen_of_row _ _ 4 _ _ hr
  have f5_hr := frozen_of_row _ _ 5 _ _ hr
  simp at r0_hr r1_hr r2_hr r3_hr r4_hr r5_hr
  clear hc1 hf1
  go_wp2_with fail
  apply bodyPost_ret (results_cell_row (P := Try.prog) (fn := Try.f20) rfl _ _ _ 26 _ (0, 0) _ rfl _ Try.underlying26 rfl _) rfl
  rotate_left 2
  · repeat (first | (with_reducible apply heap_setCell_same) | (with_reducible apply drew_row) | (with_reducible apply drewN_row) | (with_reducible exact hr) | (with_reducible refine (heap_setCell_other _ _ _ _ (by first | omega | (simp; done) | (simp; omega))).trans ?_) | (with_reducible refine (Below.heap_alloc _ _ _ (by first | omega | (simp; done) | (simp; omega))).trans ?_))
  · kernel_rfl
  exact ⟨by simp, (by repeat (first | with_reducible exact Below.refl _ _ | with_reducible assumption | with_reducible refine Below.drew ?_ | with_reducible refine Below.alloc ?_ (by first | exact Nat.le_refl _ | omega | (simp; done) | (simp; omega)) _ | with_reducible refine Below.setCell ?_ (by first | exact Nat.le_refl _ | omega | (simp; done) | (simp; omega)) _ | (with_reducible refine ext_trans ?_ (by with_reducible assumption))))⟩

end Go.Proofs.Ytkkpeienbhbgeaa
