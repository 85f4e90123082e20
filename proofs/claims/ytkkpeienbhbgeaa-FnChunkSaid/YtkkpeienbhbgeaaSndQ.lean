/-
  Contracts of Queued.
-/
import Derived.Test.YtkkpeienbhbgeaaSnd
import Derived.Test.YtkkpeienbhbgeaaDraw
import Derived.RegionTactic
import Derived.ChangeAlike
namespace Go.Proofs.Ytkkpeienbhbgeaa
open Go.RowKit

/-- How many letters of x still fit behind d. -/
def qn (d x : ByteArray) : Nat := if x.size ≤ 48 - d.size then x.size else 48 - d.size

theorem sndB_le {u : Int} {d : ByteArray} {s : Int} {f fs dn : Bool} (h : sndB u d s f fs dn = true) : d.size ≤ 48 := by
  simp only [sndB, Bool.and_eq_true, decide_eq_true_eq] at h
  omega
theorem sndB_sent {u : Int} {d : ByteArray} {s : Int} {f fs dn : Bool} (h : sndB u d s f fs dn = true) : 0 ≤ s ∧ s ≤ d.size := by
  simp only [sndB, Bool.and_eq_true, inB_iff] at h
  omega

theorem l1Min_any (a b : Int) (w : World) : Calls Try.prog 49 #[.int .i64 a, .int .i64 b] w fun e w' => e = .returned (.int .i64 (if a < b then a else b)) ∧ w = w' := by
  by_cases h : a < b
  · rw [if_pos h]
    go_enter Try.func49, Try.ntmps49
    go_wp2
    go_ret
    exact ⟨rfl, rfl⟩
  · rw [if_neg h]
    go_enter Try.func49, Try.ntmps49
    go_wp2
    go_ret
    exact ⟨rfl, rfl⟩
theorem l1Max_any (a b : Int) (w : World) : Calls Try.prog 50 #[.int .i64 a, .int .i64 b] w fun e w' => e = .returned (.int .i64 (if b < a then a else b)) ∧ w = w' := by
  by_cases h : b < a
  · rw [if_pos h]
    go_enter Try.func50, Try.ntmps50
    go_wp2
    go_ret
    exact ⟨rfl, rfl⟩
  · rw [if_neg h]
    go_enter Try.func50, Try.ntmps50
    go_wp2
    go_ret
    exact ⟨rfl, rfl⟩

theorem Queued_yes (u : Int) (d : ByteArray) (s : Int) (fs dn : Bool) (x : ByteArray) (hd : d.size ≤ maxLen) (hx : x.size ≤ maxLen) (h : sndB u d s false fs dn = true) (h48 : d.size ≤ 48) (w : World) :
    Calls Try.prog 24 #[.agg #[.int .i64 u, .string d, .int .i64 s, .bool false, .bool fs, .bool dn], .string x] w fun e w' => e = .returned (.tuple #[.agg #[.int .i64 u, .string (d ++ x.extract 0 (qn d x)), .int .i64 s, .bool false, .bool fs, .bool dn], .int .i64 (qn d x)]) ∧ Below w.heap.size w w' := by
  have hx' := hx
  unfold maxLen at hx'
  obtain ⟨m, hq⟩ : ∃ m, qn d x = m := ⟨_, rfl⟩
  have hm1 : m ≤ x.size := by rw [← hq]; unfold qn; split <;> omega
  have hm2 : m ≤ 48 - d.size := by rw [← hq]; unfold qn; split <;> omega
  have hm3 : m = x.size ∨ (m = 48 - d.size ∧ 48 - d.size < x.size) := by rw [← hq]; unfold qn; split <;> omega
  rw [hq]
  clear hq
  rcases hm3 with rfl | ⟨rfl, hm⟩
  · go_enter Try.func24, Try.ntmps24
    go_wp2_with fail
    refine (SenderOk_any _ _ _ _ _ _ hd _).mono ?_
    rintro e w1 ⟨rfl, hb1⟩
    obtain ⟨hc1, hf1⟩ := bcell hb1
    have hz1 := hb1.size
    (try simp at hz1)
    have hy1_0 : w.heap.size < w1.heap.size := by omega
    have hy1_1 : w.heap.size + 1 < w1.heap.size := by omega
    have hr : w1.heap[w.heap.size + 1]? = some (.cells #[.int .i64 0, .string ⟨#[]⟩, .int .i64 0, .bool false, .bool false, .bool false] 26 (0, 0)) := (hb1.block _ (by simp)).trans (heap_alloc2_new _ _ _)
    have hs1 : w1.heap[w.heap.size]? = some (.cells #[.int .i64 u, .string d, .int .i64 s, .bool false, .bool fs, .bool dn] 26 (0, 0)) := (hb1.block _ (by simp; omega)).trans (heap_alloc2_old _ _ _)
    have r0_hs1 := cell_of_row _ _ 0 _ _ _ hs1
    have r1_hs1 := cell_of_row _ _ 1 _ _ _ hs1
    have r2_hs1 := cell_of_row _ _ 2 _ _ _ hs1
    have r3_hs1 := cell_of_row _ _ 3 _ _ _ hs1
    have r4_hs1 := cell_of_row _ _ 4 _ _ _ hs1
    have r5_hs1 := cell_of_row _ _ 5 _ _ _ hs1
    have f0_hs1 := frozen_of_row _ _ 0 _ _ hs1
    have f1_hs1 := frozen_of_row _ _ 1 _ _ hs1
    have f2_hs1 := frozen_of_row _ _ 2 _ _ hs1
    have f3_hs1 := frozen_of_row _ _ 3 _ _ hs1
    have f4_hs1 := frozen_of_row _ _ 4 _ _ hs1
    have f5_hs1 := frozen_of_row _ _ 5 _ _ hs1
    simp at r0_hs1 r1_hs1 r2_hs1 r3_hs1 r4_hs1 r5_hs1
    have r0_hr := cell_of_row _ _ 0 _ _ _ hr
    have r1_hr := cell_of_row _ _ 1 _ _ _ hr
    have r2_hr := cell_of_row _ _ 2 _ _ _ hr
    have r3_hr := cell_of_row _ _ 3 _ _ _ hr
    have r4_hr := cell_of_row _ _ 4 _ _ _ hr
    have r5_hr := cell_of_row _ _ 5 _ _ _ hr
    have f0_hr := frozen_of_row _ _ 0 _ _ hr
    have f1_hr := frozen_of_row _ _ 1 _ _ hr
    have f2_hr := frozen_of_row _ _ 2 _ _ hr
    have f3_hr := frozen_of_row _ _ 3 _ _ hr
    have f4_hr := frozen_of_row _ _ 4 _ _ hr
    have f5_hr := frozen_of_row _ _ 5 _ _ hr
    simp at r0_hr r1_hr r2_hr r3_hr r4_hr r5_hr
    clear hc1 hf1
    go_wp2_with fail
    go_region
    go_wp2_with fail
    apply bodyPost_ret (results_row_tmp1 (P := Try.prog) (fn := Try.f24) rfl _ _ _ 26 _ (0, 0) _ rfl _ Try.underlying26 rfl _) rfl
    rotate_left 2
    · repeat (first | (with_reducible apply heap_setCell_same) | (with_reducible apply drew_row) | (with_reducible apply drewN_row) | (with_reducible exact hr) | (with_reducible refine (heap_setCell_other _ _ _ _ (by first | omega | (simp; done) | (simp; omega))).trans ?_) | (with_reducible refine (Below.heap_alloc _ _ _ (by first | omega | (simp; done) | (simp; omega))).trans ?_))
    · kernel_rfl
    exact ⟨by simp, (by repeat (first | with_reducible exact Below.refl _ _ | with_reducible assumption | with_reducible refine Below.drew ?_ | with_reducible refine Below.alloc ?_ (by first | exact Nat.le_refl _ | omega | (simp; done) | (simp; omega)) _ | with_reducible refine Below.setCell ?_ (by first | exact Nat.le_refl _ | omega | (simp; done) | (simp; omega)) _ | (with_reducible refine ext_trans ?_ (by with_reducible assumption))))⟩
  · have hc48 : ((48 - d.size : Nat) : Int) = 48 - (d.size : Int) := by omega
    have hmI : ¬ (x.size : Int) ≤ 48 - (d.size : Int) := by omega
    have hmJ : 48 - (d.size : Int) ≤ (x.size : Int) := by omega
    have hmK : (0 : Int) ≤ 48 - (d.size : Int) := by omega
    rw [hc48]
    go_enter Try.func24, Try.ntmps24
    go_wp2_with fail
    refine (SenderOk_any _ _ _ _ _ _ hd _).mono ?_
    rintro e w1 ⟨rfl, hb1⟩
    obtain ⟨hc1, hf1⟩ := bcell hb1
    have hz1 := hb1.size
    (try simp at hz1)
    have hy1_0 : w.heap.size < w1.heap.size := by omega
    have hy1_1 : w.heap.size + 1 < w1.heap.size := by omega
    have hr : w1.heap[w.heap.size + 1]? = some (.cells #[.int .i64 0, .string ⟨#[]⟩, .int .i64 0, .bool false, .bool false, .bool false] 26 (0, 0)) := (hb1.block _ (by simp)).trans (heap_alloc2_new _ _ _)
    have hs1 : w1.heap[w.heap.size]? = some (.cells #[.int .i64 u, .string d, .int .i64 s, .bool false, .bool fs, .bool dn] 26 (0, 0)) := (hb1.block _ (by simp; omega)).trans (heap_alloc2_old _ _ _)
    have r0_hs1 := cell_of_row _ _ 0 _ _ _ hs1
    have r1_hs1 := cell_of_row _ _ 1 _ _ _ hs1
    have r2_hs1 := cell_of_row _ _ 2 _ _ _ hs1
    have r3_hs1 := cell_of_row _ _ 3 _ _ _ hs1
    have r4_hs1 := cell_of_row _ _ 4 _ _ _ hs1
    have r5_hs1 := cell_of_row _ _ 5 _ _ _ hs1
    have f0_hs1 := frozen_of_row _ _ 0 _ _ hs1
    have f1_hs1 := frozen_of_row _ _ 1 _ _ hs1
    have f2_hs1 := frozen_of_row _ _ 2 _ _ hs1
    have f3_hs1 := frozen_of_row _ _ 3 _ _ hs1
    have f4_hs1 := frozen_of_row _ _ 4 _ _ hs1
    have f5_hs1 := frozen_of_row _ _ 5 _ _ hs1
    simp at r0_hs1 r1_hs1 r2_hs1 r3_hs1 r4_hs1 r5_hs1
    have r0_hr := cell_of_row _ _ 0 _ _ _ hr
    have r1_hr := cell_of_row _ _ 1 _ _ _ hr
    have r2_hr := cell_of_row _ _ 2 _ _ _ hr
    have r3_hr := cell_of_row _ _ 3 _ _ _ hr
    have r4_hr := cell_of_row _ _ 4 _ _ _ hr
    have r5_hr := cell_of_row _ _ 5 _ _ _ hr
    have f0_hr := frozen_of_row _ _ 0 _ _ hr
    have f1_hr := frozen_of_row _ _ 1 _ _ hr
    have f2_hr := frozen_of_row _ _ 2 _ _ hr
    have f3_hr := frozen_of_row _ _ 3 _ _ hr
    have f4_hr := frozen_of_row _ _ 4 _ _ hr
    have f5_hr := frozen_of_row _ _ 5 _ _ hr
    simp at r0_hr r1_hr r2_hr r3_hr r4_hr r5_hr
    clear hc1 hf1
    go_wp2_with fail
    go_region
    go_wp2_with fail
    apply bodyPost_ret (results_row_tmp1 (P := Try.prog) (fn := Try.f24) rfl _ _ _ 26 _ (0, 0) _ rfl _ Try.underlying26 rfl _) rfl
    rotate_left 2
    · repeat (first | (with_reducible apply heap_setCell_same) | (with_reducible apply drew_row) | (with_reducible apply drewN_row) | (with_reducible exact hr) | (with_reducible refine (heap_setCell_other _ _ _ _ (by first | omega | (simp; done) | (simp; omega))).trans ?_) | (with_reducible refine (Below.heap_alloc _ _ _ (by first | omega | (simp; done) | (simp; omega))).trans ?_))
    · kernel_rfl
    exact ⟨by simp, (by repeat (first | with_reducible exact Below.refl _ _ | with_reducible assumption | with_reducible refine Below.drew ?_ | with_reducible refine Below.alloc ?_ (by first | exact Nat.le_refl _ | omega | (simp; done) | (simp; omega)) _ | with_reducible refine Below.setCell ?_ (by first | exact Nat.le_refl _ | omega | (simp; done) | (simp; omega)) _ | (with_reducible refine ext_trans ?_ (by with_reducible assumption))))⟩

theorem Queued_no (u : Int) (d : ByteArray) (s : Int) (f fs dn : Bool) (x : ByteArray) (hd : d.size ≤ maxLen) (h : sndB u d s f fs dn = false ∨ f = true) (w : World) :
    Calls Try.prog 24 #[.agg #[.int .i64 u, .string d, .int .i64 s, .bool f, .bool fs, .bool dn], .string x] w fun e w' => e = .returned (.tuple #[.agg #[.int .i64 u, .string d, .int .i64 s, .bool f, .bool fs, .bool dn], .int .i64 0]) ∧ Below w.heap.size w w' := by
  by_cases hk : sndB u d s f fs dn = true
  · have hf : f = true := by rcases h with h | h
                             · rw [h] at hk; cases hk
                             · exact h
    subst hf
    clear h
    go_enter Try.func24, Try.ntmps24
    go_wp2_with fail
    refine (SenderOk_any _ _ _ _ _ _ hd _).mono ?_
    rintro e w1 ⟨rfl, hb1⟩
    obtain ⟨hc1, hf1⟩ := bcell hb1
    have hz1 := hb1.size
    (try simp at hz1)
    have hy1_0 : w.heap.size < w1.heap.size := by omega
    have hy1_1 : w.heap.size + 1 < w1.heap.size := by omega
    have hr : w1.heap[w.heap.size + 1]? = some (.cells #[.int .i64 0, .string ⟨#[]⟩, .int .i64 0, .bool false, .bool false, .bool false] 26 (0, 0)) := (hb1.block _ (by simp)).trans (heap_alloc2_new _ _ _)
    have hs1 : w1.heap[w.heap.size]? = some (.cells #[.int .i64 u, .string d, .int .i64 s, .bool true, .bool fs, .bool dn] 26 (0, 0)) := (hb1.block _ (by simp; omega)).trans (heap_alloc2_old _ _ _)
    have r0_hs1 := cell_of_row _ _ 0 _ _ _ hs1
    have r1_hs1 := cell_of_row _ _ 1 _ _ _ hs1
    have r2_hs1 := cell_of_row _ _ 2 _ _ _ hs1
    have r3_hs1 := cell_of_row _ _ 3 _ _ _ hs1
    have r4_hs1 := cell_of_row _ _ 4 _ _ _ hs1
    have r5_hs1 := cell_of_row _ _ 5 _ _ _ hs1
    have f0_hs1 := frozen_of_row _ _ 0 _ _ hs1
    have f1_hs1 := frozen_of_row _ _ 1 _ _ hs1
    have f2_hs1 := frozen_of_row _ _ 2 _ _ hs1
    have f3_hs1 := frozen_of_row _ _ 3 _ _ hs1
    have f4_hs1 := frozen_of_row _ _ 4 _ _ hs1
    have f5_hs1 := frozen_of_row _ _ 5 _ _ hs1
    simp at r0_hs1 r1_hs1 r2_hs1 r3_hs1 r4_hs1 r5_hs1
    have r0_hr := cell_of_row _ _ 0 _ _ _ hr
    have r1_hr := cell_of_row _ _ 1 _ _ _ hr
    have r2_hr := cell_of_row _ _ 2 _ _ _ hr
    have r3_hr := cell_of_row _ _ 3 _ _ _ hr
    have r4_hr := cell_of_row _ _ 4 _ _ _ hr
    have r5_hr := cell_of_row _ _ 5 _ _ _ hr
    have f0_hr := frozen_of_row _ _ 0 _ _ hr
    have f1_hr := frozen_of_row _ _ 1 _ _ hr
    have f2_hr := frozen_of_row _ _ 2 _ _ hr
    have f3_hr := frozen_of_row _ _ 3 _ _ hr
    have f4_hr := frozen_of_row _ _ 4 _ _ hr
    have f5_hr := frozen_of_row _ _ 5 _ _ hr
    simp at r0_hr r1_hr r2_hr r3_hr r4_hr r5_hr
    clear hc1 hf1
    go_wp2_with fail
    apply bodyPost_ret (results_row_tmp1 (P := Try.prog) (fn := Try.f24) rfl _ _ _ 26 _ (0, 0) _ rfl _ Try.underlying26 rfl _) rfl
    rotate_left 2
    · repeat (first | (with_reducible apply heap_setCell_same) | (with_reducible apply drew_row) | (with_reducible apply drewN_row) | (with_reducible exact hr) | (with_reducible refine (heap_setCell_other _ _ _ _ (by first | omega | (simp; done) | (simp; omega))).trans ?_) | (with_reducible refine (Below.heap_alloc _ _ _ (by first | omega | (simp; done) | (simp; omega))).trans ?_))
    · kernel_rfl
    exact ⟨by simp, (by repeat (first | with_reducible exact Below.refl _ _ | with_reducible assumption | with_reducible refine Below.drew ?_ | with_reducible refine Below.alloc ?_ (by first | exact Nat.le_refl _ | omega | (simp; done) | (simp; omega)) _ | with_reducible refine Below.setCell ?_ (by first | exact Nat.le_refl _ | omega | (simp; done) | (simp; omega)) _ | (with_reducible refine ext_trans ?_ (by with_reducible assumption))))⟩
  · have hk : sndB u d s f fs dn = false := by simpa using hk
    clear h
    go_enter Try.func24, Try.ntmps24
    go_wp2_with fail
    refine (SenderOk_any _ _ _ _ _ _ hd _).mono ?_
    rintro e w1 ⟨rfl, hb1⟩
    obtain ⟨hc1, hf1⟩ := bcell hb1
    have hz1 := hb1.size
    (try simp at hz1)
    have hy1_0 : w.heap.size < w1.heap.size := by omega
    have hy1_1 : w.heap.size + 1 < w1.heap.size := by omega
    have hr : w1.heap[w.heap.size + 1]? = some (.cells #[.int .i64 0, .string ⟨#[]⟩, .int .i64 0, .bool false, .bool false, .bool false] 26 (0, 0)) := (hb1.block _ (by simp)).trans (heap_alloc2_new _ _ _)
    have hs1 : w1.heap[w.heap.size]? = some (.cells #[.int .i64 u, .string d, .int .i64 s, .bool f, .bool fs, .bool dn] 26 (0, 0)) := (hb1.block _ (by simp; omega)).trans (heap_alloc2_old _ _ _)
    have r0_hs1 := cell_of_row _ _ 0 _ _ _ hs1
    have r1_hs1 := cell_of_row _ _ 1 _ _ _ hs1
    have r2_hs1 := cell_of_row _ _ 2 _ _ _ hs1
    have r3_hs1 := cell_of_row _ _ 3 _ _ _ hs1
    have r4_hs1 := cell_of_row _ _ 4 _ _ _ hs1
    have r5_hs1 := cell_of_row _ _ 5 _ _ _ hs1
    have f0_hs1 := frozen_of_row _ _ 0 _ _ hs1
    have f1_hs1 := frozen_of_row _ _ 1 _ _ hs1
    have f2_hs1 := frozen_of_row _ _ 2 _ _ hs1
    have f3_hs1 := frozen_of_row _ _ 3 _ _ hs1
    have f4_hs1 := frozen_of_row _ _ 4 _ _ hs1
    have f5_hs1 := frozen_of_row _ _ 5 _ _ hs1
    simp at r0_hs1 r1_hs1 r2_hs1 r3_hs1 r4_hs1 r5_hs1
    have r0_hr := cell_of_row _ _ 0 _ _ _ hr
    have r1_hr := cell_of_row _ _ 1 _ _ _ hr
    have r2_hr := cell_of_row _ _ 2 _ _ _ hr
    have r3_hr := cell_of_row _ _ 3 _ _ _ hr
    have r4_hr := cell_of_row _ _ 4 _ _ _ hr
    have r5_hr := cell_of_row _ _ 5 _ _ _ hr
    have f0_hr := frozen_of_row _ _ 0 _ _ hr
    have f1_hr := frozen_of_row _ _ 1 _ _ hr
    have f2_hr := frozen_of_row _ _ 2 _ _ hr
    have f3_hr := frozen_of_row _ _ 3 _ _ hr
    have f4_hr := frozen_of_row _ _ 4 _ _ hr
    have f5_hr := frozen_of_row _ _ 5 _ _ hr
    simp at r0_hr r1_hr r2_hr r3_hr r4_hr r5_hr
    clear hc1 hf1
    go_wp2_with fail
    apply bodyPost_ret (results_row_tmp1 (P := Try.prog) (fn := Try.f24) rfl _ _ _ 26 _ (0, 0) _ rfl _ Try.underlying26 rfl _) rfl
    rotate_left 2
    · repeat (first | (with_reducible apply heap_setCell_same) | (with_reducible apply drew_row) | (with_reducible apply drewN_row) | (with_reducible exact hr) | (with_reducible refine (heap_setCell_other _ _ _ _ (by first | omega | (simp; done) | (simp; omega))).trans ?_) | (with_reducible refine (Below.heap_alloc _ _ _ (by first | omega | (simp; done) | (simp; omega))).trans ?_))
    · kernel_rfl
    exact ⟨by simp, (by repeat (first | with_reducible exact Below.refl _ _ | with_reducible assumption | with_reducible refine Below.drew ?_ | with_reducible refine Below.alloc ?_ (by first | exact Nat.le_refl _ | omega | (simp; done) | (simp; omega)) _ | with_reducible refine Below.setCell ?_ (by first | exact Nat.le_refl _ | omega | (simp; done) | (simp; omega)) _ | (with_reducible refine ext_trans ?_ (by with_reducible assumption))))⟩

theorem sQueued_yes (u : Int) (d : ByteArray) (s : Int) (fs dn : Bool) (x : ByteArray) (hd : d.size ≤ maxLen) (hx : x.size ≤ maxLen) (h : sndB u d s false fs dn = true) (h48 : d.size ≤ 48) (w : World) :
    Calls Try.prog 23 #[.agg #[.int .i64 u, .string d, .int .i64 s, .bool false, .bool fs, .bool dn], .string x] w fun e w' => e = .returned (.tuple #[.agg #[.int .i64 u, .string (d ++ x.extract 0 (qn d x)), .int .i64 s, .bool false, .bool fs, .bool dn], .int .i64 (qn d x)]) ∧ Below w.heap.size w w' := by
  have hx' := hx
  unfold maxLen at hx'
  obtain ⟨m, hq⟩ : ∃ m, qn d x = m := ⟨_, rfl⟩
  have hm1 : m ≤ x.size := by rw [← hq]; unfold qn; split <;> omega
  have hm2 : m ≤ 48 - d.size := by rw [← hq]; unfold qn; split <;> omega
  have hm3 : m = x.size ∨ (m = 48 - d.size ∧ 48 - d.size < x.size) := by rw [← hq]; unfold qn; split <;> omega
  rw [hq]
  clear hq
  rcases hm3 with rfl | ⟨rfl, hm⟩
  · go_enter Try.func23, Try.ntmps23
    go_wp2_with fail
    refine (sSenderOk_any _ _ _ _ _ _ hd _).mono ?_
    rintro e w1 ⟨rfl, hb1⟩
    obtain ⟨hc1, hf1⟩ := bcell hb1
    have hz1 := hb1.size
    (try simp at hz1)
    have hy1_0 : w.heap.size < w1.heap.size := by omega
    have hy1_1 : w.heap.size + 1 < w1.heap.size := by omega
    have hr : w1.heap[w.heap.size + 1]? = some (.cells #[.int .i64 0, .string ⟨#[]⟩, .int .i64 0, .bool false, .bool false, .bool false] 26 (0, 0)) := (hb1.block _ (by simp)).trans (heap_alloc2_new _ _ _)
    have hs1 : w1.heap[w.heap.size]? = some (.cells #[.int .i64 u, .string d, .int .i64 s, .bool false, .bool fs, .bool dn] 26 (0, 0)) := (hb1.block _ (by simp; omega)).trans (heap_alloc2_old _ _ _)
    have r0_hs1 := cell_of_row _ _ 0 _ _ _ hs1
    have r1_hs1 := cell_of_row _ _ 1 _ _ _ hs1
    have r2_hs1 := cell_of_row _ _ 2 _ _ _ hs1
    have r3_hs1 := cell_of_row _ _ 3 _ _ _ hs1
    have r4_hs1 := cell_of_row _ _ 4 _ _ _ hs1
    have r5_hs1 := cell_of_row _ _ 5 _ _ _ hs1
    have f0_hs1 := frozen_of_row _ _ 0 _ _ hs1
    have f1_hs1 := frozen_of_row _ _ 1 _ _ hs1
    have f2_hs1 := frozen_of_row _ _ 2 _ _ hs1
    have f3_hs1 := frozen_of_row _ _ 3 _ _ hs1
    have f4_hs1 := frozen_of_row _ _ 4 _ _ hs1
    have f5_hs1 := frozen_of_row _ _ 5 _ _ hs1
    simp at r0_hs1 r1_hs1 r2_hs1 r3_hs1 r4_hs1 r5_hs1
    have r0_hr := cell_of_row _ _ 0 _ _ _ hr
    have r1_hr := cell_of_row _ _ 1 _ _ _ hr
    have r2_hr := cell_of_row _ _ 2 _ _ _ hr
    have r3_hr := cell_of_row _ _ 3 _ _ _ hr
    have r4_hr := cell_of_row _ _ 4 _ _ _ hr
    have r5_hr := cell_of_row _ _ 5 _ _ _ hr
    have f0_hr := frozen_of_row _ _ 0 _ _ hr
    have f1_hr := frozen_of_row _ _ 1 _ _ hr
    have f2_hr := frozen_of_row _ _ 2 _ _ hr
    have f3_hr := frozen_of_row _ _ 3 _ _ hr
    have f4_hr := frozen_of_row _ _ 4 _ _ hr
    have f5_hr := frozen_of_row _ _ 5 _ _ hr
    simp at r0_hr r1_hr r2_hr r3_hr r4_hr r5_hr
    clear hc1 hf1
    go_wp2_with fail
    refine (l1Min_any _ _ _).mono ?_
    rw [show (if ((x.size : Int) < 48 - (d.size : Int)) then (x.size : Int) else 48 - (d.size : Int)) = (x.size : Int) from by split <;> omega]
    rintro e w' ⟨rfl, rfl⟩
    go_wp2_with fail
    go_region
    go_wp2_with fail
    apply bodyPost_ret (results_row_tmp1 (P := Try.prog) (fn := Try.f23) rfl _ _ _ 26 _ (0, 0) _ rfl _ Try.underlying26 rfl _) rfl
    rotate_left 2
    · repeat (first | (with_reducible apply heap_setCell_same) | (with_reducible apply drew_row) | (with_reducible apply drewN_row) | (with_reducible exact hr) | (with_reducible refine (heap_setCell_other _ _ _ _ (by first | omega | (simp; done) | (simp; omega))).trans ?_) | (with_reducible refine (Below.heap_alloc _ _ _ (by first | omega | (simp; done) | (simp; omega))).trans ?_))
    · kernel_rfl
    exact ⟨by simp, (by repeat (first | with_reducible exact Below.refl _ _ | with_reducible assumption | with_reducible refine Below.drew ?_ | with_reducible refine Below.alloc ?_ (by first | exact Nat.le_refl _ | omega | (simp; done) | (simp; omega)) _ | with_reducible refine Below.setCell ?_ (by first | exact Nat.le_refl _ | omega | (simp; done) | (simp; omega)) _ | (with_reducible refine ext_trans ?_ (by with_reducible assumption))))⟩
  · have hc48 : ((48 - d.size : Nat) : Int) = 48 - (d.size : Int) := by omega
    have hmI : ¬ (x.size : Int) ≤ 48 - (d.size : Int) := by omega
    have hmJ : 48 - (d.size : Int) ≤ (x.size : Int) := by omega
    have hmK : (0 : Int) ≤ 48 - (d.size : Int) := by omega
    rw [hc48]
    go_enter Try.func23, Try.ntmps23
    go_wp2_with fail
    refine (sSenderOk_any _ _ _ _ _ _ hd _).mono ?_
    rintro e w1 ⟨rfl, hb1⟩
    obtain ⟨hc1, hf1⟩ := bcell hb1
    have hz1 := hb1.size
    (try simp at hz1)
    have hy1_0 : w.heap.size < w1.heap.size := by omega
    have hy1_1 : w.heap.size + 1 < w1.heap.size := by omega
    have hr : w1.heap[w.heap.size + 1]? = some (.cells #[.int .i64 0, .string ⟨#[]⟩, .int .i64 0, .bool false, .bool false, .bool false] 26 (0, 0)) := (hb1.block _ (by simp)).trans (heap_alloc2_new _ _ _)
    have hs1 : w1.heap[w.heap.size]? = some (.cells #[.int .i64 u, .string d, .int .i64 s, .bool false, .bool fs, .bool dn] 26 (0, 0)) := (hb1.block _ (by simp; omega)).trans (heap_alloc2_old _ _ _)
    have r0_hs1 := cell_of_row _ _ 0 _ _ _ hs1
    have r1_hs1 := cell_of_row _ _ 1 _ _ _ hs1
    have r2_hs1 := cell_of_row _ _ 2 _ _ _ hs1
    have r3_hs1 := cell_of_row _ _ 3 _ _ _ hs1
    have r4_hs1 := cell_of_row _ _ 4 _ _ _ hs1
    have r5_hs1 := cell_of_row _ _ 5 _ _ _ hs1
    have f0_hs1 := frozen_of_row _ _ 0 _ _ hs1
    have f1_hs1 := frozen_of_row _ _ 1 _ _ hs1
    have f2_hs1 := frozen_of_row _ _ 2 _ _ hs1
    have f3_hs1 := frozen_of_row _ _ 3 _ _ hs1
    have f4_hs1 := frozen_of_row _ _ 4 _ _ hs1
    have f5_hs1 := frozen_of_row _ _ 5 _ _ hs1
    simp at r0_hs1 r1_hs1 r2_hs1 r3_hs1 r4_hs1 r5_hs1
    have r0_hr := cell_of_row _ _ 0 _ _ _ hr
    have r1_hr := cell_of_row _ _ 1 _ _ _ hr
    have r2_hr := cell_of_row _ _ 2 _ _ _ hr
    have r3_hr := cell_of_row _ _ 3 _ _ _ hr
    have r4_hr := cell_of_row _ _ 4 _ _ _ hr
    have r5_hr := cell_of_row _ _ 5 _ _ _ hr
    have f0_hr := frozen_of_row _ _ 0 _ _ hr
    have f1_hr := frozen_of_row _ _ 1 _ _ hr
    have f2_hr := frozen_of_row _ _ 2 _ _ hr
    have f3_hr := frozen_of_row _ _ 3 _ _ hr
    have f4_hr := frozen_of_row _ _ 4 _ _ hr
    have f5_hr := frozen_of_row _ _ 5 _ _ hr
    simp at r0_hr r1_hr r2_hr r3_hr r4_hr r5_hr
    clear hc1 hf1
    go_wp2_with fail
    refine (l1Min_any _ _ _).mono ?_
    rw [show (if ((x.size : Int) < 48 - (d.size : Int)) then (x.size : Int) else 48 - (d.size : Int)) = 48 - (d.size : Int) from by split <;> omega]
    rintro e w' ⟨rfl, rfl⟩
    go_wp2_with fail
    go_region
    go_wp2_with fail
    apply bodyPost_ret (results_row_tmp1 (P := Try.prog) (fn := Try.f23) rfl _ _ _ 26 _ (0, 0) _ rfl _ Try.underlying26 rfl _) rfl
    rotate_left 2
    · repeat (first | (with_reducible apply heap_setCell_same) | (with_reducible apply drew_row) | (with_reducible apply drewN_row) | (with_reducible exact hr) | (with_reducible refine (heap_setCell_other _ _ _ _ (by first | omega | (simp; done) | (simp; omega))).trans ?_) | (with_reducible refine (Below.heap_alloc _ _ _ (by first | omega | (simp; done) | (simp; omega))).trans ?_))
    · kernel_rfl
    exact ⟨by simp, (by repeat (first | with_reducible exact Below.refl _ _ | with_reducible assumption | with_reducible refine Below.drew ?_ | with_reducible refine Below.alloc ?_ (by first | exact Nat.le_refl _ | omega | (simp; done) | (simp; omega)) _ | with_reducible refine Below.setCell ?_ (by first | exact Nat.le_refl _ | omega | (simp; done) | (simp; omega)) _ | (with_reducible refine ext_trans ?_ (by with_reducible assumption))))⟩

theorem sQueued_no (u : Int) (d : ByteArray) (s : Int) (f fs dn : Bool) (x : ByteArray) (hd : d.size ≤ maxLen) (h : sndB u d s f fs dn = false ∨ f = true) (w : World) :
    Calls Try.prog 23 #[.agg #[.int .i64 u, .string d, .int .i64 s, .bool f, .bool fs, .bool dn], .string x] w fun e w' => e = .returned (.tuple #[.agg #[.int .i64 u, .string d, .int .i64 s, .bool f, .bool fs, .bool dn], .int .i64 0]) ∧ Below w.heap.size w w' := by
  by_cases hk : sndB u d s f fs dn = true
  · have hf : f = true := by rcases h with h | h
                             · rw [h] at hk; cases hk
                             · exact h
    subst hf
    clear h
    go_enter Try.func23, Try.ntmps23
    go_wp2_with fail
    refine (sSenderOk_any _ _ _ _ _ _ hd _).mono ?_
    rintro e w1 ⟨rfl, hb1⟩
    obtain ⟨hc1, hf1⟩ := bcell hb1
    have hz1 := hb1.size
    (try simp at hz1)
    have hy1_0 : w.heap.size < w1.heap.size := by omega
    have hy1_1 : w.heap.size + 1 < w1.heap.size := by omega
    have hr : w1.heap[w.heap.size + 1]? = some (.cells #[.int .i64 0, .string ⟨#[]⟩, .int .i64 0, .bool false, .bool false, .bool false] 26 (0, 0)) := (hb1.block _ (by simp)).trans (heap_alloc2_new _ _ _)
    have hs1 : w1.heap[w.heap.size]? = some (.cells #[.int .i64 u, .string d, .int .i64 s, .bool true, .bool fs, .bool dn] 26 (0, 0)) := (hb1.block _ (by simp; omega)).trans (heap_alloc2_old _ _ _)
    have r0_hs1 := cell_of_row _ _ 0 _ _ _ hs1
    have r1_hs1 := cell_of_row _ _ 1 _ _ _ hs1
    have r2_hs1 := cell_of_row _ _ 2 _ _ _ hs1
    have r3_hs1 := cell_of_row _ _ 3 _ _ _ hs1
    have r4_hs1 := cell_of_row _ _ 4 _ _ _ hs1
    have r5_hs1 := cell_of_row _ _ 5 _ _ _ hs1
    have f0_hs1 := frozen_of_row _ _ 0 _ _ hs1
    have f1_hs1 := frozen_of_row _ _ 1 _ _ hs1
    have f2_hs1 := frozen_of_row _ _ 2 _ _ hs1
    have f3_hs1 := frozen_of_row _ _ 3 _ _ hs1
    have f4_hs1 := frozen_of_row _ _ 4 _ _ hs1
    have f5_hs1 := frozen_of_row _ _ 5 _ _ hs1
    simp at r0_hs1 r1_hs1 r2_hs1 r3_hs1 r4_hs1 r5_hs1
    have r0_hr := cell_of_row _ _ 0 _ _ _ hr
    have r1_hr := cell_of_row _ _ 1 _ _ _ hr
    have r2_hr := cell_of_row _ _ 2 _ _ _ hr
    have r3_hr := cell_of_row _ _ 3 _ _ _ hr
    have r4_hr := cell_of_row _ _ 4 _ _ _ hr
    have r5_hr := cell_of_row _ _ 5 _ _ _ hr
    have f0_hr := frozen_of_row _ _ 0 _ _ hr
    have f1_hr := frozen_of_row _ _ 1 _ _ hr
    have f2_hr := frozen_of_row _ _ 2 _ _ hr
    have f3_hr := frozen_of_row _ _ 3 _ _ hr
    have f4_hr := frozen_of_row _ _ 4 _ _ hr
    have f5_hr := frozen_of_row _ _ 5 _ _ hr
    simp at r0_hr r1_hr r2_hr r3_hr r4_hr r5_hr
    clear hc1 hf1
    go_wp2_with fail
    apply bodyPost_ret (results_row_tmp1 (P := Try.prog) (fn := Try.f23) rfl _ _ _ 26 _ (0, 0) _ rfl _ Try.underlying26 rfl _) rfl
    rotate_left 2
    · repeat (first | (with_reducible apply heap_setCell_same) | (with_reducible apply drew_row) | (with_reducible apply drewN_row) | (with_reducible exact hr) | (with_reducible refine (heap_setCell_other _ _ _ _ (by first | omega | (simp; done) | (simp; omega))).trans ?_) | (with_reducible refine (Below.heap_alloc _ _ _ (by first | omega | (simp; done) | (simp; omega))).trans ?_))
    · kernel_rfl
    exact ⟨by simp, (by repeat (first | with_reducible exact Below.refl _ _ | with_reducible assumption | with_reducible refine Below.drew ?_ | with_reducible refine Below.alloc ?_ (by first | exact Nat.le_refl _ | omega | (simp; done) | (simp; omega)) _ | with_reducible refine Below.setCell ?_ (by first | exact Nat.le_refl _ | omega | (simp; done) | (simp; omega)) _ | (with_reducible refine ext_trans ?_ (by with_reducible assumption))))⟩
  · have hk : sndB u d s f fs dn = false := by simpa using hk
    clear h
    go_enter Try.func23, Try.ntmps23
    go_wp2_with fail
    refine (sSenderOk_any _ _ _ _ _ _ hd _).mono ?_
    rintro e w1 ⟨rfl, hb1⟩
    obtain ⟨hc1, hf1⟩ := bcell hb1
    have hz1 := hb1.size
    (try simp at hz1)
    have hy1_0 : w.heap.size < w1.heap.size := by omega
    have hy1_1 : w.heap.size + 1 < w1.heap.size := by omega
    have hr : w1.heap[w.heap.size + 1]? = some (.cells #[.int .i64 0, .string ⟨#[]⟩, .int .i64 0, .bool false, .bool false, .bool false] 26 (0, 0)) := (hb1.block _ (by simp)).trans (heap_alloc2_new _ _ _)
    have hs1 : w1.heap[w.heap.size]? = some (.cells #[.int .i64 u, .string d, .int .i64 s, .bool f, .bool fs, .bool dn] 26 (0, 0)) := (hb1.block _ (by simp; omega)).trans (heap_alloc2_old _ _ _)
    have r0_hs1 := cell_of_row _ _ 0 _ _ _ hs1
    have r1_hs1 := cell_of_row _ _ 1 _ _ _ hs1
    have r2_hs1 := cell_of_row _ _ 2 _ _ _ hs1
    have r3_hs1 := cell_of_row _ _ 3 _ _ _ hs1
    have r4_hs1 := cell_of_row _ _ 4 _ _ _ hs1
    have r5_hs1 := cell_of_row _ _ 5 _ _ _ hs1
    have f0_hs1 := frozen_of_row _ _ 0 _ _ hs1
    have f1_hs1 := frozen_of_row _ _ 1 _ _ hs1
    have f2_hs1 := frozen_of_row _ _ 2 _ _ hs1
    have f3_hs1 := frozen_of_row _ _ 3 _ _ hs1
    have f4_hs1 := frozen_of_row _ _ 4 _ _ hs1
    have f5_hs1 := frozen_of_row _ _ 5 _ _ hs1
    simp at r0_hs1 r1_hs1 r2_hs1 r3_hs1 r4_hs1 r5_hs1
    have r0_hr := cell_of_row _ _ 0 _ _ _ hr
    have r1_hr := cell_of_row _ _ 1 _ _ _ hr
    have r2_hr := cell_of_row _ _ 2 _ _ _ hr
    have r3_hr := cell_of_row _ _ 3 _ _ _ hr
    have r4_hr := cell_of_row _ _ 4 _ _ _ hr
    have r5_hr := cell_of_row _ _ 5 _ _ _ hr
    have f0_hr := frozen_of_row _ _ 0 _ _ hr
    have f1_hr := frozen_of_row _ _ 1 _ _ hr
    have f2_hr := frozen_of_row _ _ 2 _ _ hr
    have f3_hr := frozen_of_row _ _ 3 _ _ hr
    have f4_hr := frozen_of_row _ _ 4 _ _ hr
    have f5_hr := frozen_of_row _ _ 5 _ _ hr
    simp at r0_hr r1_hr r2_hr r3_hr r4_hr r5_hr
    clear hc1 hf1
    go_wp2_with fail
    apply bodyPost_ret (results_row_tmp1 (P := Try.prog) (fn := Try.f23) rfl _ _ _ 26 _ (0, 0) _ rfl _ Try.underlying26 rfl _) rfl
    rotate_left 2
    · repeat (first | (with_reducible apply heap_setCell_same) | (with_reducible apply drew_row) | (with_reducible apply drewN_row) | (with_reducible exact hr) | (with_reducible refine (heap_setCell_other _ _ _ _ (by first | omega | (simp; done) | (simp; omega))).trans ?_) | (with_reducible refine (Below.heap_alloc _ _ _ (by first | omega | (simp; done) | (simp; omega))).trans ?_))
    · kernel_rfl
    exact ⟨by simp, (by repeat (first | with_reducible exact Below.refl _ _ | with_reducible assumption | with_reducible refine Below.drew ?_ | with_reducible refine Below.alloc ?_ (by first | exact Nat.le_refl _ | omega | (simp; done) | (simp; omega)) _ | with_reducible refine Below.setCell ?_ (by first | exact Nat.le_refl _ | omega | (simp; done) | (simp; omega)) _ | (with_reducible refine ext_trans ?_ (by with_reducible assumption))))⟩

end Go.Proofs.Ytkkpeienbhbgeaa
