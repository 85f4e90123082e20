/-
  Contracts of Acked.
-/
import Derived.Test.YtkkpeienbhbgeaaSndC
import Derived.Test.YtkkpeienbhbgeaaRgt
namespace Go.Proofs.Ytkkpeienbhbgeaa
open Go.RowKit

theorem sndB_fs {u : Int} {d : ByteArray} {s : Int} {f dn : Bool} (h : sndB u d s f true dn = true) : s = d.size := by
  simp [sndB] at h
  omega

theorem Acked_yes (u : Int) (d : ByteArray) (k : Nat) (f fs dn : Bool) (ack : Int) (h : sndB u d k f fs dn = true) (hk : k ≤ d.size) (hd : d.size ≤ 48) (n : Nat) (hn : seqDiff ack u = n) (hf : (n : Int) ≤ fly k fs) (w : World) :
    Calls Try.prog 33 #[.agg #[.int .i64 u, .string d, .int .i64 k, .bool f, .bool fs, .bool dn], .int .i64 ack] w fun e w' => e = .returned (.tuple #[.agg #[.int .i64 (seqAdd u n), .string (d.extract (min n k) d.size), .int .i64 ((k - min n k : Nat) : Int), .bool f, .bool (fs && decide (n ≤ k)), .bool (dn || decide (k < n))], .bool true]) ∧ Below w.heap.size w w' := by
  have hd' : d.size ≤ maxLen := by unfold maxLen; omega
  have hsd := fun w => SeqDiff_any ack u w
  have hfl : 0 ≤ fly k fs ∧ fly k fs ≤ 49 := by
    unfold fly wrap64
    split <;> omega
  obtain ⟨hfl1, hfl2⟩ := hfl
  have hin : inB n 0 (fly k fs) = true := inB_iff.2 ⟨by omega, hf⟩
  rw [hn] at hsd
  have HSD := Lib.hid hsd
  have hfg := fun w => flying_any u d k f fs dn w
  obtain ⟨FL, hFL⟩ : ∃ FL, fly k fs = FL := ⟨_, rfl⟩
  simp only [hFL] at hfg hin
  have HFG := Lib.hid hfg
  have hn49 : (n : Int) ≤ 49 := by omega
  clear hsd hn hfg
  by_cases hnk : n ≤ k
  · have e1 : min n k = n := by omega
    have e2 : decide (n ≤ k) = true := by simpa using hnk
    have e3 : decide (k < n) = false := by simp; omega
    rw [e1, e2, e3, Bool.and_true, Bool.or_false]
    have q1 : ((n : Int) == (k : Int) + 1) = false := by rw [beq_eq_false_iff_ne]; omega
    have q2 : ((k - n : Nat) : Int) = (k : Int) - (n : Int) := by omega
    rw [q2]
    clear e1 e2 e3 q2 hFL hf
    go_enter Try.func33, Try.ntmps33
    go_wp2_with fail
    refine (HSD.out _).mono ?_
    rintro e w' ⟨rfl, rfl⟩
    go_wp2_with fail
    refine (SenderOk_any _ _ _ _ _ _ hd' _).mono ?_
    rintro e w1 ⟨rfl, hb1⟩
    obtain ⟨hc1, hf1⟩ := bcell hb1
    have hz1 := hb1.size
    (try simp at hz1)
    have hy1_0 : w.heap.size < w1.heap.size := by omega
    have hy1_1 : w.heap.size + 1 < w1.heap.size := by omega
    have hs1 : w1.heap[w.heap.size]? = some (.cells #[.int .i64 u, .string d, .int .i64 k, .bool f, .bool fs, .bool dn] 26 (0, 0)) := (hb1.block _ (by first | (simp; done) | (simp; omega))).trans (by repeat (first | exact heap_new _ _ _ (by first | rfl | (simp; done) | (simp; omega)) | refine (Below.heap_alloc _ _ _ (by first | omega | (simp; done) | (simp; omega))).trans ?_))
    have hr1 : w1.heap[w.heap.size + 1]? = some (.cells #[.int .i64 0, .string ⟨#[]⟩, .int .i64 0, .bool false, .bool false, .bool false] 26 (0, 0)) := (hb1.block _ (by first | (simp; done) | (simp; omega))).trans (by repeat (first | exact heap_new _ _ _ (by first | rfl | (simp; done) | (simp; omega)) | refine (Below.heap_alloc _ _ _ (by first | omega | (simp; done) | (simp; omega))).trans ?_))
    have r0_hs1 := cell_of_row _ _ 0 _ _ _ hs1
    have r1_hs1 := cell_of_row _ _ 1 _ _ _ hs1
    have r2_hs1 := cell_of_row _ _ 2 _ _ _ hs1
    have r3_hs1 := cell_of_row _ _ 3 _ _ _ hs1
    have r4_hs1 := cell_of_row _ _ 4 _ _ _ hs1
    have r5_hs1 := cell_of_row _ _ 5 _ _ _ hs1
    have f0_hs1 := frozen_of_row _ _ 0 _ _ hs1
    have f1_hs1 := frozen_of_row _ _ 1 _ _ hs1
    have f2_hs1 := frozen_of_row _ _ 2 _ _ hs1
    have f3_hs1 := frozen_of_row _ _ 3 _ _ hs1
    have f4_hs1 := frozen_of_row _ _ 4 _ _ hs1
    have f5_hs1 := frozen_of_row _ _ 5 _ _ hs1
    simp at r0_hs1 r1_hs1 r2_hs1 r3_hs1 r4_hs1 r5_hs1
    have r0_hr1 := cell_of_row _ _ 0 _ _ _ hr1
    have r1_hr1 := cell_of_row _ _ 1 _ _ _ hr1
    have r2_hr1 := cell_of_row _ _ 2 _ _ _ hr1
    have r3_hr1 := cell_of_row _ _ 3 _ _ _ hr1
    have r4_hr1 := cell_of_row _ _ 4 _ _ _ hr1
    have r5_hr1 := cell_of_row _ _ 5 _ _ _ hr1
    have f0_hr1 := frozen_of_row _ _ 0 _ _ hr1
    have f1_hr1 := frozen_of_row _ _ 1 _ _ hr1
    have f2_hr1 := frozen_of_row _ _ 2 _ _ hr1
    have f3_hr1 := frozen_of_row _ _ 3 _ _ hr1
    have f4_hr1 := frozen_of_row _ _ 4 _ _ hr1
    have f5_hr1 := frozen_of_row _ _ 5 _ _ hr1
    simp at r0_hr1 r1_hr1 r2_hr1 r3_hr1 r4_hr1 r5_hr1
    clear hc1 hf1
    go_wp2_with fail
    refine (HFG.out _).mono ?_
    rintro e w2 ⟨rfl, hb2⟩
    obtain ⟨hc2, hf2⟩ := bcell hb2
    have hz2 := hb2.size
    (try simp at hz2)
    have hy2_0 : w.heap.size < w2.heap.size := by omega
    have hy2_1 : w.heap.size + 1 < w2.heap.size := by omega
    have hs2 := (hb2.block (w.heap.size) (by omega)).trans hs1
    have hr2 := (hb2.block (w.heap.size + 1) (by omega)).trans hr1
    have r0_hs2 := cell_of_row _ _ 0 _ _ _ hs2
    have r1_hs2 := cell_of_row _ _ 1 _ _ _ hs2
    have r2_hs2 := cell_of_row _ _ 2 _ _ _ hs2
    have r3_hs2 := cell_of_row _ _ 3 _ _ _ hs2
    have r4_hs2 := cell_of_row _ _ 4 _ _ _ hs2
    have r5_hs2 := cell_of_row _ _ 5 _ _ _ hs2
    have f0_hs2 := frozen_of_row _ _ 0 _ _ hs2
    have f1_hs2 := frozen_of_row _ _ 1 _ _ hs2
    have f2_hs2 := frozen_of_row _ _ 2 _ _ hs2
    have f3_hs2 := frozen_of_row _ _ 3 _ _ hs2
    have f4_hs2 := frozen_of_row _ _ 4 _ _ hs2
    have f5_hs2 := frozen_of_row _ _ 5 _ _ hs2
    simp at r0_hs2 r1_hs2 r2_hs2 r3_hs2 r4_hs2 r5_hs2
    have r0_hr2 := cell_of_row _ _ 0 _ _ _ hr2
    have r1_hr2 := cell_of_row _ _ 1 _ _ _ hr2
    have r2_hr2 := cell_of_row _ _ 2 _ _ _ hr2
    have r3_hr2 := cell_of_row _ _ 3 _ _ _ hr2
    have r4_hr2 := cell_of_row _ _ 4 _ _ _ hr2
    have r5_hr2 := cell_of_row _ _ 5 _ _ _ hr2
    have f0_hr2 := frozen_of_row _ _ 0 _ _ hr2
    have f1_hr2 := frozen_of_row _ _ 1 _ _ hr2
    have f2_hr2 := frozen_of_row _ _ 2 _ _ hr2
    have f3_hr2 := frozen_of_row _ _ 3 _ _ hr2
    have f4_hr2 := frozen_of_row _ _ 4 _ _ hr2
    have f5_hr2 := frozen_of_row _ _ 5 _ _ hr2
    simp at r0_hr2 r1_hr2 r2_hr2 r3_hr2 r4_hr2 r5_hr2
    clear hc2 hf2
    go_wp2_with fail
    refine (within_any _ _ _ _).mono ?_
    rw [hin]
    rintro e w' ⟨rfl, rfl⟩
    go_wp2_with fail
    refine (SeqAdd_any _ _ _).mono ?_
    rintro e w' ⟨rfl, rfl⟩
    go_wp2_with fail
    apply bodyPost_ret (results_row_tmp1 (P := Try.prog) (fn := Try.f33) rfl _ _ _ 26 _ (0, 0) _ rfl _ Try.underlying26 rfl _) rfl
    rotate_left 2
    · repeat (first | (with_reducible apply heap_setCell_same) | (with_reducible apply drew_row) | (with_reducible apply drewN_row) | (with_reducible exact hr2) | (with_reducible refine (heap_setCell_other _ _ _ _ (by first | omega | (simp; done) | (simp; omega))).trans ?_) | (with_reducible refine (Below.heap_alloc _ _ _ (by first | omega | (simp; done) | (simp; omega))).trans ?_))
    · kernel_rfl
    exact ⟨by simp, (by repeat (first | with_reducible exact Below.refl _ _ | with_reducible assumption | with_reducible refine Below.drew ?_ | with_reducible refine Below.alloc ?_ (by first | exact Nat.le_refl _ | omega | (simp; done) | (simp; omega)) _ | with_reducible refine Below.setCell ?_ (by first | exact Nat.le_refl _ | omega | (simp; done) | (simp; omega)) _ | (with_reducible refine ext_trans ?_ (by with_reducible assumption))))⟩
  · cases fs
    · exact absurd hf (by show ¬ ((n : Int) ≤ (k : Int)); omega)
    have hkd : (k : Int) = d.size := sndB_fs h
    obtain rfl : k = d.size := by omega
    have hf2 : FL = d.size + 1 := by rw [← hFL]; unfold fly; simp; exact IntWalk.wrap64_in _ ⟨by omega, by omega⟩
    have hn1 : (d.size : Int) < n := by omega
    have hn2 : (n : Int) ≤ d.size + 1 := by omega
    have e1 : min n d.size = d.size := by omega
    have e2 : decide (n ≤ d.size) = false := by simp; omega
    have e3 : decide (d.size < n) = true := by simp; omega
    rw [e1, e2, e3, Bool.and_false, Bool.or_true]
    have q1 : ((n : Int) == (d.size : Int) + 1) = true := by rw [beq_iff_eq]; omega
    have q2 : ((d.size - d.size : Nat) : Int) = 0 := by omega
    rw [q2]
    clear e1 e2 e3 q2 hFL hf hkd hf2 hnk
    go_enter Try.func33, Try.ntmps33
    go_wp2_with fail
    refine (HSD.out _).mono ?_
    rintro e w' ⟨rfl, rfl⟩
    go_wp2_with fail
    refine (SenderOk_any _ _ _ _ _ _ hd' _).mono ?_
    rintro e w1 ⟨rfl, hb1⟩
    obtain ⟨hc1, hf1⟩ := bcell hb1
    have hz1 := hb1.size
    (try simp at hz1)
    have hy1_0 : w.heap.size < w1.heap.size := by omega
    have hy1_1 : w.heap.size + 1 < w1.heap.size := by omega
    have hs1 : w1.heap[w.heap.size]? = some (.cells #[.int .i64 u, .string d, .int .i64 d.size, .bool f, .bool true, .bool dn] 26 (0, 0)) := (hb1.block _ (by first | (simp; done) | (simp; omega))).trans (by repeat (first | exact heap_new _ _ _ (by first | rfl | (simp; done) | (simp; omega)) | refine (Below.heap_alloc _ _ _ (by first | omega | (simp; done) | (simp; omega))).trans ?_))
    have hr1 : w1.heap[w.heap.size + 1]? = some (.cells #[.int .i64 0, .string ⟨#[]⟩, .int .i64 0, .bool false, .bool false, .bool false] 26 (0, 0)) := (hb1.block _ (by first | (simp; done) | (simp; omega))).trans (by repeat (first | exact heap_new _ _ _ (by first | rfl | (simp; done) | (simp; omega)) | refine (Below.heap_alloc _ _ _ (by first | omega | (simp; done) | (simp; omega))).trans ?_))
    have r0_hs1 := cell_of_row _ _ 0 _ _ _ hs1
    have r1_hs1 := cell_of_row _ _ 1 _ _ _ hs1
    have r2_hs1 := cell_of_row _ _ 2 _ _ _ hs1
    have r3_hs1 := cell_of_row _ _ 3 _ _ _ hs1
    have r4_hs1 := cell_of_row _ _ 4 _ _ _ hs1
    have r5_hs1 := cell_of_row _ _ 5 _ _ _ hs1
    have f0_hs1 := frozen_of_row _ _ 0 _ _ hs1
    have f1_hs1 := frozen_of_row _ _ 1 _ _ hs1
    have f2_hs1 := frozen_of_row _ _ 2 _ _ hs1
    have f3_hs1 := frozen_of_row _ _ 3 _ _ hs1
    have f4_hs1 := frozen_of_row _ _ 4 _ _ hs1
    have f5_hs1 := frozen_of_row _ _ 5 _ _ hs1
    simp at r0_hs1 r1_hs1 r2_hs1 r3_hs1 r4_hs1 r5_hs1
    have r0_hr1 := cell_of_row _ _ 0 _ _ _ hr1
    have r1_hr1 := cell_of_row _ _ 1 _ _ _ hr1
    have r2_hr1 := cell_of_row _ _ 2 _ _ _ hr1
    have r3_hr1 := cell_of_row _ _ 3 _ _ _ hr1
    have r4_hr1 := cell_of_row _ _ 4 _ _ _ hr1
    have r5_hr1 := cell_of_row _ _ 5 _ _ _ hr1
    have f0_hr1 := frozen_of_row _ _ 0 _ _ hr1
    have f1_hr1 := frozen_of_row _ _ 1 _ _ hr1
    have f2_hr1 := frozen_of_row _ _ 2 _ _ hr1
    have f3_hr1 := frozen_of_row _ _ 3 _ _ hr1
    have f4_hr1 := frozen_of_row _ _ 4 _ _ hr1
    have f5_hr1 := frozen_of_row _ _ 5 _ _ hr1
    simp at r0_hr1 r1_hr1 r2_hr1 r3_hr1 r4_hr1 r5_hr1
    clear hc1 hf1
    go_wp2_with fail
    refine (HFG.out _).mono ?_
    rintro e w2 ⟨rfl, hb2⟩
    obtain ⟨hc2, hf2⟩ := bcell hb2
    have hz2 := hb2.size
    (try simp at hz2)
    have hy2_0 : w.heap.size < w2.heap.size := by omega
    have hy2_1 : w.heap.size + 1 < w2.heap.size := by omega
    have hs2 := (hb2.block (w.heap.size) (by omega)).trans hs1
    have hr2 := (hb2.block (w.heap.size + 1) (by omega)).trans hr1
    have r0_hs2 := cell_of_row _ _ 0 _ _ _ hs2
    have r1_hs2 := cell_of_row _ _ 1 _ _ _ hs2
    have r2_hs2 := cell_of_row _ _ 2 _ _ _ hs2
    have r3_hs2 := cell_of_row _ _ 3 _ _ _ hs2
    have r4_hs2 := cell_of_row _ _ 4 _ _ _ hs2
    have r5_hs2 := cell_of_row _ _ 5 _ _ _ hs2
    have f0_hs2 := frozen_of_row _ _ 0 _ _ hs2
    have f1_hs2 := frozen_of_row _ _ 1 _ _ hs2
    have f2_hs2 := frozen_of_row _ _ 2 _ _ hs2
    have f3_hs2 := frozen_of_row _ _ 3 _ _ hs2
    have f4_hs2 := frozen_of_row _ _ 4 _ _ hs2
    have f5_hs2 := frozen_of_row _ _ 5 _ _ hs2
    simp at r0_hs2 r1_hs2 r2_hs2 r3_hs2 r4_hs2 r5_hs2
    have r0_hr2 := cell_of_row _ _ 0 _ _ _ hr2
    have r1_hr2 := cell_of_row _ _ 1 _ _ _ hr2
    have r2_hr2 := cell_of_row _ _ 2 _ _ _ hr2
    have r3_hr2 := cell_of_row _ _ 3 _ _ _ hr2
    have r4_hr2 := cell_of_row _ _ 4 _ _ _ hr2
    have r5_hr2 := cell_of_row _ _ 5 _ _ _ hr2
    have f0_hr2 := frozen_of_row _ _ 0 _ _ hr2
    have f1_hr2 := frozen_of_row _ _ 1 _ _ hr2
    have f2_hr2 := frozen_of_row _ _ 2 _ _ hr2
    have f3_hr2 := frozen_of_row _ _ 3 _ _ hr2
    have f4_hr2 := frozen_of_row _ _ 4 _ _ hr2
    have f5_hr2 := frozen_of_row _ _ 5 _ _ hr2
    simp at r0_hr2 r1_hr2 r2_hr2 r3_hr2 r4_hr2 r5_hr2
    clear hc2 hf2
    go_wp2_with fail
    refine (within_any _ _ _ _).mono ?_
    rw [hin]
    rintro e w' ⟨rfl, rfl⟩
    go_wp2_with fail
    refine (SeqAdd_any _ _ _).mono ?_
    rintro e w' ⟨rfl, rfl⟩
    go_wp2_with fail
    apply bodyPost_ret (results_row_tmp1 (P := Try.prog) (fn := Try.f33) rfl _ _ _ 26 _ (0, 0) _ rfl _ Try.underlying26 rfl _) rfl
    rotate_left 2
    · repeat (first | (with_reducible apply heap_setCell_same) | (with_reducible apply drew_row) | (with_reducible apply drewN_row) | (with_reducible exact hr2) | (with_reducible refine (heap_setCell_other _ _ _ _ (by first | omega | (simp; done) | (simp; omega))).trans ?_) | (with_reducible refine (Below.heap_alloc _ _ _ (by first | omega | (simp; done) | (simp; omega))).trans ?_))
    · kernel_rfl
    exact ⟨by simp, (by repeat (first | with_reducible exact Below.refl _ _ | with_reducible assumption | with_reducible refine Below.drew ?_ | with_reducible refine Below.alloc ?_ (by first | exact Nat.le_refl _ | omega | (simp; done) | (simp; omega)) _ | with_reducible refine Below.setCell ?_ (by first | exact Nat.le_refl _ | omega | (simp; done) | (simp; omega)) _ | (with_reducible refine ext_trans ?_ (by with_reducible assumption))))⟩

theorem sAcked_yes (u : Int) (d : ByteArray) (k : Nat) (f fs dn : Bool) (ack : Int) (h : sndB u d k f fs dn = true) (hk : k ≤ d.size) (hd : d.size ≤ 48) (ha1 : -9223372036854775808 ≤ ack) (ha2 : ack ≤ 9223372036854775807) (hu1 : -9223372036854775808 ≤ u) (hu2 : u ≤ 9223372036854775807) (n : Nat) (hn : seqDiff ack u = n) (hf : (n : Int) ≤ fly k fs) (w : World) :
    Calls Try.prog 32 #[.agg #[.int .i64 u, .string d, .int .i64 k, .bool f, .bool fs, .bool dn], .int .i64 ack] w fun e w' => e = .returned (.tuple #[.agg #[.int .i64 (seqAdd u n), .string (d.extract (min n k) d.size), .int .i64 ((k - min n k : Nat) : Int), .bool f, .bool (fs && decide (n ≤ k)), .bool (dn || decide (k < n))], .bool true]) ∧ Below w.heap.size w w' := by
  have hd' : d.size ≤ maxLen := by unfold maxLen; omega
  have hsd := fun w => sSeqDiff_any ack u ha1 ha2 hu1 hu2 w
  have hfl : 0 ≤ fly k fs ∧ fly k fs ≤ 49 := by
    unfold fly wrap64
    split <;> omega
  obtain ⟨hfl1, hfl2⟩ := hfl
  have hin : inB n 0 (fly k fs) = true := inB_iff.2 ⟨by omega, hf⟩
  rw [hn] at hsd
  have HSD := Lib.hid hsd
  have hfg := fun w => flown_any u d k f fs dn w
  obtain ⟨FL, hFL⟩ : ∃ FL, fly k fs = FL := ⟨_, rfl⟩
  simp only [hFL] at hfg hin
  have HFG := Lib.hid hfg
  have hn49 : (n : Int) ≤ 49 := by omega
  clear hsd hn hfg
  by_cases hnk : n ≤ k
  · have e1 : min n k = n := by omega
    have e2 : decide (n ≤ k) = true := by simpa using hnk
    have e3 : decide (k < n) = false := by simp; omega
    rw [e1, e2, e3, Bool.and_true, Bool.or_false]
    have q1 : ((n : Int) == (k : Int) + 1) = false := by rw [beq_eq_false_iff_ne]; omega
    have q2 : ((k - n : Nat) : Int) = (k : Int) - (n : Int) := by omega
    rw [q2]
    clear e1 e2 e3 q2 hFL hf
    go_enter Try.func32, Try.ntmps32
    go_wp2_with fail
    refine (HSD.out _).mono ?_
    rintro e w' ⟨rfl, rfl⟩
    go_wp2_with fail
    refine (sSenderOk_any _ _ _ _ _ _ hd' _).mono ?_
    rintro e w1 ⟨rfl, hb1⟩
    obtain ⟨hc1, hf1⟩ := bcell hb1
    have hz1 := hb1.size
    (try simp at hz1)
    have hy1_0 : w.heap.size < w1.heap.size := by omega
    have hy1_1 : w.heap.size + 1 < w1.heap.size := by omega
    have hs1 : w1.heap[w.heap.size]? = some (.cells #[.int .i64 u, .string d, .int .i64 k, .bool f, .bool fs, .bool dn] 26 (0, 0)) := (hb1.block _ (by first | (simp; done) | (simp; omega))).trans (by repeat (first | exact heap_new _ _ _ (by first | rfl | (simp; done) | (simp; omega)) | refine (Below.heap_alloc _ _ _ (by first | omega | (simp; done) | (simp; omega))).trans ?_))
    have hr1 : w1.heap[w.heap.size + 1]? = some (.cells #[.int .i64 0, .string ⟨#[]⟩, .int .i64 0, .bool false, .bool false, .bool false] 26 (0, 0)) := (hb1.block _ (by first | (simp; done) | (simp; omega))).trans (by repeat (first | exact heap_new _ _ _ (by first | rfl | (simp; done) | (simp; omega)) | refine (Below.heap_alloc _ _ _ (by first | omega | (simp; done) | (simp; omega))).trans ?_))
    have r0_hs1 := cell_of_row _ _ 0 _ _ _ hs1
    have r1_hs1 := cell_of_row _ _ 1 _ _ _ hs1
    have r2_hs1 := cell_of_row _ _ 2 _ _ _ hs1
    have r3_hs1 := cell_of_row _ _ 3 _ _ _ hs1
    have r4_hs1 := cell_of_row _ _ 4 _ _ _ hs1
    have r5_hs1 := cell_of_row _ _ 5 _ _ _ hs1
    have f0_hs1 := frozen_of_row _ _ 0 _ _ hs1
    have f1_hs1 := frozen_of_row _ _ 1 _ _ hs1
    have f2_hs1 := frozen_of_row _ _ 2 _ _ hs1
    have f3_hs1 := frozen_of_row _ _ 3 _ _ hs1
    have f4_hs1 := frozen_of_row _ _ 4 _ _ hs1
    have f5_hs1 := frozen_of_row _ _ 5 _ _ hs1
    simp at r0_hs1 r1_hs1 r2_hs1 r3_hs1 r4_hs1 r5_hs1
    have r0_hr1 := cell_of_row _ _ 0 _ _ _ hr1
    have r1_hr1 := cell_of_row _ _ 1 _ _ _ hr1
    have r2_hr1 := cell_of_row _ _ 2 _ _ _ hr1
    have r3_hr1 := cell_of_row _ _ 3 _ _ _ hr1
    have r4_hr1 := cell_of_row _ _ 4 _ _ _ hr1
    have r5_hr1 := cell_of_row _ _ 5 _ _ _ hr1
    have f0_hr1 := frozen_of_row _ _ 0 _ _ hr1
    have f1_hr1 := frozen_of_row _ _ 1 _ _ hr1
    have f2_hr1 := frozen_of_row _ _ 2 _ _ hr1
    have f3_hr1 := frozen_of_row _ _ 3 _ _ hr1
    have f4_hr1 := frozen_of_row _ _ 4 _ _ hr1
    have f5_hr1 := frozen_of_row _ _ 5 _ _ hr1
    simp at r0_hr1 r1_hr1 r2_hr1 r3_hr1 r4_hr1 r5_hr1
    clear hc1 hf1
    go_wp2_with fail
    refine (HFG.out _).mono ?_
    rintro e w2 ⟨rfl, hb2⟩
    obtain ⟨hc2, hf2⟩ := bcell hb2
    have hz2 := hb2.size
    (try simp at hz2)
    have hy2_0 : w.heap.size < w2.heap.size := by omega
    have hy2_1 : w.heap.size + 1 < w2.heap.size := by omega
    have hs2 := (hb2.block (w.heap.size) (by omega)).trans hs1
    have hr2 := (hb2.block (w.heap.size + 1) (by omega)).trans hr1
    have r0_hs2 := cell_of_row _ _ 0 _ _ _ hs2
    have r1_hs2 := cell_of_row _ _ 1 _ _ _ hs2
    have r2_hs2 := cell_of_row _ _ 2 _ _ _ hs2
    have r3_hs2 := cell_of_row _ _ 3 _ _ _ hs2
    have r4_hs2 := cell_of_row _ _ 4 _ _ _ hs2
    have r5_hs2 := cell_of_row _ _ 5 _ _ _ hs2
    have f0_hs2 := frozen_of_row _ _ 0 _ _ hs2
    have f1_hs2 := frozen_of_row _ _ 1 _ _ hs2
    have f2_hs2 := frozen_of_row _ _ 2 _ _ hs2
    have f3_hs2 := frozen_of_row _ _ 3 _ _ hs2
    have f4_hs2 := frozen_of_row _ _ 4 _ _ hs2
    have f5_hs2 := frozen_of_row _ _ 5 _ _ hs2
    simp at r0_hs2 r1_hs2 r2_hs2 r3_hs2 r4_hs2 r5_hs2
    have r0_hr2 := cell_of_row _ _ 0 _ _ _ hr2
    have r1_hr2 := cell_of_row _ _ 1 _ _ _ hr2
    have r2_hr2 := cell_of_row _ _ 2 _ _ _ hr2
    have r3_hr2 := cell_of_row _ _ 3 _ _ _ hr2
    have r4_hr2 := cell_of_row _ _ 4 _ _ _ hr2
    have r5_hr2 := cell_of_row _ _ 5 _ _ _ hr2
    have f0_hr2 := frozen_of_row _ _ 0 _ _ hr2
    have f1_hr2 := frozen_of_row _ _ 1 _ _ hr2
    have f2_hr2 := frozen_of_row _ _ 2 _ _ hr2
    have f3_hr2 := frozen_of_row _ _ 3 _ _ hr2
    have f4_hr2 := frozen_of_row _ _ 4 _ _ hr2
    have f5_hr2 := frozen_of_row _ _ 5 _ _ hr2
    simp at r0_hr2 r1_hr2 r2_hr2 r3_hr2 r4_hr2 r5_hr2
    clear hc2 hf2
    go_wp2_with fail
    refine (l1In_any _ _ _ _).mono ?_
    rw [hin]
    rintro e w' ⟨rfl, rfl⟩
    go_wp2_with fail
    refine (sSeqAdd_any _ _ hu1 hu2 (by omega) (by omega) _).mono ?_
    rintro e w' ⟨rfl, rfl⟩
    go_wp2_with fail
    apply bodyPost_ret (results_row_tmp1 (P := Try.prog) (fn := Try.f32) rfl _ _ _ 26 _ (0, 0) _ rfl _ Try.underlying26 rfl _) rfl
    rotate_left 2
    · repeat (first | (with_reducible apply heap_setCell_same) | (with_reducible apply drew_row) | (with_reducible apply drewN_row) | (with_reducible exact hr2) | (with_reducible refine (heap_setCell_other _ _ _ _ (by first | omega | (simp; done) | (simp; omega))).trans ?_) | (with_reducible refine (Below.heap_alloc _ _ _ (by first | omega | (simp; done) | (simp; omega))).trans ?_))
    · kernel_rfl
    exact ⟨by simp, (by repeat (first | with_reducible exact Below.refl _ _ | with_reducible assumption | with_reducible refine Below.drew ?_ | with_reducible refine Below.alloc ?_ (by first | exact Nat.le_refl _ | omega | (simp; done) | (simp; omega)) _ | with_reducible refine Below.setCell ?_ (by first | exact Nat.le_refl _ | omega | (simp; done) | (simp; omega)) _ | (with_reducible refine ext_trans ?_ (by with_reducible assumption))))⟩
  · cases fs
    · exact absurd hf (by show ¬ ((n : Int) ≤ (k : Int)); omega)
    have hkd : (k : Int) = d.size := sndB_fs h
    obtain rfl : k = d.size := by omega
    have hf2 : FL = d.size + 1 := by rw [← hFL]; unfold fly; simp; exact IntWalk.wrap64_in _ ⟨by omega, by omega⟩
    have hn1 : (d.size : Int) < n := by omega
    have hn2 : (n : Int) ≤ d.size + 1 := by omega
    have e1 : min n d.size = d.size := by omega
    have e2 : decide (n ≤ d.size) = false := by simp; omega
    have e3 : decide (d.size < n) = true := by simp; omega
    rw [e1, e2, e3, Bool.and_false, Bool.or_true]
    have q1 : ((n : Int) == (d.size : Int) + 1) = true := by rw [beq_iff_eq]; omega
    have q2 : ((d.size - d.size : Nat) : Int) = 0 := by omega
    rw [q2]
    clear e1 e2 e3 q2 hFL hf hkd hf2 hnk
    go_enter Try.func32, Try.ntmps32
    go_wp2_with fail
    refine (HSD.out _).mono ?_
    rintro e w' ⟨rfl, rfl⟩
    go_wp2_with fail
    refine (sSenderOk_any _ _ _ _ _ _ hd' _).mono ?_
    rintro e w1 ⟨rfl, hb1⟩
    obtain ⟨hc1, hf1⟩ := bcell hb1
    have hz1 := hb1.size
    (try simp at hz1)
    have hy1_0 : w.heap.size < w1.heap.size := by omega
    have hy1_1 : w.heap.size + 1 < w1.heap.size := by omega
    have hs1 : w1.heap[w.heap.size]? = some (.cells #[.int .i64 u, .string d, .int .i64 d.size, .bool f, .bool true, .bool dn] 26 (0, 0)) := (hb1.block _ (by first | (simp; done) | (simp; omega))).trans (by repeat (first | exact heap_new _ _ _ (by first | rfl | (simp; done) | (simp; omega)) | refine (Below.heap_alloc _ _ _ (by first | omega | (simp; done) | (simp; omega))).trans ?_))
    have hr1 : w1.heap[w.heap.size + 1]? = some (.cells #[.int .i64 0, .string ⟨#[]⟩, .int .i64 0, .bool false, .bool false, .bool false] 26 (0, 0)) := (hb1.block _ (by first | (simp; done) | (simp; omega))).trans (by repeat (first | exact heap_new _ _ _ (by first | rfl | (simp; done) | (simp; omega)) | refine (Below.heap_alloc _ _ _ (by first | omega | (simp; done) | (simp; omega))).trans ?_))
    have r0_hs1 := cell_of_row _ _ 0 _ _ _ hs1
    have r1_hs1 := cell_of_row _ _ 1 _ _ _ hs1
    have r2_hs1 := cell_of_row _ _ 2 _ _ _ hs1
    have r3_hs1 := cell_of_row _ _ 3 _ _ _ hs1
    have r4_hs1 := cell_of_row _ _ 4 _ _ _ hs1
    have r5_hs1 := cell_of_row _ _ 5 _ _ _ hs1
    have f0_hs1 := frozen_of_row _ _ 0 _ _ hs1
    have f1_hs1 := frozen_of_row _ _ 1 _ _ hs1
    have f2_hs1 := frozen_of_row _ _ 2 _ _ hs1
    have f3_hs1 := frozen_of_row _ _ 3 _ _ hs1
    have f4_hs1 := frozen_of_row _ _ 4 _ _ hs1
    have f5_hs1 := frozen_of_row _ _ 5 _ _ hs1
    simp at r0_hs1 r1_hs1 r2_hs1 r3_hs1 r4_hs1 r5_hs1
    have r0_hr1 := cell_of_row _ _ 0 _ _ _ hr1
    have r1_hr1 := cell_of_row _ _ 1 _ _ _ hr1
    have r2_hr1 := cell_of_row _ _ 2 _ _ _ hr1
    have r3_hr1 := cell_of_row _ _ 3 _ _ _ hr1
    have r4_hr1 := cell_of_row _ _ 4 _ _ _ hr1
    have r5_hr1 := cell_of_row _ _ 5 _ _ _ hr1
    have f0_hr1 := frozen_of_row _ _ 0 _ _ hr1
    have f1_hr1 := frozen_of_row _ _ 1 _ _ hr1
    have f2_hr1 := frozen_of_row _ _ 2 _ _ hr1
    have f3_hr1 := frozen_of_row _ _ 3 _ _ hr1
    have f4_hr1 := frozen_of_row _ _ 4 _ _ hr1
    have f5_hr1 := frozen_of_row _ _ 5 _ _ hr1
    simp at r0_hr1 r1_hr1 r2_hr1 r3_hr1 r4_hr1 r5_hr1
    clear hc1 hf1
    go_wp2_with fail
    refine (HFG.out _).mono ?_
    rintro e w2 ⟨rfl, hb2⟩
    obtain ⟨hc2, hf2⟩ := bcell hb2
    have hz2 := hb2.size
    (try simp at hz2)
    have hy2_0 : w.heap.size < w2.heap.size := by omega
    have hy2_1 : w.heap.size + 1 < w2.heap.size := by omega
    have hs2 := (hb2.block (w.heap.size) (by omega)).trans hs1
    have hr2 := (hb2.block (w.heap.size + 1) (by omega)).trans hr1
    have r0_hs2 := cell_of_row _ _ 0 _ _ _ hs2
    have r1_hs2 := cell_of_row _ _ 1 _ _ _ hs2
    have r2_hs2 := cell_of_row _ _ 2 _ _ _ hs2
    have r3_hs2 := cell_of_row _ _ 3 _ _ _ hs2
    have r4_hs2 := cell_of_row _ _ 4 _ _ _ hs2
    have r5_hs2 := cell_of_row _ _ 5 _ _ _ hs2
    have f0_hs2 := frozen_of_row _ _ 0 _ _ hs2
    have f1_hs2 := frozen_of_row _ _ 1 _ _ hs2
    have f2_hs2 := frozen_of_row _ _ 2 _ _ hs2
    have f3_hs2 := frozen_of_row _ _ 3 _ _ hs2
    have f4_hs2 := frozen_of_row _ _ 4 _ _ hs2
    have f5_hs2 := frozen_of_row _ _ 5 _ _ hs2
    simp at r0_hs2 r1_hs2 r2_hs2 r3_hs2 r4_hs2 r5_hs2
    have r0_hr2 := cell_of_row _ _ 0 _ _ _ hr2
    have r1_hr2 := cell_of_row _ _ 1 _ _ _ hr2
    have r2_hr2 := cell_of_row _ _ 2 _ _ _ hr2
    have r3_hr2 := cell_of_row _ _ 3 _ _ _ hr2
    have r4_hr2 := cell_of_row _ _ 4 _ _ _ hr2
    have r5_hr2 := cell_of_row _ _ 5 _ _ _ hr2
    have f0_hr2 := frozen_of_row _ _ 0 _ _ hr2
    have f1_hr2 := frozen_of_row _ _ 1 _ _ hr2
    have f2_hr2 := frozen_of_row _ _ 2 _ _ hr2
    have f3_hr2 := frozen_of_row _ _ 3 _ _ hr2
    have f4_hr2 := frozen_of_row _ _ 4 _ _ hr2
    have f5_hr2 := frozen_of_row _ _ 5 _ _ hr2
    simp at r0_hr2 r1_hr2 r2_hr2 r3_hr2 r4_hr2 r5_hr2
    clear hc2 hf2
    go_wp2_with fail
    refine (l1In_any _ _ _ _).mono ?_
    rw [hin]
    rintro e w' ⟨rfl, rfl⟩
    go_wp2_with fail
    refine (sSeqAdd_any _ _ hu1 hu2 (by omega) (by omega) _).mono ?_
    rintro e w' ⟨rfl, rfl⟩
    go_wp2_with fail
    apply bodyPost_ret (results_row_tmp1 (P := Try.prog) (fn := Try.f32) rfl _ _ _ 26 _ (0, 0) _ rfl _ Try.underlying26 rfl _) rfl
    rotate_left 2
    · repeat (first | (with_reducible apply heap_setCell_same) | (with_reducible apply drew_row) | (with_reducible apply drewN_row) | (with_reducible exact hr2) | (with_reducible refine (heap_setCell_other _ _ _ _ (by first | omega | (simp; done) | (simp; omega))).trans ?_) | (with_reducible refine (Below.heap_alloc _ _ _ (by first | omega | (simp; done) | (simp; omega))).trans ?_))
    · kernel_rfl
    exact ⟨by simp, (by repeat (first | with_reducible exact Below.refl _ _ | with_reducible assumption | with_reducible refine Below.drew ?_ | with_reducible refine Below.alloc ?_ (by first | exact Nat.le_refl _ | omega | (simp; done) | (simp; omega)) _ | with_reducible refine Below.setCell ?_ (by first | exact Nat.le_refl _ | omega | (simp; done) | (simp; omega)) _ | (with_reducible refine ext_trans ?_ (by with_reducible assumption))))⟩

theorem Acked_no1 (u : Int) (d : ByteArray) (s : Int) (f fs dn : Bool) (ack : Int) (hd' : d.size ≤ maxLen) (h : sndB u d s f fs dn = false) (w : World) :
    Calls Try.prog 33 #[.agg #[.int .i64 u, .string d, .int .i64 s, .bool f, .bool fs, .bool dn], .int .i64 ack] w fun e w' => e = .returned (.tuple #[.agg #[.int .i64 u, .string d, .int .i64 s, .bool f, .bool fs, .bool dn], .bool false]) ∧ Below w.heap.size w w' := by
  have HSD := Lib.hid (fun w => SeqDiff_any ack u w)
  go_enter Try.func33, Try.ntmps33
  go_wp2_with fail
  refine (HSD.out _).mono ?_
  rintro e w' ⟨rfl, rfl⟩
  go_wp2_with fail
  refine (SenderOk_any _ _ _ _ _ _ hd' _).mono ?_
  rintro e w1 ⟨rfl, hb1⟩
  obtain ⟨hc1, hf1⟩ := bcell hb1
  have hz1 := hb1.size
  (try simp at hz1)
  have hy1_0 : w.heap.size < w1.heap.size := by omega
  have hy1_1 : w.heap.size + 1 < w1.heap.size := by omega
  have hs1 : w1.heap[w.heap.size]? = some (.cells #[.int .i64 u, .string d, .int .i64 s, .bool f, .bool fs, .bool dn] 26 (0, 0)) := (hb1.block _ (by first | (simp; done) | (simp; omega))).trans (by repeat (first | exact heap_new _ _ _ (by first | rfl | (simp; done) | (simp; omega)) | refine (Below.heap_alloc _ _ _ (by first | omega | (simp; done) | (simp; omega))).trans ?_))
  have hr1 : w1.heap[w.heap.size + 1]? = some (.cells #[.int .i64 0, .string ⟨#[]⟩, .int .i64 0, .bool false, .bool false, .bool false] 26 (0, 0)) := (hb1.block _ (by first | (simp; done) | (simp; omega))).trans (by repeat (first | exact heap_new _ _ _ (by first | rfl | (simp; done) | (simp; omega)) | refine (Below.heap_alloc _ _ _ (by first | omega | (simp; done) | (simp; omega))).trans ?_))
  have r0_hs1 := cell_of_row _ _ 0 _ _ _ hs1
  have r1_hs1 := cell_of_row _ _ 1 _ _ _ hs1
  have r2_hs1 := cell_of_row _ _ 2 _ _ _ hs1
  have r3_hs1 := cell_of_row _ _ 3 _ _ _ hs1
  have r4_hs1 := cell_of_row _ _ 4 _ _ _ hs1
  have r5_hs1 := cell_of_row _ _ 5 _ _ _ hs1
  have f0_hs1 := frozen_of_row _ _ 0 _ _ hs1
  have f1_hs1 := frozen_of_row _ _ 1 _ _ hs1
  have f2_hs1 := frozen_of_row _ _ 2 _ _ hs1
  have f3_hs1 := frozen_of_row _ _ 3 _ _ hs1
  have f4_hs1 := frozen_of_row _ _ 4 _ _ hs1
  have f5_hs1 := frozen_of_row _ _ 5 _ _ hs1
  simp at r0_hs1 r1_hs1 r2_hs1 r3_hs1 r4_hs1 r5_hs1
  have r0_hr1 := cell_of_row _ _ 0 _ _ _ hr1
  have r1_hr1 := cell_of_row _ _ 1 _ _ _ hr1
  have r2_hr1 := cell_of_row _ _ 2 _ _ _ hr1
  have r3_hr1 := cell_of_row _ _ 3 _ _ _ hr1
  have r4_hr1 := cell_of_row _ _ 4 _ _ _ hr1
  have r5_hr1 := cell_of_row _ _ 5 _ _ _ hr1
  have f0_hr1 := frozen_of_row _ _ 0 _ _ hr1
  have f1_hr1 := frozen_of_row _ _ 1 _ _ hr1
  have f2_hr1 := frozen_of_row _ _ 2 _ _ hr1
  have f3_hr1 := frozen_of_row _ _ 3 _ _ hr1
  have f4_hr1 := frozen_of_row _ _ 4 _ _ hr1
  have f5_hr1 := frozen_of_row _ _ 5 _ _ hr1
  simp at r0_hr1 r1_hr1 r2_hr1 r3_hr1 r4_hr1 r5_hr1
  clear hc1 hf1
  go_wp2_with fail
  apply bodyPost_ret (results_row_tmp1 (P := Try.prog) (fn := Try.f33) rfl _ _ _ 26 _ (0, 0) _ rfl _ Try.underlying26 rfl _) rfl
  rotate_left 2
  · repeat (first | (with_reducible apply heap_setCell_same) | (with_reducible apply drew_row) | (with_reducible apply drewN_row) | (with_reducible exact hr1) | (with_reducible refine (heap_setCell_other _ _ _ _ (by first | omega | (simp; done) | (simp; omega))).trans ?_) | (with_reducible refine (Below.heap_alloc _ _ _ (by first | omega | (simp; done) | (simp; omega))).trans ?_))
  · kernel_rfl
  exact ⟨by simp, (by repeat (first | with_reducible exact Below.refl _ _ | with_reducible assumption | with_reducible refine Below.drew ?_ | with_reducible refine Below.alloc ?_ (by first | exact Nat.le_refl _ | omega | (simp; done) | (simp; omega)) _ | with_reducible refine Below.setCell ?_ (by first | exact Nat.le_refl _ | omega | (simp; done) | (simp; omega)) _ | (with_reducible refine ext_trans ?_ (by with_reducible assumption))))⟩
theorem Acked_no2 (u : Int) (d : ByteArray) (s : Int) (f fs dn : Bool) (ack : Int) (hd' : d.size ≤ maxLen) (h : sndB u d s f fs dn = true) (hin : inB (seqDiff ack u) 0 (fly s fs) = false) (w : World) :
    Calls Try.prog 33 #[.agg #[.int .i64 u, .string d, .int .i64 s, .bool f, .bool fs, .bool dn], .int .i64 ack] w fun e w' => e = .returned (.tuple #[.agg #[.int .i64 u, .string d, .int .i64 s, .bool f, .bool fs, .bool dn], .bool false]) ∧ Below w.heap.size w w' := by
  have HSD := Lib.hid (fun w => SeqDiff_any ack u w)
  have HFG := Lib.hid (fun w => flying_any u d s f fs dn w)
  go_enter Try.func33, Try.ntmps33
  go_wp2_with fail
  refine (HSD.out _).mono ?_
  rintro e w' ⟨rfl, rfl⟩
  go_wp2_with fail
  refine (SenderOk_any _ _ _ _ _ _ hd' _).mono ?_
  rintro e w1 ⟨rfl, hb1⟩
  obtain ⟨hc1, hf1⟩ := bcell hb1
  have hz1 := hb1.size
  (try simp at hz1)
  have hy1_0 : w.heap.size < w1.heap.size := by omega
  have hy1_1 : w.heap.size + 1 < w1.heap.size := by omega
  have hs1 : w1.heap[w.heap.size]? = some (.cells #[.int .i64 u, .string d, .int .i64 s, .bool f, .bool fs, .bool dn] 26 (0, 0)) := (hb1.block _ (by first | (simp; done) | (simp; omega))).trans (by repeat (first | exact heap_new _ _ _ (by first | rfl | (simp; done) | (simp; omega)) | refine (Below.heap_alloc _ _ _ (by first | omega | (simp; done) | (simp; omega))).trans ?_))
  have hr1 : w1.heap[w.heap.size + 1]? = some (.cells #[.int .i64 0, .string ⟨#[]⟩, .int .i64 0, .bool false, .bool false, .bool false] 26 (0, 0)) := (hb1.block _ (by first | (simp; done) | (simp; omega))).trans (by repeat (first | exact heap_new _ _ _ (by first | rfl | (simp; done) | (simp; omega)) | refine (Below.heap_alloc _ _ _ (by first | omega | (simp; done) | (simp; omega))).trans ?_))
  have r0_hs1 := cell_of_row _ _ 0 _ _ _ hs1
  have r1_hs1 := cell_of_row _ _ 1 _ _ _ hs1
  have r2_hs1 := cell_of_row _ _ 2 _ _ _ hs1
  have r3_hs1 := cell_of_row _ _ 3 _ _ _ hs1
  have r4_hs1 := cell_of_row _ _ 4 _ _ _ hs1
  have r5_hs1 := cell_of_row _ _ 5 _ _ _ hs1
  have f0_hs1 := frozen_of_row _ _ 0 _ _ hs1
  have f1_hs1 := frozen_of_row _ _ 1 _ _ hs1
  have f2_hs1 := frozen_of_row _ _ 2 _ _ hs1
  have f3_hs1 := frozen_of_row _ _ 3 _ _ hs1
  have f4_hs1 := frozen_of_row _ _ 4 _ _ hs1
  have f5_hs1 := frozen_of_row _ _ 5 _ _ hs1
  simp at r0_hs1 r1_hs1 r2_hs1 r3_hs1 r4_hs1 r5_hs1
  have r0_hr1 := cell_of_row _ _ 0 _ _ _ hr1
  have r1_hr1 := cell_of_row _ _ 1 _ _ _ hr1
  have r2_hr1 := cell_of_row _ _ 2 _ _ _ hr1
  have r3_hr1 := cell_of_row _ _ 3 _ _ _ hr1
  have r4_hr1 := cell_of_row _ _ 4 _ _ _ hr1
  have r5_hr1 := cell_of_row _ _ 5 _ _ _ hr1
  have f0_hr1 := frozen_of_row _ _ 0 _ _ hr1
  have f1_hr1 := frozen_of_row _ _ 1 _ _ hr1
  have f2_hr1 := frozen_of_row _ _ 2 _ _ hr1
  have f3_hr1 := frozen_of_row _ _ 3 _ _ hr1
  have f4_hr1 := frozen_of_row _ _ 4 _ _ hr1
  have f5_hr1 := frozen_of_row _ _ 5 _ _ hr1
  simp at r0_hr1 r1_hr1 r2_hr1 r3_hr1 r4_hr1 r5_hr1
  clear hc1 hf1
  go_wp2_with fail
  refine (HFG.out _).mono ?_
  rintro e w2 ⟨rfl, hb2⟩
  obtain ⟨hc2, hf2⟩ := bcell hb2
  have hz2 := hb2.size
  (try simp at hz2)
  have hy2_0 : w.heap.size < w2.heap.size := by omega
  have hy2_1 : w.heap.size + 1 < w2.heap.size := by omega
  have hs2 := (hb2.block (w.heap.size) (by omega)).trans hs1
  have hr2 := (hb2.block (w.heap.size + 1) (by omega)).trans hr1
  have r0_hs2 := cell_of_row _ _ 0 _ _ _ hs2
  have r1_hs2 := cell_of_row _ _ 1 _ _ _ hs2
  have r2_hs2 := cell_of_row _ _ 2 _ _ _ hs2
  have r3_hs2 := cell_of_row _ _ 3 _ _ _ hs2
  have r4_hs2 := cell_of_row _ _ 4 _ _ _ hs2
  have r5_hs2 := cell_of_row _ _ 5 _ _ _ hs2
  have f0_hs2 := frozen_of_row _ _ 0 _ _ hs2
  have f1_hs2 := frozen_of_row _ _ 1 _ _ hs2
  have f2_hs2 := frozen_of_row _ _ 2 _ _ hs2
  have f3_hs2 := frozen_of_row _ _ 3 _ _ hs2
  have f4_hs2 := frozen_of_row _ _ 4 _ _ hs2
  have f5_hs2 := frozen_of_row _ _ 5 _ _ hs2
  simp at r0_hs2 r1_hs2 r2_hs2 r3_hs2 r4_hs2 r5_hs2
  have r0_hr2 := cell_of_row _ _ 0 _ _ _ hr2
  have r1_hr2 := cell_of_row _ _ 1 _ _ _ hr2
  have r2_hr2 := cell_of_row _ _ 2 _ _ _ hr2
  have r3_hr2 := cell_of_row _ _ 3 _ _ _ hr2
  have r4_hr2 := cell_of_row _ _ 4 _ _ _ hr2
  have r5_hr2 := cell_of_row _ _ 5 _ _ _ hr2
  have f0_hr2 := frozen_of_row _ _ 0 _ _ hr2
  have f1_hr2 := frozen_of_row _ _ 1 _ _ hr2
  have f2_hr2 := frozen_of_row _ _ 2 _ _ hr2
  have f3_hr2 := frozen_of_row _ _ 3 _ _ hr2
  have f4_hr2 := frozen_of_row _ _ 4 _ _ hr2
  have f5_hr2 := frozen_of_row _ _ 5 _ _ hr2
  simp at r0_hr2 r1_hr2 r2_hr2 r3_hr2 r4_hr2 r5_hr2
  clear hc2 hf2
  go_wp2_with fail
  refine (within_any _ _ _ _).mono ?_
  rw [hin]
  rintro e w' ⟨rfl, rfl⟩
  go_wp2_with fail
  apply bodyPost_ret (results_row_tmp1 (P := Try.prog) (fn := Try.f33) rfl _ _ _ 26 _ (0, 0) _ rfl _ Try.underlying26 rfl _) rfl
  rotate_left 2
  · repeat (first | (with_reducible apply heap_setCell_same) | (with_reducible apply drew_row) | (with_reducible apply drewN_row) | (with_reducible exact hr2) | (with_reducible refine (heap_setCell_other _ _ _ _ (by first | omega | (simp; done) | (simp; omega))).trans ?_) | (with_reducible refine (Below.heap_alloc _ _ _ (by first | omega | (simp; done) | (simp; omega))).trans ?_))
  · kernel_rfl
  exact ⟨by simp, (by repeat (first | with_reducible exact Below.refl _ _ | with_reducible assumption | with_reducible refine Below.drew ?_ | with_reducible refine Below.alloc ?_ (by first | exact Nat.le_refl _ | omega | (simp; done) | (simp; omega)) _ | with_reducible refine Below.setCell ?_ (by first | exact Nat.le_refl _ | omega | (simp; done) | (simp; omega)) _ | (with_reducible refine ext_trans ?_ (by with_reducible assumption))))⟩

theorem sAcked_no1 (u : Int) (d : ByteArray) (s : Int) (f fs dn : Bool) (ack : Int) (hd' : d.size ≤ maxLen) (h : sndB u d s f fs dn = false) (ha1 : -9223372036854775808 ≤ ack) (ha2 : ack ≤ 9223372036854775807) (hu1 : -9223372036854775808 ≤ u) (hu2 : u ≤ 9223372036854775807) (w : World) :
    Calls Try.prog 32 #[.agg #[.int .i64 u, .string d, .int .i64 s, .bool f, .bool fs, .bool dn], .int .i64 ack] w fun e w' => e = .returned (.tuple #[.agg #[.int .i64 u, .string d, .int .i64 s, .bool f, .bool fs, .bool dn], .bool false]) ∧ Below w.heap.size w w' := by
  have HSD := Lib.hid (fun w => sSeqDiff_any ack u ha1 ha2 hu1 hu2 w)
  go_enter Try.func32, Try.ntmps32
  go_wp2_with fail
  refine (HSD.out _).mono ?_
  rintro e w' ⟨rfl, rfl⟩
  go_wp2_with fail
  refine (sSenderOk_any _ _ _ _ _ _ hd' _).mono ?_
  rintro e w1 ⟨rfl, hb1⟩
  obtain ⟨hc1, hf1⟩ := bcell hb1
  have hz1 := hb1.size
  (try simp at hz1)
  have hy1_0 : w.heap.size < w1.heap.size := by omega
  have hy1_1 : w.heap.size + 1 < w1.heap.size := by omega
  have hs1 : w1.heap[w.heap.size]? = some (.cells #[.int .i64 u, .string d, .int .i64 s, .bool f, .bool fs, .bool dn] 26 (0, 0)) := (hb1.block _ (by first | (simp; done) | (simp; omega))).trans (by repeat (first | exact heap_new _ _ _ (by first | rfl | (simp; done) | (simp; omega)) | refine (Below.heap_alloc _ _ _ (by first | omega | (simp; done) | (simp; omega))).trans ?_))
  have hr1 : w1.heap[w.heap.size + 1]? = some (.cells #[.int .i64 0, .string ⟨#[]⟩, .int .i64 0, .bool false, .bool false, .bool false] 26 (0, 0)) := (hb1.block _ (by first | (simp; done) | (simp; omega))).trans (by repeat (first | exact heap_new _ _ _ (by first | rfl | (simp; done) | (simp; omega)) | refine (Below.heap_alloc _ _ _ (by first | omega | (simp; done) | (simp; omega))).trans ?_))
  have r0_hs1 := cell_of_row _ _ 0 _ _ _ hs1
  have r1_hs1 := cell_of_row _ _ 1 _ _ _ hs1
  have r2_hs1 := cell_of_row _ _ 2 _ _ _ hs1
  have r3_hs1 := cell_of_row _ _ 3 _ _ _ hs1
  have r4_hs1 := cell_of_row _ _ 4 _ _ _ hs1
  have r5_hs1 := cell_of_row _ _ 5 _ _ _ hs1
  have f0_hs1 := frozen_of_row _ _ 0 _ _ hs1
  have f1_hs1 := frozen_of_row _ _ 1 _ _ hs1
  have f2_hs1 := frozen_of_row _ _ 2 _ _ hs1
  have f3_hs1 := frozen_of_row _ _ 3 _ _ hs1
  have f4_hs1 := frozen_of_row _ _ 4 _ _ hs1
  have f5_hs1 := frozen_of_row _ _ 5 _ _ hs1
  simp at r0_hs1 r1_hs1 r2_hs1 r3_hs1 r4_hs1 r5_hs1
  have r0_hr1 := cell_of_row _ _ 0 _ _ _ hr1
  have r1_hr1 := cell_of_row _ _ 1 _ _ _ hr1
  have r2_hr1 := cell_of_row _ _ 2 _ _ _ hr1
  have r3_hr1 := cell_of_row _ _ 3 _ _ _ hr1
  have r4_hr1 := cell_of_row _ _ 4 _ _ _ hr1
  have r5_hr1 := cell_of_row _ _ 5 _ _ _ hr1
  have f0_hr1 := frozen_of_row _ _ 0 _ _ hr1
  have f1_hr1 := frozen_of_row _ _ 1 _ _ hr1
  have f2_hr1 := frozen_of_row _ _ 2 _ _ hr1
  have f3_hr1 := frozen_of_row _ _ 3 _ _ hr1
  have f4_hr1 := frozen_of_row _ _ 4 _ _ hr1
  have f5_hr1 := frozen_of_row _ _ 5 _ _ hr1
  simp at r0_hr1 r1_hr1 r2_hr1 r3_hr1 r4_hr1 r5_hr1
  clear hc1 hf1
  go_wp2_with fail
  apply bodyPost_ret (results_row_tmp1 (P := Try.prog) (fn := Try.f32) rfl _ _ _ 26 _ (0, 0) _ rfl _ Try.underlying26 rfl _) rfl
  rotate_left 2
  · repeat (first | (with_reducible apply heap_setCell_same) | (with_reducible apply drew_row) | (with_reducible apply drewN_row) | (with_reducible exact hr1) | (with_reducible refine (heap_setCell_other _ _ _ _ (by first | omega | (simp; done) | (simp; omega))).trans ?_) | (with_reducible refine (Below.heap_alloc _ _ _ (by first | omega | (simp; done) | (simp; omega))).trans ?_))
  · kernel_rfl
  exact ⟨by simp, (by repeat (first | with_reducible exact Below.refl _ _ | with_reducible assumption | with_reducible refine Below.drew ?_ | with_reducible refine Below.alloc ?_ (by first | exact Nat.le_refl _ | omega | (simp; done) | (simp; omega)) _ | with_reducible refine Below.setCell ?_ (by first | exact Nat.le_refl _ | omega | (simp; done) | (simp; omega)) _ | (with_reducible refine ext_trans ?_ (by with_reducible assumption))))⟩
theorem sAcked_no2 (u : Int) (d : ByteArray) (s : Int) (f fs dn : Bool) (ack : Int) (hd' : d.size ≤ maxLen) (h : sndB u d s f fs dn = true) (hin : inB (seqDiff ack u) 0 (fly s fs) = false) (ha1 : -9223372036854775808 ≤ ack) (ha2 : ack ≤ 9223372036854775807) (hu1 : -9223372036854775808 ≤ u) (hu2 : u ≤ 9223372036854775807) (w : World) :
    Calls Try.prog 32 #[.agg #[.int .i64 u, .string d, .int .i64 s, .bool f, .bool fs, .bool dn], .int .i64 ack] w fun e w' => e = .returned (.tuple #[.agg #[.int .i64 u, .string d, .int .i64 s, .bool f, .bool fs, .bool dn], .bool false]) ∧ Below w.heap.size w w' := by
  have HSD := Lib.hid (fun w => sSeqDiff_any ack u ha1 ha2 hu1 hu2 w)
  have HFG := Lib.hid (fun w => flown_any u d s f fs dn w)
  go_enter Try.func32, Try.ntmps32
  go_wp2_with fail
  refine (HSD.out _).mono ?_
  rintro e w' ⟨rfl, rfl⟩
  go_wp2_with fail
  refine (sSenderOk_any _ _ _ _ _ _ hd' _).mono ?_
  rintro e w1 ⟨rfl, hb1⟩
  obtain ⟨hc1, hf1⟩ := bcell hb1
  have hz1 := hb1.size
  (try simp at hz1)
  have hy1_0 : w.heap.size < w1.heap.size := by omega
  have hy1_1 : w.heap.size + 1 < w1.heap.size := by omega
  have hs1 : w1.heap[w.heap.size]? = some (.cells #[.int .i64 u, .string d, .int .i64 s, .bool f, .bool fs, .bool dn] 26 (0, 0)) := (hb1.block _ (by first | (simp; done) | (simp; omega))).trans (by repeat (first | exact heap_new _ _ _ (by first | rfl | (simp; done) | (simp; omega)) | refine (Below.heap_alloc _ _ _ (by first | omega | (simp; done) | (simp; omega))).trans ?_))
  have hr1 : w1.heap[w.heap.size + 1]? = some (.cells #[.int .i64 0, .string ⟨#[]⟩, .int .i64 0, .bool false, .bool false, .bool false] 26 (0, 0)) := (hb1.block _ (by first | (simp; done) | (simp; omega))).trans (by repeat (first | exact heap_new _ _ _ (by first | rfl | (simp; done) | (simp; omega)) | refine (Below.heap_alloc _ _ _ (by first | omega | (simp; done) | (simp; omega))).trans ?_))
  have r0_hs1 := cell_of_row _ _ 0 _ _ _ hs1
  have r1_hs1 := cell_of_row _ _ 1 _ _ _ hs1
  have r2_hs1 := cell_of_row _ _ 2 _ _ _ hs1
  have r3_hs1 := cell_of_row _ _ 3 _ _ _ hs1
  have r4_hs1 := cell_of_row _ _ 4 _ _ _ hs1
  have r5_hs1 := cell_of_row _ _ 5 _ _ _ hs1
  have f0_hs1 := frozen_of_row _ _ 0 _ _ hs1
  have f1_hs1 := frozen_of_row _ _ 1 _ _ hs1
  have f2_hs1 := frozen_of_row _ _ 2 _ _ hs1
  have f3_hs1 := frozen_of_row _ _ 3 _ _ hs1
  have f4_hs1 := frozen_of_row _ _ 4 _ _ hs1
  have f5_hs1 := frozen_of_row _ _ 5 _ _ hs1
  simp at r0_hs1 r1_hs1 r2_hs1 r3_hs1 r4_hs1 r5_hs1
  have r0_hr1 := cell_of_row _ _ 0 _ _ _ hr1
  have r1_hr1 := cell_of_row _ _ 1 _ _ _ hr1
  have r2_hr1 := cell_of_row _ _ 2 _ _ _ hr1
  have r3_hr1 := cell_of_row _ _ 3 _ _ _ hr1
  have r4_hr1 := cell_of_row _ _ 4 _ _ _ hr1
  have r5_hr1 := cell_of_row _ _ 5 _ _ _ hr1
  have f0_hr1 := frozen_of_row _ _ 0 _ _ hr1
  have f1_hr1 := frozen_of_row _ _ 1 _ _ hr1
  have f2_hr1 := frozen_of_row _ _ 2 _ _ hr1
  have f3_hr1 := frozen_of_row _ _ 3 _ _ hr1
  have f4_hr1 := frozen_of_row _ _ 4 _ _ hr1
  have f5_hr1 := frozen_of_row _ _ 5 _ _ hr1
  simp at r0_hr1 r1_hr1 r2_hr1 r3_hr1 r4_hr1 r5_hr1
  clear hc1 hf1
  go_wp2_with fail
  refine (HFG.out _).mono ?_
  rintro e w2 ⟨rfl, hb2⟩
  obtain ⟨hc2, hf2⟩ := bcell hb2
  have hz2 := hb2.size
  (try simp at hz2)
  have hy2_0 : w.heap.size < w2.heap.size := by omega
  have hy2_1 : w.heap.size + 1 < w2.heap.size := by omega
  have hs2 := (hb2.block (w.heap.size) (by omega)).trans hs1
  have hr2 := (hb2.block (w.heap.size + 1) (by omega)).trans hr1
  have r0_hs2 := cell_of_row _ _ 0 _ _ _ hs2
  have r1_hs2 := cell_of_row _ _ 1 _ _ _ hs2
  have r2_hs2 := cell_of_row _ _ 2 _ _ _ hs2
  have r3_hs2 := cell_of_row _ _ 3 _ _ _ hs2
  have r4_hs2 := cell_of_row _ _ 4 _ _ _ hs2
  have r5_hs2 := cell_of_row _ _ 5 _ _ _ hs2
  have f0_hs2 := frozen_of_row _ _ 0 _ _ hs2
  have f1_hs2 := frozen_of_row _ _ 1 _ _ hs2
  have f2_hs2 := frozen_of_row _ _ 2 _ _ hs2
  have f3_hs2 := frozen_of_row _ _ 3 _ _ hs2
  have f4_hs2 := frozen_of_row _ _ 4 _ _ hs2
  have f5_hs2 := frozen_of_row _ _ 5 _ _ hs2
  simp at r0_hs2 r1_hs2 r2_hs2 r3_hs2 r4_hs2 r5_hs2
  have r0_hr2 := cell_of_row _ _ 0 _ _ _ hr2
  have r1_hr2 := cell_of_row _ _ 1 _ _ _ hr2
  have r2_hr2 := cell_of_row _ _ 2 _ _ _ hr2
  have r3_hr2 := cell_of_row _ _ 3 _ _ _ hr2
  have r4_hr2 := cell_of_row _ _ 4 _ _ _ hr2
  have r5_hr2 := cell_of_row _ _ 5 _ _ _ hr2
  have f0_hr2 := frozen_of_row _ _ 0 _ _ hr2
  have f1_hr2 := frozen_of_row _ _ 1 _ _ hr2
  have f2_hr2 := frozen_of_row _ _ 2 _ _ hr2
  have f3_hr2 := frozen_of_row _ _ 3 _ _ hr2
  have f4_hr2 := frozen_of_row _ _ 4 _ _ hr2
  have f5_hr2 := frozen_of_row _ _ 5 _ _ hr2
  simp at r0_hr2 r1_hr2 r2_hr2 r3_hr2 r4_hr2 r5_hr2
  clear hc2 hf2
  go_wp2_with fail
  refine (l1In_any _ _ _ _).mono ?_
  rw [hin]
  rintro e w' ⟨rfl, rfl⟩
  go_wp2_with fail
  apply bodyPost_ret (results_row_tmp1 (P := Try.prog) (fn := Try.f32) rfl _ _ _ 26 _ (0, 0) _ rfl _ Try.underlying26 rfl _) rfl
  rotate_left 2
  · repeat (first | (with_reducible apply heap_setCell_same) | (with_reducible apply drew_row) | (with_reducible apply drewN_row) | (with_reducible exact hr2) | (with_reducible refine (heap_setCell_other _ _ _ _ (by first | omega | (simp; done) | (simp; omega))).trans ?_) | (with_reducible refine (Below.heap_alloc _ _ _ (by first | omega | (simp; done) | (simp; omega))).trans ?_))
  · kernel_rfl
  exact ⟨by simp, (by repeat (first | with_reducible exact Below.refl _ _ | with_reducible assumption | with_reducible refine Below.drew ?_ | with_reducible refine Below.alloc ?_ (by first | exact Nat.le_refl _ | omega | (simp; done) | (simp; omega)) _ | with_reducible refine Below.setCell ?_ (by first | exact Nat.le_refl _ | omega | (simp; done) | (simp; omega)) _ | (with_reducible refine ext_trans ?_ (by with_reducible assumption))))⟩

end Go.Proofs.Ytkkpeienbhbgeaa
