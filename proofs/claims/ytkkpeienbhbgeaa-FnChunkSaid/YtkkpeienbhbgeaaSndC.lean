/-
  Contracts of SeqDiff, SentOff, NextChunk, Acked.
-/
import Derived.Test.YtkkpeienbhbgeaaSndQ
namespace Go.Proofs.Ytkkpeienbhbgeaa
open Go.RowKit

def seqDiff (a b : Int) : Int := if 2147483647 < (a - b) % 4294967296 then (a - b) % 4294967296 - 4294967296 else (a - b) % 4294967296
theorem seqDiff_bd (a b : Int) : -2147483648 ≤ seqDiff a b ∧ seqDiff a b ≤ 2147483647 := by
  unfold seqDiff
  split <;> omega

theorem SeqDiff_any (a b : Int) (w : World) :
    Calls Try.prog 37 #[.int .i64 a, .int .i64 b] w fun e w' => e = .returned (.int .i64 (seqDiff a b)) ∧ w = w' := by
  go_enter Try.func37, Try.ntmps37
  go_wp2
  go_ret
  refine ⟨?_, rfl⟩
  have e : wrap64 (wrap32 ((a - b) % 4294967296)) = seqDiff a b := by
    unfold wrap64 wrap32 seqDiff
    split <;> omega
  simp [e]

theorem sSeqDiff_any (a b : Int) (h1 : -9223372036854775808 ≤ a) (h2 : a ≤ 9223372036854775807) (h3 : -9223372036854775808 ≤ b) (h4 : b ≤ 9223372036854775807) (w : World) :
    Calls Try.prog 51 #[.int .i64 a, .int .i64 b] w fun e w' => e = .returned (.int .i64 (seqDiff a b)) ∧ w = w' := by
  obtain ⟨b1, b2⟩ := rest32_bd a
  obtain ⟨b3, b4⟩ := rest32_bd b
  have e : rest32 (rest32 a - rest32 b) = (a - b) % 4294967296 := by unfold rest32; omega
  have e1 : 0 ≤ (a - b) % 4294967296 ∧ (a - b) % 4294967296 ≤ 4294967295 := by omega
  obtain ⟨e2, e3⟩ := e1
  have HE := Lib.hid e
  clear e
  by_cases h : 2147483647 < (a - b) % 4294967296
  · have er : seqDiff a b = (a - b) % 4294967296 - 4294967296 := by unfold seqDiff; rw [if_pos h]
    rw [er]
    clear er
    go_enter Try.func51, Try.ntmps51
    go_wp2_with fail
    refine (l4Rest_any a h1 h2 _).mono ?_
    rintro e w' ⟨rfl, rfl⟩
    go_wp2_with fail
    refine (l4Rest_any b h3 h4 _).mono ?_
    rintro e w' ⟨rfl, rfl⟩
    go_wp2_with fail
    refine (l4Rest_any _ (by omega) (by omega) _).mono ?_
    rintro e w' ⟨rfl, rfl⟩
    rw [HE.out]
    go_wp2_with fail
    go_ret
    exact ⟨rfl, rfl⟩
  · have er : seqDiff a b = (a - b) % 4294967296 := by unfold seqDiff; rw [if_neg h]
    rw [er]
    clear er
    go_enter Try.func51, Try.ntmps51
    go_wp2_with fail
    refine (l4Rest_any a h1 h2 _).mono ?_
    rintro e w' ⟨rfl, rfl⟩
    go_wp2_with fail
    refine (l4Rest_any b h3 h4 _).mono ?_
    rintro e w' ⟨rfl, rfl⟩
    go_wp2_with fail
    refine (l4Rest_any _ (by omega) (by omega) _).mono ?_
    rintro e w' ⟨rfl, rfl⟩
    rw [HE.out]
    go_wp2_with fail
    go_ret
    exact ⟨rfl, rfl⟩

theorem sndB_fin {u : Int} {d : ByteArray} {s : Int} {f dn : Bool} (h : sndB u d s f true dn = true) : f = true ∧ dn = false := by
  cases f <;> cases dn <;> simp [sndB] at h ⊢

theorem SentOff_yes (u : Int) (d : ByteArray) (s : Int) (f fs dn : Bool) (q : Int) (x : ByteArray) (cf : Bool) (hd : d.size ≤ maxLen) (_hx : x.size ≤ maxLen) (h1 : sndB u d s f fs dn = true) (h2 : sndB u d (wrap64 (s + x.size)) f (fs || cf) dn = true) (h3 : (cf && (!f || dn)) = false) (w : World) :
    Calls Try.prog 28 #[.agg #[.int .i64 u, .string d, .int .i64 s, .bool f, .bool fs, .bool dn], .agg #[.int .i64 q, .string x, .bool cf]] w fun e w' => e = .returned (.agg #[.int .i64 u, .string d, .int .i64 (wrap64 (s + x.size)), .bool f, .bool (fs || cf), .bool dn]) ∧ Below w.heap.size w w' := by
  cases cf
  · clear h3
    cases fs
    · simp only [Bool.or_false] at h2 ⊢
      go_enter Try.func28, Try.ntmps28
      go_wp2_with fail
      refine (SenderOk_any _ _ _ _ _ _ hd _).mono ?_
      rintro e w1 ⟨rfl, hb1⟩
      obtain ⟨hc1, hf1⟩ := bcell hb1
      have hz1 := hb1.size
      (try simp at hz1)
      have hy1_0 : w.heap.size < w1.heap.size := by omega
      have hy1_1 : w.heap.size + 1 < w1.heap.size := by omega
      have hy1_2 : w.heap.size + 2 < w1.heap.size := by omega
      have hy1_3 : w.heap.size + 3 < w1.heap.size := by omega
      have hs1 : w1.heap[w.heap.size]? = some (.cells #[.int .i64 u, .string d, .int .i64 s, .bool f, .bool false, .bool dn] 26 (0, 0)) := (hb1.block _ (by first | (simp; done) | (simp; omega))).trans (by repeat (first | exact heap_new _ _ _ (by first | rfl | (simp; done) | (simp; omega)) | refine (Below.heap_alloc _ _ _ (by first | omega | (simp; done) | (simp; omega))).trans ?_))
      have hk1 : w1.heap[w.heap.size + 1]? = some (.cells #[.int .i64 q, .string x, .bool false] 39 (0, 0)) := (hb1.block _ (by first | (simp; done) | (simp; omega))).trans (by repeat (first | exact heap_new _ _ _ (by first | rfl | (simp; done) | (simp; omega)) | refine (Below.heap_alloc _ _ _ (by first | omega | (simp; done) | (simp; omega))).trans ?_))
      have hr1 : w1.heap[w.heap.size + 1 + 1]? = some (.cells #[.int .i64 0, .string ⟨#[]⟩, .int .i64 0, .bool false, .bool false, .bool false] 26 (0, 0)) := (hb1.block _ (by first | (simp; done) | (simp; omega))).trans (by repeat (first | exact heap_new _ _ _ (by first | rfl | (simp; done) | (simp; omega)) | refine (Below.heap_alloc _ _ _ (by first | omega | (simp; done) | (simp; omega))).trans ?_))
      have ho1 : w1.heap[w.heap.size + 1 + 1 + 1]? = some (.cells #[.int .i64 u, .string d, .int .i64 (wrap64 (s + x.size)), .bool f, .bool false, .bool dn] 26 (0, 0)) := (hb1.block _ (by first | (simp; done) | (simp; omega))).trans (by repeat (first | exact heap_new _ _ _ (by first | rfl | (simp; done) | (simp; omega)) | refine (Below.heap_alloc _ _ _ (by first | omega | (simp; done) | (simp; omega))).trans ?_))
      have r0_hs1 := cell_of_row _ _ 0 _ _ _ hs1
      have r1_hs1 := cell_of_row _ _ 1 _ _ _ hs1
      have r2_hs1 := cell_of_row _ _ 2 _ _ _ hs1
      have r3_hs1 := cell_of_row _ _ 3 _ _ _ hs1
      have r4_hs1 := cell_of_row _ _ 4 _ _ _ hs1
      have r5_hs1 := cell_of_row _ _ 5 _ _ _ hs1
      have f0_hs1 := frozen_of_row _ _ 0 _ _ hs1
      have f1_hs1 := frozen_of_row _ _ 1 _ _ hs1
      have f2_hs1 := frozen_of_row _ _ 2 _ _ hs1
      have f3_hs1 := frozen_of_row _ _ 3 _ _ hs1
      have f4_hs1 := frozen_of_row _ _ 4 _ _ hs1
      have f5_hs1 := frozen_of_row _ _ 5 _ _ hs1
      simp at r0_hs1 r1_hs1 r2_hs1 r3_hs1 r4_hs1 r5_hs1
      have r0_hk1 := cell_of_row _ _ 0 _ _ _ hk1
      have r1_hk1 := cell_of_row _ _ 1 _ _ _ hk1
      have r2_hk1 := cell_of_row _ _ 2 _ _ _ hk1
      have f0_hk1 := frozen_of_row _ _ 0 _ _ hk1
      have f1_hk1 := frozen_of_row _ _ 1 _ _ hk1
      have f2_hk1 := frozen_of_row _ _ 2 _ _ hk1
      simp at r0_hk1 r1_hk1 r2_hk1
      have r0_hr1 := cell_of_row _ _ 0 _ _ _ hr1
      have r1_hr1 := cell_of_row _ _ 1 _ _ _ hr1
      have r2_hr1 := cell_of_row _ _ 2 _ _ _ hr1
      have r3_hr1 := cell_of_row _ _ 3 _ _ _ hr1
      have r4_hr1 := cell_of_row _ _ 4 _ _ _ hr1
      have r5_hr1 := cell_of_row _ _ 5 _ _ _ hr1
      have f0_hr1 := frozen_of_row _ _ 0 _ _ hr1
      have f1_hr1 := frozen_of_row _ _ 1 _ _ hr1
      have f2_hr1 := frozen_of_row _ _ 2 _ _ hr1
      have f3_hr1 := frozen_of_row _ _ 3 _ _ hr1
      have f4_hr1 := frozen_of_row _ _ 4 _ _ hr1
      have f5_hr1 := frozen_of_row _ _ 5 _ _ hr1
      simp at r0_hr1 r1_hr1 r2_hr1 r3_hr1 r4_hr1 r5_hr1
      have r0_ho1 := cell_of_row _ _ 0 _ _ _ ho1
      have r1_ho1 := cell_of_row _ _ 1 _ _ _ ho1
      have r2_ho1 := cell_of_row _ _ 2 _ _ _ ho1
      have r3_ho1 := cell_of_row _ _ 3 _ _ _ ho1
      have r4_ho1 := cell_of_row _ _ 4 _ _ _ ho1
      have r5_ho1 := cell_of_row _ _ 5 _ _ _ ho1
      have f0_ho1 := frozen_of_row _ _ 0 _ _ ho1
      have f1_ho1 := frozen_of_row _ _ 1 _ _ ho1
      have f2_ho1 := frozen_of_row _ _ 2 _ _ ho1
      have f3_ho1 := frozen_of_row _ _ 3 _ _ ho1
      have f4_ho1 := frozen_of_row _ _ 4 _ _ ho1
      have f5_ho1 := frozen_of_row _ _ 5 _ _ ho1
      simp at r0_ho1 r1_ho1 r2_ho1 r3_ho1 r4_ho1 r5_ho1
      clear hc1 hf1
      go_wp2_with fail
      refine (SenderOk_any _ _ _ _ _ _ hd _).mono ?_
      rintro e w2 ⟨rfl, hb2⟩
      obtain ⟨hc2, hf2⟩ := bcell hb2
      have hz2 := hb2.size
      (try simp at hz2)
      have hy2_0 : w.heap.size < w2.heap.size := by omega
      have hy2_1 : w.heap.size + 1 < w2.heap.size := by omega
      have hy2_2 : w.heap.size + 2 < w2.heap.size := by omega
      have hy2_3 : w.heap.size + 3 < w2.heap.size := by omega
      have hs2 := (hb2.block (w.heap.size) (by omega)).trans hs1
      have hk2 := (hb2.block (w.heap.size + 1) (by omega)).trans hk1
      have hr2 := (hb2.block (w.heap.size + 1 + 1) (by omega)).trans hr1
      have ho2 := (hb2.block (w.heap.size + 1 + 1 + 1) (by omega)).trans ho1
      have r0_hs2 := cell_of_row _ _ 0 _ _ _ hs2
      have r1_hs2 := cell_of_row _ _ 1 _ _ _ hs2
      have r2_hs2 := cell_of_row _ _ 2 _ _ _ hs2
      have r3_hs2 := cell_of_row _ _ 3 _ _ _ hs2
      have r4_hs2 := cell_of_row _ _ 4 _ _ _ hs2
      have r5_hs2 := cell_of_row _ _ 5 _ _ _ hs2
      have f0_hs2 := frozen_of_row _ _ 0 _ _ hs2
      have f1_hs2 := frozen_of_row _ _ 1 _ _ hs2
      have f2_hs2 := frozen_of_row _ _ 2 _ _ hs2
      have f3_hs2 := frozen_of_row _ _ 3 _ _ hs2
      have f4_hs2 := frozen_of_row _ _ 4 _ _ hs2
      have f5_hs2 := frozen_of_row _ _ 5 _ _ hs2
      simp at r0_hs2 r1_hs2 r2_hs2 r3_hs2 r4_hs2 r5_hs2
      have r0_hk2 := cell_of_row _ _ 0 _ _ _ hk2
      have r1_hk2 := cell_of_row _ _ 1 _ _ _ hk2
      have r2_hk2 := cell_of_row _ _ 2 _ _ _ hk2
      have f0_hk2 := frozen_of_row _ _ 0 _ _ hk2
      have f1_hk2 := frozen_of_row _ _ 1 _ _ hk2
      have f2_hk2 := frozen_of_row _ _ 2 _ _ hk2
      simp at r0_hk2 r1_hk2 r2_hk2
      have r0_hr2 := cell_of_row _ _ 0 _ _ _ hr2
      have r1_hr2 := cell_of_row _ _ 1 _ _ _ hr2
      have r2_hr2 := cell_of_row _ _ 2 _ _ _ hr2
      have r3_hr2 := cell_of_row _ _ 3 _ _ _ hr2
      have r4_hr2 := cell_of_row _ _ 4 _ _ _ hr2
      have r5_hr2 := cell_of_row _ _ 5 _ _ _ hr2
      have f0_hr2 := frozen_of_row _ _ 0 _ _ hr2
      have f1_hr2 := frozen_of_row _ _ 1 _ _ hr2
      have f2_hr2 := frozen_of_row _ _ 2 _ _ hr2
      have f3_hr2 := frozen_of_row _ _ 3 _ _ hr2
      have f4_hr2 := frozen_of_row _ _ 4 _ _ hr2
      have f5_hr2 := frozen_of_row _ _ 5 _ _ hr2
      simp at r0_hr2 r1_hr2 r2_hr2 r3_hr2 r4_hr2 r5_hr2
      have r0_ho2 := cell_of_row _ _ 0 _ _ _ ho2
      have r1_ho2 := cell_of_row _ _ 1 _ _ _ ho2
      have r2_ho2 := cell_of_row _ _ 2 _ _ _ ho2
      have r3_ho2 := cell_of_row _ _ 3 _ _ _ ho2
      have r4_ho2 := cell_of_row _ _ 4 _ _ _ ho2
      have r5_ho2 := cell_of_row _ _ 5 _ _ _ ho2
      have f0_ho2 := frozen_of_row _ _ 0 _ _ ho2
      have f1_ho2 := frozen_of_row _ _ 1 _ _ ho2
      have f2_ho2 := frozen_of_row _ _ 2 _ _ ho2
      have f3_ho2 := frozen_of_row _ _ 3 _ _ ho2
      have f4_ho2 := frozen_of_row _ _ 4 _ _ ho2
      have f5_ho2 := frozen_of_row _ _ 5 _ _ ho2
      simp at r0_ho2 r1_ho2 r2_ho2 r3_ho2 r4_ho2 r5_ho2
      clear hc2 hf2
      go_wp2_with fail
      apply bodyPost_ret (results_cell_row (P := Try.prog) (fn := Try.f28) rfl _ _ _ 26 _ (0, 0) _ rfl _ Try.underlying26 rfl _) rfl
      rotate_left 2
      · repeat (first | (with_reducible apply heap_setCell_same) | (with_reducible apply drew_row) | (with_reducible apply drewN_row) | (with_reducible exact hr2) | (with_reducible refine (heap_setCell_other _ _ _ _ (by first | omega | (simp; done) | (simp; omega))).trans ?_) | (with_reducible refine (Below.heap_alloc _ _ _ (by first | omega | (simp; done) | (simp; omega))).trans ?_))
      · kernel_rfl
      exact ⟨by simp, (by repeat (first | with_reducible exact Below.refl _ _ | with_reducible assumption | with_reducible refine Below.drew ?_ | with_reducible refine Below.alloc ?_ (by first | exact Nat.le_refl _ | omega | (simp; done) | (simp; omega)) _ | with_reducible refine Below.setCell ?_ (by first | exact Nat.le_refl _ | omega | (simp; done) | (simp; omega)) _ | (with_reducible refine ext_trans ?_ (by with_reducible assumption))))⟩
    · simp only [Bool.or_false] at h2 ⊢
      go_enter Try.func28, Try.ntmps28
      go_wp2_with fail
      refine (SenderOk_any _ _ _ _ _ _ hd _).mono ?_
      rintro e w1 ⟨rfl, hb1⟩
      obtain ⟨hc1, hf1⟩ := bcell hb1
      have hz1 := hb1.size
      (try simp at hz1)
      have hy1_0 : w.heap.size < w1.heap.size := by omega
      have hy1_1 : w.heap.size + 1 < w1.heap.size := by omega
      have hy1_2 : w.heap.size + 2 < w1.heap.size := by omega
      have hy1_3 : w.heap.size + 3 < w1.heap.size := by omega
      have hs1 : w1.heap[w.heap.size]? = some (.cells #[.int .i64 u, .string d, .int .i64 s, .bool f, .bool true, .bool dn] 26 (0, 0)) := (hb1.block _ (by first | (simp; done) | (simp; omega))).trans (by repeat (first | exact heap_new _ _ _ (by first | rfl | (simp; done) | (simp; omega)) | refine (Below.heap_alloc _ _ _ (by first | omega | (simp; done) | (simp; omega))).trans ?_))
      have hk1 : w1.heap[w.heap.size + 1]? = some (.cells #[.int .i64 q, .string x, .bool false] 39 (0, 0)) := (hb1.block _ (by first | (simp; done) | (simp; omega))).trans (by repeat (first | exact heap_new _ _ _ (by first | rfl | (simp; done) | (simp; omega)) | refine (Below.heap_alloc _ _ _ (by first | omega | (simp; done) | (simp; omega))).trans ?_))
      have hr1 : w1.heap[w.heap.size + 1 + 1]? = some (.cells #[.int .i64 0, .string ⟨#[]⟩, .int .i64 0, .bool false, .bool false, .bool false] 26 (0, 0)) := (hb1.block _ (by first | (simp; done) | (simp; omega))).trans (by repeat (first | exact heap_new _ _ _ (by first | rfl | (simp; done) | (simp; omega)) | refine (Below.heap_alloc _ _ _ (by first | omega | (simp; done) | (simp; omega))).trans ?_))
      have ho1 : w1.heap[w.heap.size + 1 + 1 + 1]? = some (.cells #[.int .i64 u, .string d, .int .i64 (wrap64 (s + x.size)), .bool f, .bool true, .bool dn] 26 (0, 0)) := (hb1.block _ (by first | (simp; done) | (simp; omega))).trans (by repeat (first | exact heap_new _ _ _ (by first | rfl | (simp; done) | (simp; omega)) | refine (Below.heap_alloc _ _ _ (by first | omega | (simp; done) | (simp; omega))).trans ?_))
      have r0_hs1 := cell_of_row _ _ 0 _ _ _ hs1
      have r1_hs1 := cell_of_row _ _ 1 _ _ _ hs1
      have r2_hs1 := cell_of_row _ _ 2 _ _ _ hs1
      have r3_hs1 := cell_of_row _ _ 3 _ _ _ hs1
      have r4_hs1 := cell_of_row _ _ 4 _ _ _ hs1
      have r5_hs1 := cell_of_row _ _ 5 _ _ _ hs1
      have f0_hs1 := frozen_of_row _ _ 0 _ _ hs1
      have f1_hs1 := frozen_of_row _ _ 1 _ _ hs1
      have f2_hs1 := frozen_of_row _ _ 2 _ _ hs1
      have f3_hs1 := frozen_of_row _ _ 3 _ _ hs1
      have f4_hs1 := frozen_of_row _ _ 4 _ _ hs1
      have f5_hs1 := frozen_of_row _ _ 5 _ _ hs1
      simp at r0_hs1 r1_hs1 r2_hs1 r3_hs1 r4_hs1 r5_hs1
      have r0_hk1 := cell_of_row _ _ 0 _ _ _ hk1
      have r1_hk1 := cell_of_row _ _ 1 _ _ _ hk1
      have r2_hk1 := cell_of_row _ _ 2 _ _ _ hk1
      have f0_hk1 := frozen_of_row _ _ 0 _ _ hk1
      have f1_hk1 := frozen_of_row _ _ 1 _ _ hk1
      have f2_hk1 := frozen_of_row _ _ 2 _ _ hk1
      simp at r0_hk1 r1_hk1 r2_hk1
      have r0_hr1 := cell_of_row _ _ 0 _ _ _ hr1
      have r1_hr1 := cell_of_row _ _ 1 _ _ _ hr1
      have r2_hr1 := cell_of_row _ _ 2 _ _ _ hr1
      have r3_hr1 := cell_of_row _ _ 3 _ _ _ hr1
      have r4_hr1 := cell_of_row _ _ 4 _ _ _ hr1
      have r5_hr1 := cell_of_row _ _ 5 _ _ _ hr1
      have f0_hr1 := frozen_of_row _ _ 0 _ _ hr1
      have f1_hr1 := frozen_of_row _ _ 1 _ _ hr1
      have f2_hr1 := frozen_of_row _ _ 2 _ _ hr1
      have f3_hr1 := frozen_of_row _ _ 3 _ _ hr1
      have f4_hr1 := frozen_of_row _ _ 4 _ _ hr1
      have f5_hr1 := frozen_of_row _ _ 5 _ _ hr1
      simp at r0_hr1 r1_hr1 r2_hr1 r3_hr1 r4_hr1 r5_hr1
      have r0_ho1 := cell_of_row _ _ 0 _ _ _ ho1
      have r1_ho1 := cell_of_row _ _ 1 _ _ _ ho1
      have r2_ho1 := cell_of_row _ _ 2 _ _ _ ho1
      have r3_ho1 := cell_of_row _ _ 3 _ _ _ ho1
      have r4_ho1 := cell_of_row _ _ 4 _ _ _ ho1
      have r5_ho1 := cell_of_row _ _ 5 _ _ _ ho1
      have f0_ho1 := frozen_of_row _ _ 0 _ _ ho1
      have f1_ho1 := frozen_of_row _ _ 1 _ _ ho1
      have f2_ho1 := frozen_of_row _ _ 2 _ _ ho1
      have f3_ho1 := frozen_of_row _ _ 3 _ _ ho1
      have f4_ho1 := frozen_of_row _ _ 4 _ _ ho1
      have f5_ho1 := frozen_of_row _ _ 5 _ _ ho1
      simp at r0_ho1 r1_ho1 r2_ho1 r3_ho1 r4_ho1 r5_ho1
      clear hc1 hf1
      go_wp2_with fail
      refine (SenderOk_any _ _ _ _ _ _ hd _).mono ?_
      rintro e w2 ⟨rfl, hb2⟩
      obtain ⟨hc2, hf2⟩ := bcell hb2
      have hz2 := hb2.size
      (try simp at hz2)
      have hy2_0 : w.heap.size < w2.heap.size := by omega
      have hy2_1 : w.heap.size + 1 < w2.heap.size := by omega
      have hy2_2 : w.heap.size + 2 < w2.heap.size := by omega
      have hy2_3 : w.heap.size + 3 < w2.heap.size := by omega
      have hs2 := (hb2.block (w.heap.size) (by omega)).trans hs1
      have hk2 := (hb2.block (w.heap.size + 1) (by omega)).trans hk1
      have hr2 := (hb2.block (w.heap.size + 1 + 1) (by omega)).trans hr1
      have ho2 := (hb2.block (w.heap.size + 1 + 1 + 1) (by omega)).trans ho1
      have r0_hs2 := cell_of_row _ _ 0 _ _ _ hs2
      have r1_hs2 := cell_of_row _ _ 1 _ _ _ hs2
      have r2_hs2 := cell_of_row _ _ 2 _ _ _ hs2
      have r3_hs2 := cell_of_row _ _ 3 _ _ _ hs2
      have r4_hs2 := cell_of_row _ _ 4 _ _ _ hs2
      have r5_hs2 := cell_of_row _ _ 5 _ _ _ hs2
      have f0_hs2 := frozen_of_row _ _ 0 _ _ hs2
      have f1_hs2 := frozen_of_row _ _ 1 _ _ hs2
      have f2_hs2 := frozen_of_row _ _ 2 _ _ hs2
      have f3_hs2 := frozen_of_row _ _ 3 _ _ hs2
      have f4_hs2 := frozen_of_row _ _ 4 _ _ hs2
      have f5_hs2 := frozen_of_row _ _ 5 _ _ hs2
      simp at r0_hs2 r1_hs2 r2_hs2 r3_hs2 r4_hs2 r5_hs2
      have r0_hk2 := cell_of_row _ _ 0 _ _ _ hk2
      have r1_hk2 := cell_of_row _ _ 1 _ _ _ hk2
      have r2_hk2 := cell_of_row _ _ 2 _ _ _ hk2
      have f0_hk2 := frozen_of_row _ _ 0 _ _ hk2
      have f1_hk2 := frozen_of_row _ _ 1 _ _ hk2
      have f2_hk2 := frozen_of_row _ _ 2 _ _ hk2
      simp at r0_hk2 r1_hk2 r2_hk2
      have r0_hr2 := cell_of_row _ _ 0 _ _ _ hr2
      have r1_hr2 := cell_of_row _ _ 1 _ _ _ hr2
      have r2_hr2 := cell_of_row _ _ 2 _ _ _ hr2
      have r3_hr2 := cell_of_row _ _ 3 _ _ _ hr2
      have r4_hr2 := cell_of_row _ _ 4 _ _ _ hr2
      have r5_hr2 := cell_of_row _ _ 5 _ _ _ hr2
      have f0_hr2 := frozen_of_row _ _ 0 _ _ hr2
      have f1_hr2 := frozen_of_row _ _ 1 _ _ hr2
      have f2_hr2 := frozen_of_row _ _ 2 _ _ hr2
      have f3_hr2 := frozen_of_row _ _ 3 _ _ hr2
      have f4_hr2 := frozen_of_row _ _ 4 _ _ hr2
      have f5_hr2 := frozen_of_row _ _ 5 _ _ hr2
      simp at r0_hr2 r1_hr2 r2_hr2 r3_hr2 r4_hr2 r5_hr2
      have r0_ho2 := cell_of_row _ _ 0 _ _ _ ho2
      have r1_ho2 := cell_of_row _ _ 1 _ _ _ ho2
      have r2_ho2 := cell_of_row _ _ 2 _ _ _ ho2
      have r3_ho2 := cell_of_row _ _ 3 _ _ _ ho2
      have r4_ho2 := cell_of_row _ _ 4 _ _ _ ho2
      have r5_ho2 := cell_of_row _ _ 5 _ _ _ ho2
      have f0_ho2 := frozen_of_row _ _ 0 _ _ ho2
      have f1_ho2 := frozen_of_row _ _ 1 _ _ ho2
      have f2_ho2 := frozen_of_row _ _ 2 _ _ ho2
      have f3_ho2 := frozen_of_row _ _ 3 _ _ ho2
      have f4_ho2 := frozen_of_row _ _ 4 _ _ ho2
      have f5_ho2 := frozen_of_row _ _ 5 _ _ ho2
      simp at r0_ho2 r1_ho2 r2_ho2 r3_ho2 r4_ho2 r5_ho2
      clear hc2 hf2
      go_wp2_with fail
      apply bodyPost_ret (results_cell_row (P := Try.prog) (fn := Try.f28) rfl _ _ _ 26 _ (0, 0) _ rfl _ Try.underlying26 rfl _) rfl
      rotate_left 2
      · repeat (first | (with_reducible apply heap_setCell_same) | (with_reducible apply drew_row) | (with_reducible apply drewN_row) | (with_reducible exact hr2) | (with_reducible refine (heap_setCell_other _ _ _ _ (by first | omega | (simp; done) | (simp; omega))).trans ?_) | (with_reducible refine (Below.heap_alloc _ _ _ (by first | omega | (simp; done) | (simp; omega))).trans ?_))
      · kernel_rfl
      exact ⟨by simp, (by repeat (first | with_reducible exact Below.refl _ _ | with_reducible assumption | with_reducible refine Below.drew ?_ | with_reducible refine Below.alloc ?_ (by first | exact Nat.le_refl _ | omega | (simp; done) | (simp; omega)) _ | with_reducible refine Below.setCell ?_ (by first | exact Nat.le_refl _ | omega | (simp; done) | (simp; omega)) _ | (with_reducible refine ext_trans ?_ (by with_reducible assumption))))⟩
  · simp only [Bool.true_and, Bool.or_eq_false_iff, Bool.not_eq_false'] at h3
    obtain ⟨rfl, rfl⟩ := h3
    cases fs
    · simp only [Bool.or_true] at h2 ⊢
      go_enter Try.func28, Try.ntmps28
      go_wp2_with fail
      refine (SenderOk_any _ _ _ _ _ _ hd _).mono ?_
      rintro e w1 ⟨rfl, hb1⟩
      obtain ⟨hc1, hf1⟩ := bcell hb1
      have hz1 := hb1.size
      (try simp at hz1)
      have hy1_0 : w.heap.size < w1.heap.size := by omega
      have hy1_1 : w.heap.size + 1 < w1.heap.size := by omega
      have hy1_2 : w.heap.size + 2 < w1.heap.size := by omega
      have hy1_3 : w.heap.size + 3 < w1.heap.size := by omega
      have hs1 : w1.heap[w.heap.size]? = some (.cells #[.int .i64 u, .string d, .int .i64 s, .bool true, .bool false, .bool false] 26 (0, 0)) := (hb1.block _ (by first | (simp; done) | (simp; omega))).trans (by repeat (first | exact heap_new _ _ _ (by first | rfl | (simp; done) | (simp; omega)) | refine (Below.heap_alloc _ _ _ (by first | omega | (simp; done) | (simp; omega))).trans ?_))
      have hk1 : w1.heap[w.heap.size + 1]? = some (.cells #[.int .i64 q, .string x, .bool true] 39 (0, 0)) := (hb1.block _ (by first | (simp; done) | (simp; omega))).trans (by repeat (first | exact heap_new _ _ _ (by first | rfl | (simp; done) | (simp; omega)) | refine (Below.heap_alloc _ _ _ (by first | omega | (simp; done) | (simp; omega))).trans ?_))
      have hr1 : w1.heap[w.heap.size + 1 + 1]? = some (.cells #[.int .i64 0, .string ⟨#[]⟩, .int .i64 0, .bool false, .bool false, .bool false] 26 (0, 0)) := (hb1.block _ (by first | (simp; done) | (simp; omega))).trans (by repeat (first | exact heap_new _ _ _ (by first | rfl | (simp; done) | (simp; omega)) | refine (Below.heap_alloc _ _ _ (by first | omega | (simp; done) | (simp; omega))).trans ?_))
      have ho1 : w1.heap[w.heap.size + 1 + 1 + 1]? = some (.cells #[.int .i64 u, .string d, .int .i64 (wrap64 (s + x.size)), .bool true, .bool true, .bool false] 26 (0, 0)) := (hb1.block _ (by first | (simp; done) | (simp; omega))).trans (by repeat (first | exact heap_new _ _ _ (by first | rfl | (simp; done) | (simp; omega)) | refine (Below.heap_alloc _ _ _ (by first | omega | (simp; done) | (simp; omega))).trans ?_))
      have r0_hs1 := cell_of_row _ _ 0 _ _ _ hs1
      have r1_hs1 := cell_of_row _ _ 1 _ _ _ hs1
      have r2_hs1 := cell_of_row _ _ 2 _ _ _ hs1
      have r3_hs1 := cell_of_row _ _ 3 _ _ _ hs1
      have r4_hs1 := cell_of_row _ _ 4 _ _ _ hs1
      have r5_hs1 := cell_of_row _ _ 5 _ _ _ hs1
      have f0_hs1 := frozen_of_row _ _ 0 _ _ hs1
      have f1_hs1 := frozen_of_row _ _ 1 _ _ hs1
      have f2_hs1 := frozen_of_row _ _ 2 _ _ hs1
      have f3_hs1 := frozen_of_row _ _ 3 _ _ hs1
      have f4_hs1 := frozen_of_row _ _ 4 _ _ hs1
      have f5_hs1 := frozen_of_row _ _ 5 _ _ hs1
      simp at r0_hs1 r1_hs1 r2_hs1 r3_hs1 r4_hs1 r5_hs1
      have r0_hk1 := cell_of_row _ _ 0 _ _ _ hk1
      have r1_hk1 := cell_of_row _ _ 1 _ _ _ hk1
      have r2_hk1 := cell_of_row _ _ 2 _ _ _ hk1
      have f0_hk1 := frozen_of_row _ _ 0 _ _ hk1
      have f1_hk1 := frozen_of_row _ _ 1 _ _ hk1
      have f2_hk1 := frozen_of_row _ _ 2 _ _ hk1
      simp at r0_hk1 r1_hk1 r2_hk1
      have r0_hr1 := cell_of_row _ _ 0 _ _ _ hr1
      have r1_hr1 := cell_of_row _ _ 1 _ _ _ hr1
      have r2_hr1 := cell_of_row _ _ 2 _ _ _ hr1
      have r3_hr1 := cell_of_row _ _ 3 _ _ _ hr1
      have r4_hr1 := cell_of_row _ _ 4 _ _ _ hr1
      have r5_hr1 := cell_of_row _ _ 5 _ _ _ hr1
      have f0_hr1 := frozen_of_row _ _ 0 _ _ hr1
      have f1_hr1 := frozen_of_row _ _ 1 _ _ hr1
      have f2_hr1 := frozen_of_row _ _ 2 _ _ hr1
      have f3_hr1 := frozen_of_row _ _ 3 _ _ hr1
      have f4_hr1 := frozen_of_row _ _ 4 _ _ hr1
      have f5_hr1 := frozen_of_row _ _ 5 _ _ hr1
      simp at r0_hr1 r1_hr1 r2_hr1 r3_hr1 r4_hr1 r5_hr1
      have r0_ho1 := cell_of_row _ _ 0 _ _ _ ho1
      have r1_ho1 := cell_of_row _ _ 1 _ _ _ ho1
      have r2_ho1 := cell_of_row _ _ 2 _ _ _ ho1
      have r3_ho1 := cell_of_row _ _ 3 _ _ _ ho1
      have r4_ho1 := cell_of_row _ _ 4 _ _ _ ho1
      have r5_ho1 := cell_of_row _ _ 5 _ _ _ ho1
      have f0_ho1 := frozen_of_row _ _ 0 _ _ ho1
      have f1_ho1 := frozen_of_row _ _ 1 _ _ ho1
      have f2_ho1 := frozen_of_row _ _ 2 _ _ ho1
      have f3_ho1 := frozen_of_row _ _ 3 _ _ ho1
      have f4_ho1 := frozen_of_row _ _ 4 _ _ ho1
      have f5_ho1 := frozen_of_row _ _ 5 _ _ ho1
      simp at r0_ho1 r1_ho1 r2_ho1 r3_ho1 r4_ho1 r5_ho1
      clear hc1 hf1
      go_wp2_with fail
      refine (SenderOk_any _ _ _ _ _ _ hd _).mono ?_
      rintro e w2 ⟨rfl, hb2⟩
      obtain ⟨hc2, hf2⟩ := bcell hb2
      have hz2 := hb2.size
      (try simp at hz2)
      have hy2_0 : w.heap.size < w2.heap.size := by omega
      have hy2_1 : w.heap.size + 1 < w2.heap.size := by omega
      have hy2_2 : w.heap.size + 2 < w2.heap.size := by omega
      have hy2_3 : w.heap.size + 3 < w2.heap.size := by omega
      have hs2 := (hb2.block (w.heap.size) (by omega)).trans hs1
      have hk2 := (hb2.block (w.heap.size + 1) (by omega)).trans hk1
      have hr2 := (hb2.block (w.heap.size + 1 + 1) (by omega)).trans hr1
      have ho2 := (hb2.block (w.heap.size + 1 + 1 + 1) (by omega)).trans ho1
      have r0_hs2 := cell_of_row _ _ 0 _ _ _ hs2
      have r1_hs2 := cell_of_row _ _ 1 _ _ _ hs2
      have r2_hs2 := cell_of_row _ _ 2 _ _ _ hs2
      have r3_hs2 := cell_of_row _ _ 3 _ _ _ hs2
      have r4_hs2 := cell_of_row _ _ 4 _ _ _ hs2
      have r5_hs2 := cell_of_row _ _ 5 _ _ _ hs2
      have f0_hs2 := frozen_of_row _ _ 0 _ _ hs2
      have f1_hs2 := frozen_of_row _ _ 1 _ _ hs2
      have f2_hs2 := frozen_of_row _ _ 2 _ _ hs2
      have f3_hs2 := frozen_of_row _ _ 3 _ _ hs2
      have f4_hs2 := frozen_of_row _ _ 4 _ _ hs2
      have f5_hs2 := frozen_of_row _ _ 5 _ _ hs2
      simp at r0_hs2 r1_hs2 r2_hs2 r3_hs2 r4_hs2 r5_hs2
      have r0_hk2 := cell_of_row _ _ 0 _ _ _ hk2
      have r1_hk2 := cell_of_row _ _ 1 _ _ _ hk2
      have r2_hk2 := cell_of_row _ _ 2 _ _ _ hk2
      have f0_hk2 := frozen_of_row _ _ 0 _ _ hk2
      have f1_hk2 := frozen_of_row _ _ 1 _ _ hk2
      have f2_hk2 := frozen_of_row _ _ 2 _ _ hk2
      simp at r0_hk2 r1_hk2 r2_hk2
      have r0_hr2 := cell_of_row _ _ 0 _ _ _ hr2
      have r1_hr2 := cell_of_row _ _ 1 _ _ _ hr2
      have r2_hr2 := cell_of_row _ _ 2 _ _ _ hr2
      have r3_hr2 := cell_of_row _ _ 3 _ _ _ hr2
      have r4_hr2 := cell_of_row _ _ 4 _ _ _ hr2
      have r5_hr2 := cell_of_row _ _ 5 _ _ _ hr2
      have f0_hr2 := frozen_of_row _ _ 0 _ _ hr2
      have f1_hr2 := frozen_of_row _ _ 1 _ _ hr2
      have f2_hr2 := frozen_of_row _ _ 2 _ _ hr2
      have f3_hr2 := frozen_of_row _ _ 3 _ _ hr2
      have f4_hr2 := frozen_of_row _ _ 4 _ _ hr2
      have f5_hr2 := frozen_of_row _ _ 5 _ _ hr2
      simp at r0_hr2 r1_hr2 r2_hr2 r3_hr2 r4_hr2 r5_hr2
      have r0_ho2 := cell_of_row _ _ 0 _ _ _ ho2
      have r1_ho2 := cell_of_row _ _ 1 _ _ _ ho2
      have r2_ho2 := cell_of_row _ _ 2 _ _ _ ho2
      have r3_ho2 := cell_of_row _ _ 3 _ _ _ ho2
      have r4_ho2 := cell_of_row _ _ 4 _ _ _ ho2
      have r5_ho2 := cell_of_row _ _ 5 _ _ _ ho2
      have f0_ho2 := frozen_of_row _ _ 0 _ _ ho2
      have f1_ho2 := frozen_of_row _ _ 1 _ _ ho2
      have f2_ho2 := frozen_of_row _ _ 2 _ _ ho2
      have f3_ho2 := frozen_of_row _ _ 3 _ _ ho2
      have f4_ho2 := frozen_of_row _ _ 4 _ _ ho2
      have f5_ho2 := frozen_of_row _ _ 5 _ _ ho2
      simp at r0_ho2 r1_ho2 r2_ho2 r3_ho2 r4_ho2 r5_ho2
      clear hc2 hf2
      go_wp2_with fail
      apply bodyPost_ret (results_cell_row (P := Try.prog) (fn := Try.f28) rfl _ _ _ 26 _ (0, 0) _ rfl _ Try.underlying26 rfl _) rfl
      rotate_left 2
      · repeat (first | (with_reducible apply heap_setCell_same) | (with_reducible apply drew_row) | (with_reducible apply drewN_row) | (with_reducible exact hr2) | (with_reducible refine (heap_setCell_other _ _ _ _ (by first | omega | (simp; done) | (simp; omega))).trans ?_) | (with_reducible refine (Below.heap_alloc _ _ _ (by first | omega | (simp; done) | (simp; omega))).trans ?_))
      · kernel_rfl
      exact ⟨by simp, (by repeat (first | with_reducible exact Below.refl _ _ | with_reducible assumption | with_reducible refine Below.drew ?_ | with_reducible refine Below.alloc ?_ (by first | exact Nat.le_refl _ | omega | (simp; done) | (simp; omega)) _ | with_reducible refine Below.setCell ?_ (by first | exact Nat.le_refl _ | omega | (simp; done) | (simp; omega)) _ | (with_reducible refine ext_trans ?_ (by with_reducible assumption))))⟩
    · simp only [Bool.or_true] at h2 ⊢
      go_enter Try.func28, Try.ntmps28
      go_wp2_with fail
      refine (SenderOk_any _ _ _ _ _ _ hd _).mono ?_
      rintro e w1 ⟨rfl, hb1⟩
      obtain ⟨hc1, hf1⟩ := bcell hb1
      have hz1 := hb1.size
      (try simp at hz1)
      have hy1_0 : w.heap.size < w1.heap.size := by omega
      have hy1_1 : w.heap.size + 1 < w1.heap.size := by omega
      have hy1_2 : w.heap.size + 2 < w1.heap.size := by omega
      have hy1_3 : w.heap.size + 3 < w1.heap.size := by omega
      have hs1 : w1.heap[w.heap.size]? = some (.cells #[.int .i64 u, .string d, .int .i64 s, .bool true, .bool true, .bool false] 26 (0, 0)) := (hb1.block _ (by first | (simp; done) | (simp; omega))).trans (by repeat (first | exact heap_new _ _ _ (by first | rfl | (simp; done) | (simp; omega)) | refine (Below.heap_alloc _ _ _ (by first | omega | (simp; done) | (simp; omega))).trans ?_))
      have hk1 : w1.heap[w.heap.size + 1]? = some (.cells #[.int .i64 q, .string x, .bool true] 39 (0, 0)) := (hb1.block _ (by first | (simp; done) | (simp; omega))).trans (by repeat (first | exact heap_new _ _ _ (by first | rfl | (simp; done) | (simp; omega)) | refine (Below.heap_alloc _ _ _ (by first | omega | (simp; done) | (simp; omega))).trans ?_))
      have hr1 : w1.heap[w.heap.size + 1 + 1]? = some (.cells #[.int .i64 0, .string ⟨#[]⟩, .int .i64 0, .bool false, .bool false, .bool false] 26 (0, 0)) := (hb1.block _ (by first | (simp; done) | (simp; omega))).trans (by repeat (first | exact heap_new _ _ _ (by first | rfl | (simp; done) | (simp; omega)) | refine (Below.heap_alloc _ _ _ (by first | omega | (simp; done) | (simp; omega))).trans ?_))
      have ho1 : w1.heap[w.heap.size + 1 + 1 + 1]? = some (.cells #[.int .i64 u, .string d, .int .i64 (wrap64 (s + x.size)), .bool true, .bool true, .bool false] 26 (0, 0)) := (hb1.block _ (by first | (simp; done) | (simp; omega))).trans (by repeat (first | exact heap_new _ _ _ (by first | rfl | (simp; done) | (simp; omega)) | refine (Below.heap_alloc _ _ _ (by first | omega | (simp; done) | (simp; omega))).trans ?_))
      have r0_hs1 := cell_of_row _ _ 0 _ _ _ hs1
      have r1_hs1 := cell_of_row _ _ 1 _ _ _ hs1
      have r2_hs1 := cell_of_row _ _ 2 _ _ _ hs1
      have r3_hs1 := cell_of_row _ _ 3 _ _ _ hs1
      have r4_hs1 := cell_of_row _ _ 4 _ _ _ hs1
      have r5_hs1 := cell_of_row _ _ 5 _ _ _ hs1
      have f0_hs1 := frozen_of_row _ _ 0 _ _ hs1
      have f1_hs1 := frozen_of_row _ _ 1 _ _ hs1
      have f2_hs1 := frozen_of_row _ _ 2 _ _ hs1
      have f3_hs1 := frozen_of_row _ _ 3 _ _ hs1
      have f4_hs1 := frozen_of_row _ _ 4 _ _ hs1
      have f5_hs1 := frozen_of_row _ _ 5 _ _ hs1
      simp at r0_hs1 r1_hs1 r2_hs1 r3_hs1 r4_hs1 r5_hs1
      have r0_hk1 := cell_of_row _ _ 0 _ _ _ hk1
      have r1_hk1 := cell_of_row _ _ 1 _ _ _ hk1
      have r2_hk1 := cell_of_row _ _ 2 _ _ _ hk1
      have f0_hk1 := frozen_of_row _ _ 0 _ _ hk1
      have f1_hk1 := frozen_of_row _ _ 1 _ _ hk1
      have f2_hk1 := frozen_of_row _ _ 2 _ _ hk1
      simp at r0_hk1 r1_hk1 r2_hk1
      have r0_hr1 := cell_of_row _ _ 0 _ _ _ hr1
      have r1_hr1 := cell_of_row _ _ 1 _ _ _ hr1
      have r2_hr1 := cell_of_row _ _ 2 _ _ _ hr1
      have r3_hr1 := cell_of_row _ _ 3 _ _ _ hr1
      have r4_hr1 := cell_of_row _ _ 4 _ _ _ hr1
      have r5_hr1 := cell_of_row _ _ 5 _ _ _ hr1
      have f0_hr1 := frozen_of_row _ _ 0 _ _ hr1
      have f1_hr1 := frozen_of_row _ _ 1 _ _ hr1
      have f2_hr1 := frozen_of_row _ _ 2 _ _ hr1
      have f3_hr1 := frozen_of_row _ _ 3 _ _ hr1
      have f4_hr1 := frozen_of_row _ _ 4 _ _ hr1
      have f5_hr1 := frozen_of_row _ _ 5 _ _ hr1
      simp at r0_hr1 r1_hr1 r2_hr1 r3_hr1 r4_hr1 r5_hr1
      have r0_ho1 := cell_of_row _ _ 0 _ _ _ ho1
      have r1_ho1 := cell_of_row _ _ 1 _ _ _ ho1
      have r2_ho1 := cell_of_row _ _ 2 _ _ _ ho1
      have r3_ho1 := cell_of_row _ _ 3 _ _ _ ho1
      have r4_ho1 := cell_of_row _ _ 4 _ _ _ ho1
      have r5_ho1 := cell_of_row _ _ 5 _ _ _ ho1
      have f0_ho1 := frozen_of_row _ _ 0 _ _ ho1
      have f1_ho1 := frozen_of_row _ _ 1 _ _ ho1
      have f2_ho1 := frozen_of_row _ _ 2 _ _ ho1
      have f3_ho1 := frozen_of_row _ _ 3 _ _ ho1
      have f4_ho1 := frozen_of_row _ _ 4 _ _ ho1
      have f5_ho1 := frozen_of_row _ _ 5 _ _ ho1
      simp at r0_ho1 r1_ho1 r2_ho1 r3_ho1 r4_ho1 r5_ho1
      clear hc1 hf1
      go_wp2_with fail
      refine (SenderOk_any _ _ _ _ _ _ hd _).mono ?_
      rintro e w2 ⟨rfl, hb2⟩
      obtain ⟨hc2, hf2⟩ := bcell hb2
      have hz2 := hb2.size
      (try simp at hz2)
      have hy2_0 : w.heap.size < w2.heap.size := by omega
      have hy2_1 : w.heap.size + 1 < w2.heap.size := by omega
      have hy2_2 : w.heap.size + 2 < w2.heap.size := by omega
      have hy2_3 : w.heap.size + 3 < w2.heap.size := by omega
      have hs2 := (hb2.block (w.heap.size) (by omega)).trans hs1
      have hk2 := (hb2.block (w.heap.size + 1) (by omega)).trans hk1
      have hr2 := (hb2.block (w.heap.size + 1 + 1) (by omega)).trans hr1
      have ho2 := (hb2.block (w.heap.size + 1 + 1 + 1) (by omega)).trans ho1
      have r0_hs2 := cell_of_row _ _ 0 _ _ _ hs2
      have r1_hs2 := cell_of_row _ _ 1 _ _ _ hs2
      have r2_hs2 := cell_of_row _ _ 2 _ _ _ hs2
      have r3_hs2 := cell_of_row _ _ 3 _ _ _ hs2
      have r4_hs2 := cell_of_row _ _ 4 _ _ _ hs2
      have r5_hs2 := cell_of_row _ _ 5 _ _ _ hs2
      have f0_hs2 := frozen_of_row _ _ 0 _ _ hs2
      have f1_hs2 := frozen_of_row _ _ 1 _ _ hs2
      have f2_hs2 := frozen_of_row _ _ 2 _ _ hs2
      have f3_hs2 := frozen_of_row _ _ 3 _ _ hs2
      have f4_hs2 := frozen_of_row _ _ 4 _ _ hs2
      have f5_hs2 := frozen_of_row _ _ 5 _ _ hs2
      simp at r0_hs2 r1_hs2 r2_hs2 r3_hs2 r4_hs2 r5_hs2
      have r0_hk2 := cell_of_row _ _ 0 _ _ _ hk2
      have r1_hk2 := cell_of_row _ _ 1 _ _ _ hk2
      have r2_hk2 := cell_of_row _ _ 2 _ _ _ hk2
      have f0_hk2 := frozen_of_row _ _ 0 _ _ hk2
      have f1_hk2 := frozen_of_row _ _ 1 _ _ hk2
      have f2_hk2 := frozen_of_row _ _ 2 _ _ hk2
      simp at r0_hk2 r1_hk2 r2_hk2
      have r0_hr2 := cell_of_row _ _ 0 _ _ _ hr2
      have r1_hr2 := cell_of_row _ _ 1 _ _ _ hr2
      have r2_hr2 := cell_of_row _ _ 2 _ _ _ hr2
      have r3_hr2 := cell_of_row _ _ 3 _ _ _ hr2
      have r4_hr2 := cell_of_row _ _ 4 _ _ _ hr2
      have r5_hr2 := cell_of_row _ _ 5 _ _ _ hr2
      have f0_hr2 := frozen_of_row _ _ 0 _ _ hr2
      have f1_hr2 := frozen_of_row _ _ 1 _ _ hr2
      have f2_hr2 := frozen_of_row _ _ 2 _ _ hr2
      have f3_hr2 := frozen_of_row _ _ 3 _ _ hr2
      have f4_hr2 := frozen_of_row _ _ 4 _ _ hr2
      have f5_hr2 := frozen_of_row _ _ 5 _ _ hr2
      simp at r0_hr2 r1_hr2 r2_hr2 r3_hr2 r4_hr2 r5_hr2
      have r0_ho2 := cell_of_row _ _ 0 _ _ _ ho2
      have r1_ho2 := cell_of_row _ _ 1 _ _ _ ho2
      have r2_ho2 := cell_of_row _ _ 2 _ _ _ ho2
      have r3_ho2 := cell_of_row _ _ 3 _ _ _ ho2
      have r4_ho2 := cell_of_row _ _ 4 _ _ _ ho2
      have r5_ho2 := cell_of_row _ _ 5 _ _ _ ho2
      have f0_ho2 := frozen_of_row _ _ 0 _ _ ho2
      have f1_ho2 := frozen_of_row _ _ 1 _ _ ho2
      have f2_ho2 := frozen_of_row _ _ 2 _ _ ho2
      have f3_ho2 := frozen_of_row _ _ 3 _ _ ho2
      have f4_ho2 := frozen_of_row _ _ 4 _ _ ho2
      have f5_ho2 := frozen_of_row _ _ 5 _ _ ho2
      simp at r0_ho2 r1_ho2 r2_ho2 r3_ho2 r4_ho2 r5_ho2
      clear hc2 hf2
      go_wp2_with fail
      apply bodyPost_ret (results_cell_row (P := Try.prog) (fn := Try.f28) rfl _ _ _ 26 _ (0, 0) _ rfl _ Try.underlying26 rfl _) rfl
      rotate_left 2
      · repeat (first | (with_reducible apply heap_setCell_same) | (with_reducible apply drew_row) | (with_reducible apply drewN_row) | (with_reducible exact hr2) | (with_reducible refine (heap_setCell_other _ _ _ _ (by first | omega | (simp; done) | (simp; omega))).trans ?_) | (with_reducible refine (Below.heap_alloc _ _ _ (by first | omega | (simp; done) | (simp; omega))).trans ?_))
      · kernel_rfl
      exact ⟨by simp, (by repeat (first | with_reducible exact Below.refl _ _ | with_reducible assumption | with_reducible refine Below.drew ?_ | with_reducible refine Below.alloc ?_ (by first | exact Nat.le_refl _ | omega | (simp; done) | (simp; omega)) _ | with_reducible refine Below.setCell ?_ (by first | exact Nat.le_refl _ | omega | (simp; done) | (simp; omega)) _ | (with_reducible refine ext_trans ?_ (by with_reducible assumption))))⟩

theorem SentOff_no1 (u : Int) (d : ByteArray) (s : Int) (f fs dn : Bool) (q : Int) (x : ByteArray) (cf : Bool) (hd : d.size ≤ maxLen) (_hx : x.size ≤ maxLen) (h1 : sndB u d s f fs dn = false) (w : World) :
    Calls Try.prog 28 #[.agg #[.int .i64 u, .string d, .int .i64 s, .bool f, .bool fs, .bool dn], .agg #[.int .i64 q, .string x, .bool cf]] w fun e w' => e = .returned (.agg #[.int .i64 u, .string d, .int .i64 s, .bool f, .bool fs, .bool dn]) ∧ Below w.heap.size w w' := by
  cases fs
  · cases cf
    · go_enter Try.func28, Try.ntmps28
      go_wp2_with fail
      refine (SenderOk_any _ _ _ _ _ _ hd _).mono ?_
      rintro e w1 ⟨rfl, hb1⟩
      obtain ⟨hc1, hf1⟩ := bcell hb1
      have hz1 := hb1.size
      (try simp at hz1)
      have hy1_0 : w.heap.size < w1.heap.size := by omega
      have hy1_1 : w.heap.size + 1 < w1.heap.size := by omega
      have hy1_2 : w.heap.size + 2 < w1.heap.size := by omega
      have hy1_3 : w.heap.size + 3 < w1.heap.size := by omega
      have hs1 : w1.heap[w.heap.size]? = some (.cells #[.int .i64 u, .string d, .int .i64 s, .bool f, .bool false, .bool dn] 26 (0, 0)) := (hb1.block _ (by first | (simp; done) | (simp; omega))).trans (by repeat (first | exact heap_new _ _ _ (by first | rfl | (simp; done) | (simp; omega)) | refine (Below.heap_alloc _ _ _ (by first | omega | (simp; done) | (simp; omega))).trans ?_))
      have hk1 : w1.heap[w.heap.size + 1]? = some (.cells #[.int .i64 q, .string x, .bool false] 39 (0, 0)) := (hb1.block _ (by first | (simp; done) | (simp; omega))).trans (by repeat (first | exact heap_new _ _ _ (by first | rfl | (simp; done) | (simp; omega)) | refine (Below.heap_alloc _ _ _ (by first | omega | (simp; done) | (simp; omega))).trans ?_))
      have hr1 : w1.heap[w.heap.size + 1 + 1]? = some (.cells #[.int .i64 0, .string ⟨#[]⟩, .int .i64 0, .bool false, .bool false, .bool false] 26 (0, 0)) := (hb1.block _ (by first | (simp; done) | (simp; omega))).trans (by repeat (first | exact heap_new _ _ _ (by first | rfl | (simp; done) | (simp; omega)) | refine (Below.heap_alloc _ _ _ (by first | omega | (simp; done) | (simp; omega))).trans ?_))
      have ho1 : w1.heap[w.heap.size + 1 + 1 + 1]? = some (.cells #[.int .i64 u, .string d, .int .i64 (wrap64 (s + x.size)), .bool f, .bool false, .bool dn] 26 (0, 0)) := (hb1.block _ (by first | (simp; done) | (simp; omega))).trans (by repeat (first | exact heap_new _ _ _ (by first | rfl | (simp; done) | (simp; omega)) | refine (Below.heap_alloc _ _ _ (by first | omega | (simp; done) | (simp; omega))).trans ?_))
      have r0_hs1 := cell_of_row _ _ 0 _ _ _ hs1
      have r1_hs1 := cell_of_row _ _ 1 _ _ _ hs1
      have r2_hs1 := cell_of_row _ _ 2 _ _ _ hs1
      have r3_hs1 := cell_of_row _ _ 3 _ _ _ hs1
      have r4_hs1 := cell_of_row _ _ 4 _ _ _ hs1
      have r5_hs1 := cell_of_row _ _ 5 _ _ _ hs1
      have f0_hs1 := frozen_of_row _ _ 0 _ _ hs1
      have f1_hs1 := frozen_of_row _ _ 1 _ _ hs1
      have f2_hs1 := frozen_of_row _ _ 2 _ _ hs1
      have f3_hs1 := frozen_of_row _ _ 3 _ _ hs1
      have f4_hs1 := frozen_of_row _ _ 4 _ _ hs1
      have f5_hs1 := frozen_of_row _ _ 5 _ _ hs1
      simp at r0_hs1 r1_hs1 r2_hs1 r3_hs1 r4_hs1 r5_hs1
      have r0_hk1 := cell_of_row _ _ 0 _ _ _ hk1
      have r1_hk1 := cell_of_row _ _ 1 _ _ _ hk1
      have r2_hk1 := cell_of_row _ _ 2 _ _ _ hk1
      have f0_hk1 := frozen_of_row _ _ 0 _ _ hk1
      have f1_hk1 := frozen_of_row _ _ 1 _ _ hk1
      have f2_hk1 := frozen_of_row _ _ 2 _ _ hk1
      simp at r0_hk1 r1_hk1 r2_hk1
      have r0_hr1 := cell_of_row _ _ 0 _ _ _ hr1
      have r1_hr1 := cell_of_row _ _ 1 _ _ _ hr1
      have r2_hr1 := cell_of_row _ _ 2 _ _ _ hr1
      have r3_hr1 := cell_of_row _ _ 3 _ _ _ hr1
      have r4_hr1 := cell_of_row _ _ 4 _ _ _ hr1
      have r5_hr1 := cell_of_row _ _ 5 _ _ _ hr1
      have f0_hr1 := frozen_of_row _ _ 0 _ _ hr1
      have f1_hr1 := frozen_of_row _ _ 1 _ _ hr1
      have f2_hr1 := frozen_of_row _ _ 2 _ _ hr1
      have f3_hr1 := frozen_of_row _ _ 3 _ _ hr1
      have f4_hr1 := frozen_of_row _ _ 4 _ _ hr1
      have f5_hr1 := frozen_of_row _ _ 5 _ _ hr1
      simp at r0_hr1 r1_hr1 r2_hr1 r3_hr1 r4_hr1 r5_hr1
      have r0_ho1 := cell_of_row _ _ 0 _ _ _ ho1
      have r1_ho1 := cell_of_row _ _ 1 _ _ _ ho1
      have r2_ho1 := cell_of_row _ _ 2 _ _ _ ho1
      have r3_ho1 := cell_of_row _ _ 3 _ _ _ ho1
      have r4_ho1 := cell_of_row _ _ 4 _ _ _ ho1
      have r5_ho1 := cell_of_row _ _ 5 _ _ _ ho1
      have f0_ho1 := frozen_of_row _ _ 0 _ _ ho1
      have f1_ho1 := frozen_of_row _ _ 1 _ _ ho1
      have f2_ho1 := frozen_of_row _ _ 2 _ _ ho1
      have f3_ho1 := frozen_of_row _ _ 3 _ _ ho1
      have f4_ho1 := frozen_of_row _ _ 4 _ _ ho1
      have f5_ho1 := frozen_of_row _ _ 5 _ _ ho1
      simp at r0_ho1 r1_ho1 r2_ho1 r3_ho1 r4_ho1 r5_ho1
      clear hc1 hf1
      go_wp2_with fail
      apply bodyPost_ret (results_cell_row (P := Try.prog) (fn := Try.f28) rfl _ _ _ 26 _ (0, 0) _ rfl _ Try.underlying26 rfl _) rfl
      rotate_left 2
      · repeat (first | (with_reducible apply heap_setCell_same) | (with_reducible apply drew_row) | (with_reducible apply drewN_row) | (with_reducible exact hr1) | (with_reducible refine (heap_setCell_other _ _ _ _ (by first | omega | (simp; done) | (simp; omega))).trans ?_) | (with_reducible refine (Below.heap_alloc _ _ _ (by first | omega | (simp; done) | (simp; omega))).trans ?_))
      · kernel_rfl
      exact ⟨by simp, (by repeat (first | with_reducible exact Below.refl _ _ | with_reducible assumption | with_reducible refine Below.drew ?_ | with_reducible refine Below.alloc ?_ (by first | exact Nat.le_refl _ | omega | (simp; done) | (simp; omega)) _ | with_reducible refine Below.setCell ?_ (by first | exact Nat.le_refl _ | omega | (simp; done) | (simp; omega)) _ | (with_reducible refine ext_trans ?_ (by with_reducible assumption))))⟩
    · go_enter Try.func28, Try.ntmps28
      go_wp2_with fail
      refine (SenderOk_any _ _ _ _ _ _ hd _).mono ?_
      rintro e w1 ⟨rfl, hb1⟩
      obtain ⟨hc1, hf1⟩ := bcell hb1
      have hz1 := hb1.size
      (try simp at hz1)
      have hy1_0 : w.heap.size < w1.heap.size := by omega
      have hy1_1 : w.heap.size + 1 < w1.heap.size := by omega
      have hy1_2 : w.heap.size + 2 < w1.heap.size := by omega
      have hy1_3 : w.heap.size + 3 < w1.heap.size := by omega
      have hs1 : w1.heap[w.heap.size]? = some (.cells #[.int .i64 u, .string d, .int .i64 s, .bool f, .bool false, .bool dn] 26 (0, 0)) := (hb1.block _ (by first | (simp; done) | (simp; omega))).trans (by repeat (first | exact heap_new _ _ _ (by first | rfl | (simp; done) | (simp; omega)) | refine (Below.heap_alloc _ _ _ (by first | omega | (simp; done) | (simp; omega))).trans ?_))
      have hk1 : w1.heap[w.heap.size + 1]? = some (.cells #[.int .i64 q, .string x, .bool true] 39 (0, 0)) := (hb1.block _ (by first | (simp; done) | (simp; omega))).trans (by repeat (first | exact heap_new _ _ _ (by first | rfl | (simp; done) | (simp; omega)) | refine (Below.heap_alloc _ _ _ (by first | omega | (simp; done) | (simp; omega))).trans ?_))
      have hr1 : w1.heap[w.heap.size + 1 + 1]? = some (.cells #[.int .i64 0, .string ⟨#[]⟩, .int .i64 0, .bool false, .bool false, .bool false] 26 (0, 0)) := (hb1.block _ (by first | (simp; done) | (simp; omega))).trans (by repeat (first | exact heap_new _ _ _ (by first | rfl | (simp; done) | (simp; omega)) | refine (Below.heap_alloc _ _ _ (by first | omega | (simp; done) | (simp; omega))).trans ?_))
      have ho1 : w1.heap[w.heap.size + 1 + 1 + 1]? = some (.cells #[.int .i64 u, .string d, .int .i64 (wrap64 (s + x.size)), .bool f, .bool true, .bool dn] 26 (0, 0)) := (hb1.block _ (by first | (simp; done) | (simp; omega))).trans (by repeat (first | exact heap_new _ _ _ (by first | rfl | (simp; done) | (simp; omega)) | refine (Below.heap_alloc _ _ _ (by first | omega | (simp; done) | (simp; omega))).trans ?_))
      have r0_hs1 := cell_of_row _ _ 0 _ _ _ hs1
      have r1_hs1 := cell_of_row _ _ 1 _ _ _ hs1
      have r2_hs1 := cell_of_row _ _ 2 _ _ _ hs1
      have r3_hs1 := cell_of_row _ _ 3 _ _ _ hs1
      have r4_hs1 := cell_of_row _ _ 4 _ _ _ hs1
      have r5_hs1 := cell_of_row _ _ 5 _ _ _ hs1
      have f0_hs1 := frozen_of_row _ _ 0 _ _ hs1
      have f1_hs1 := frozen_of_row _ _ 1 _ _ hs1
      have f2_hs1 := frozen_of_row _ _ 2 _ _ hs1
      have f3_hs1 := frozen_of_row _ _ 3 _ _ hs1
      have f4_hs1 := frozen_of_row _ _ 4 _ _ hs1
      have f5_hs1 := frozen_of_row _ _ 5 _ _ hs1
      simp at r0_hs1 r1_hs1 r2_hs1 r3_hs1 r4_hs1 r5_hs1
      have r0_hk1 := cell_of_row _ _ 0 _ _ _ hk1
      have r1_hk1 := cell_of_row _ _ 1 _ _ _ hk1
      have r2_hk1 := cell_of_row _ _ 2 _ _ _ hk1
      have f0_hk1 := frozen_of_row _ _ 0 _ _ hk1
      have f1_hk1 := frozen_of_row _ _ 1 _ _ hk1
      have f2_hk1 := frozen_of_row _ _ 2 _ _ hk1
      simp at r0_hk1 r1_hk1 r2_hk1
      have r0_hr1 := cell_of_row _ _ 0 _ _ _ hr1
      have r1_hr1 := cell_of_row _ _ 1 _ _ _ hr1
      have r2_hr1 := cell_of_row _ _ 2 _ _ _ hr1
      have r3_hr1 := cell_of_row _ _ 3 _ _ _ hr1
      have r4_hr1 := cell_of_row _ _ 4 _ _ _ hr1
      have r5_hr1 := cell_of_row _ _ 5 _ _ _ hr1
      have f0_hr1 := frozen_of_row _ _ 0 _ _ hr1
      have f1_hr1 := frozen_of_row _ _ 1 _ _ hr1
      have f2_hr1 := frozen_of_row _ _ 2 _ _ hr1
      have f3_hr1 := frozen_of_row _ _ 3 _ _ hr1
      have f4_hr1 := frozen_of_row _ _ 4 _ _ hr1
      have f5_hr1 := frozen_of_row _ _ 5 _ _ hr1
      simp at r0_hr1 r1_hr1 r2_hr1 r3_hr1 r4_hr1 r5_hr1
      have r0_ho1 := cell_of_row _ _ 0 _ _ _ ho1
      have r1_ho1 := cell_of_row _ _ 1 _ _ _ ho1
      have r2_ho1 := cell_of_row _ _ 2 _ _ _ ho1
      have r3_ho1 := cell_of_row _ _ 3 _ _ _ ho1
      have r4_ho1 := cell_of_row _ _ 4 _ _ _ ho1
      have r5_ho1 := cell_of_row _ _ 5 _ _ _ ho1
      have f0_ho1 := frozen_of_row _ _ 0 _ _ ho1
      have f1_ho1 := frozen_of_row _ _ 1 _ _ ho1
      have f2_ho1 := frozen_of_row _ _ 2 _ _ ho1
      have f3_ho1 := frozen_of_row _ _ 3 _ _ ho1
      have f4_ho1 := frozen_of_row _ _ 4 _ _ ho1
      have f5_ho1 := frozen_of_row _ _ 5 _ _ ho1
      simp at r0_ho1 r1_ho1 r2_ho1 r3_ho1 r4_ho1 r5_ho1
      clear hc1 hf1
      go_wp2_with fail
      apply bodyPost_ret (results_cell_row (P := Try.prog) (fn := Try.f28) rfl _ _ _ 26 _ (0, 0) _ rfl _ Try.underlying26 rfl _) rfl
      rotate_left 2
      · repeat (first | (with_reducible apply heap_setCell_same) | (with_reducible apply drew_row) | (with_reducible apply drewN_row) | (with_reducible exact hr1) | (with_reducible refine (heap_setCell_other _ _ _ _ (by first | omega | (simp; done) | (simp; omega))).trans ?_) | (with_reducible refine (Below.heap_alloc _ _ _ (by first | omega | (simp; done) | (simp; omega))).trans ?_))
      · kernel_rfl
      exact ⟨by simp, (by repeat (first | with_reducible exact Below.refl _ _ | with_reducible assumption | with_reducible refine Below.drew ?_ | with_reducible refine Below.alloc ?_ (by first | exact Nat.le_refl _ | omega | (simp; done) | (simp; omega)) _ | with_reducible refine Below.setCell ?_ (by first | exact Nat.le_refl _ | omega | (simp; done) | (simp; omega)) _ | (with_reducible refine ext_trans ?_ (by with_reducible assumption))))⟩
  · cases cf
    · go_enter Try.func28, Try.ntmps28
      go_wp2_with fail
      refine (SenderOk_any _ _ _ _ _ _ hd _).mono ?_
      rintro e w1 ⟨rfl, hb1⟩
      obtain ⟨hc1, hf1⟩ := bcell hb1
      have hz1 := hb1.size
      (try simp at hz1)
      have hy1_0 : w.heap.size < w1.heap.size := by omega
      have hy1_1 : w.heap.size + 1 < w1.heap.size := by omega
      have hy1_2 : w.heap.size + 2 < w1.heap.size := by omega
      have hy1_3 : w.heap.size + 3 < w1.heap.size := by omega
      have hs1 : w1.heap[w.heap.size]? = some (.cells #[.int .i64 u, .string d, .int .i64 s, .bool f, .bool true, .bool dn] 26 (0, 0)) := (hb1.block _ (by first | (simp; done) | (simp; omega))).trans (by repeat (first | exact heap_new _ _ _ (by first | rfl | (simp; done) | (simp; omega)) | refine (Below.heap_alloc _ _ _ (by first | omega | (simp; done) | (simp; omega))).trans ?_))
      have hk1 : w1.heap[w.heap.size + 1]? = some (.cells #[.int .i64 q, .string x, .bool false] 39 (0, 0)) := (hb1.block _ (by first | (simp; done) | (simp; omega))).trans (by repeat (first | exact heap_new _ _ _ (by first | rfl | (simp; done) | (simp; omega)) | refine (Below.heap_alloc _ _ _ (by first | omega | (simp; done) | (simp; omega))).trans ?_))
      have hr1 : w1.heap[w.heap.size + 1 + 1]? = some (.cells #[.int .i64 0, .string ⟨#[]⟩, .int .i64 0, .bool false, .bool false, .bool false] 26 (0, 0)) := (hb1.block _ (by first | (simp; done) | (simp; omega))).trans (by repeat (first | exact heap_new _ _ _ (by first | rfl | (simp; done) | (simp; omega)) | refine (Below.heap_alloc _ _ _ (by first | omega | (simp; done) | (simp; omega))).trans ?_))
      have ho1 : w1.heap[w.heap.size + 1 + 1 + 1]? = some (.cells #[.int .i64 u, .string d, .int .i64 (wrap64 (s + x.size)), .bool f, .bool true, .bool dn] 26 (0, 0)) := (hb1.block _ (by first | (simp; done) | (simp; omega))).trans (by repeat (first | exact heap_new _ _ _ (by first | rfl | (simp; done) | (simp; omega)) | refine (Below.heap_alloc _ _ _ (by first | omega | (simp; done) | (simp; omega))).trans ?_))
      have r0_hs1 := cell_of_row _ _ 0 _ _ _ hs1
      have r1_hs1 := cell_of_row _ _ 1 _ _ _ hs1
      have r2_hs1 := cell_of_row _ _ 2 _ _ _ hs1
      have r3_hs1 := cell_of_row _ _ 3 _ _ _ hs1
      have r4_hs1 := cell_of_row _ _ 4 _ _ _ hs1
      have r5_hs1 := cell_of_row _ _ 5 _ _ _ hs1
      have f0_hs1 := frozen_of_row _ _ 0 _ _ hs1
      have f1_hs1 := frozen_of_row _ _ 1 _ _ hs1
      have f2_hs1 := frozen_of_row _ _ 2 _ _ hs1
      have f3_hs1 := frozen_of_row _ _ 3 _ _ hs1
      have f4_hs1 := frozen_of_row _ _ 4 _ _ hs1
      have f5_hs1 := frozen_of_row _ _ 5 _ _ hs1
      simp at r0_hs1 r1_hs1 r2_hs1 r3_hs1 r4_hs1 r5_hs1
      have r0_hk1 := cell_of_row _ _ 0 _ _ _ hk1
      have r1_hk1 := cell_of_row _ _ 1 _ _ _ hk1
      have r2_hk1 := cell_of_row _ _ 2 _ _ _ hk1
      have f0_hk1 := frozen_of_row _ _ 0 _ _ hk1
      have f1_hk1 := frozen_of_row _ _ 1 _ _ hk1
      have f2_hk1 := frozen_of_row _ _ 2 _ _ hk1
      simp at r0_hk1 r1_hk1 r2_hk1
      have r0_hr1 := cell_of_row _ _ 0 _ _ _ hr1
      have r1_hr1 := cell_of_row _ _ 1 _ _ _ hr1
      have r2_hr1 := cell_of_row _ _ 2 _ _ _ hr1
      have r3_hr1 := cell_of_row _ _ 3 _ _ _ hr1
      have r4_hr1 := cell_of_row _ _ 4 _ _ _ hr1
      have r5_hr1 := cell_of_row _ _ 5 _ _ _ hr1
      have f0_hr1 := frozen_of_row _ _ 0 _ _ hr1
      have f1_hr1 := frozen_of_row _ _ 1 _ _ hr1
      have f2_hr1 := frozen_of_row _ _ 2 _ _ hr1
      have f3_hr1 := frozen_of_row _ _ 3 _ _ hr1
      have f4_hr1 := frozen_of_row _ _ 4 _ _ hr1
      have f5_hr1 := frozen_of_row _ _ 5 _ _ hr1
      simp at r0_hr1 r1_hr1 r2_hr1 r3_hr1 r4_hr1 r5_hr1
      have r0_ho1 := cell_of_row _ _ 0 _ _ _ ho1
      have r1_ho1 := cell_of_row _ _ 1 _ _ _ ho1
      have r2_ho1 := cell_of_row _ _ 2 _ _ _ ho1
      have r3_ho1 := cell_of_row _ _ 3 _ _ _ ho1
      have r4_ho1 := cell_of_row _ _ 4 _ _ _ ho1
      have r5_ho1 := cell_of_row _ _ 5 _ _ _ ho1
      have f0_ho1 := frozen_of_row _ _ 0 _ _ ho1
      have f1_ho1 := frozen_of_row _ _ 1 _ _ ho1
      have f2_ho1 := frozen_of_row _ _ 2 _ _ ho1
      have f3_ho1 := frozen_of_row _ _ 3 _ _ ho1
      have f4_ho1 := frozen_of_row _ _ 4 _ _ ho1
      have f5_ho1 := frozen_of_row _ _ 5 _ _ ho1
      simp at r0_ho1 r1_ho1 r2_ho1 r3_ho1 r4_ho1 r5_ho1
      clear hc1 hf1
      go_wp2_with fail
      apply bodyPost_ret (results_cell_row (P := Try.prog) (fn := Try.f28) rfl _ _ _ 26 _ (0, 0) _ rfl _ Try.underlying26 rfl _) rfl
      rotate_left 2
      · repeat (first | (with_reducible apply heap_setCell_same) | (with_reducible apply drew_row) | (with_reducible apply drewN_row) | (with_reducible exact hr1) | (with_reducible refine (heap_setCell_other _ _ _ _ (by first | omega | (simp; done) | (simp; omega))).trans ?_) | (with_reducible refine (Below.heap_alloc _ _ _ (by first | omega | (simp; done) | (simp; omega))).trans ?_))
      · kernel_rfl
      exact ⟨by simp, (by repeat (first | with_reducible exact Below.refl _ _ | with_reducible assumption | with_reducible refine Below.drew ?_ | with_reducible refine Below.alloc ?_ (by first | exact Nat.le_refl _ | omega | (simp; done) | (simp; omega)) _ | with_reducible refine Below.setCell ?_ (by first | exact Nat.le_refl _ | omega | (simp; done) | (simp; omega)) _ | (with_reducible refine ext_trans ?_ (by with_reducible assumption))))⟩
    · go_enter Try.func28, Try.ntmps28
      go_wp2_with fail
      refine (SenderOk_any _ _ _ _ _ _ hd _).mono ?_
      rintro e w1 ⟨rfl, hb1⟩
      obtain ⟨hc1, hf1⟩ := bcell hb1
      have hz1 := hb1.size
      (try simp at hz1)
      have hy1_0 : w.heap.size < w1.heap.size := by omega
      have hy1_1 : w.heap.size + 1 < w1.heap.size := by omega
      have hy1_2 : w.heap.size + 2 < w1.heap.size := by omega
      have hy1_3 : w.heap.size + 3 < w1.heap.size := by omega
      have hs1 : w1.heap[w.heap.size]? = some (.cells #[.int .i64 u, .string d, .int .i64 s, .bool f, .bool true, .bool dn] 26 (0, 0)) := (hb1.block _ (by first | (simp; done) | (simp; omega))).trans (by repeat (first | exact heap_new _ _ _ (by first | rfl | (simp; done) | (simp; omega)) | refine (Below.heap_alloc _ _ _ (by first | omega | (simp; done) | (simp; omega))).trans ?_))
      have hk1 : w1.heap[w.heap.size + 1]? = some (.cells #[.int .i64 q, .string x, .bool true] 39 (0, 0)) := (hb1.block _ (by first | (simp; done) | (simp; omega))).trans (by repeat (first | exact heap_new _ _ _ (by first | rfl | (simp; done) | (simp; omega)) | refine (Below.heap_alloc _ _ _ (by first | omega | (simp; done) | (simp; omega))).trans ?_))
      have hr1 : w1.heap[w.heap.size + 1 + 1]? = some (.cells #[.int .i64 0, .string ⟨#[]⟩, .int .i64 0, .bool false, .bool false, .bool false] 26 (0, 0)) := (hb1.block _ (by first | (simp; done) | (simp; omega))).trans (by repeat (first | exact heap_new _ _ _ (by first | rfl | (simp; done) | (simp; omega)) | refine (Below.heap_alloc _ _ _ (by first | omega | (simp; done) | (simp; omega))).trans ?_))
      have ho1 : w1.heap[w.heap.size + 1 + 1 + 1]? = some (.cells #[.int .i64 u, .string d, .int .i64 (wrap64 (s + x.size)), .bool f, .bool true, .bool dn] 26 (0, 0)) := (hb1.block _ (by first | (simp; done) | (simp; omega))).trans (by repeat (first | exact heap_new _ _ _ (by first | rfl | (simp; done) | (simp; omega)) | refine (Below.heap_alloc _ _ _ (by first | omega | (simp; done) | (simp; omega))).trans ?_))
      have r0_hs1 := cell_of_row _ _ 0 _ _ _ hs1
      have r1_hs1 := cell_of_row _ _ 1 _ _ _ hs1
      have r2_hs1 := cell_of_row _ _ 2 _ _ _ hs1
      have r3_hs1 := cell_of_row _ _ 3 _ _ _ hs1
      have r4_hs1 := cell_of_row _ _ 4 _ _ _ hs1
      have r5_hs1 := cell_of_row _ _ 5 _ _ _ hs1
      have f0_hs1 := frozen_of_row _ _ 0 _ _ hs1
      have f1_hs1 := frozen_of_row _ _ 1 _ _ hs1
      have f2_hs1 := frozen_of_row _ _ 2 _ _ hs1
      have f3_hs1 := frozen_of_row _ _ 3 _ _ hs1
      have f4_hs1 := frozen_of_row _ _ 4 _ _ hs1
      have f5_hs1 := frozen_of_row _ _ 5 _ _ hs1
      simp at r0_hs1 r1_hs1 r2_hs1 r3_hs1 r4_hs1 r5_hs1
      have r0_hk1 := cell_of_row _ _ 0 _ _ _ hk1
      have r1_hk1 := cell_of_row _ _ 1 _ _ _ hk1
      have r2_hk1 := cell_of_row _ _ 2 _ _ _ hk1
      have f0_hk1 := frozen_of_row _ _ 0 _ _ hk1
      have f1_hk1 := frozen_of_row _ _ 1 _ _ hk1
      have f2_hk1 := frozen_of_row _ _ 2 _ _ hk1
      simp at r0_hk1 r1_hk1 r2_hk1
      have r0_hr1 := cell_of_row _ _ 0 _ _ _ hr1
      have r1_hr1 := cell_of_row _ _ 1 _ _ _ hr1
      have r2_hr1 := cell_of_row _ _ 2 _ _ _ hr1
      have r3_hr1 := cell_of_row _ _ 3 _ _ _ hr1
      have r4_hr1 := cell_of_row _ _ 4 _ _ _ hr1
      have r5_hr1 := cell_of_row _ _ 5 _ _ _ hr1
      have f0_hr1 := frozen_of_row _ _ 0 _ _ hr1
      have f1_hr1 := frozen_of_row _ _ 1 _ _ hr1
      have f2_hr1 := frozen_of_row _ _ 2 _ _ hr1
      have f3_hr1 := frozen_of_row _ _ 3 _ _ hr1
      have f4_hr1 := frozen_of_row _ _ 4 _ _ hr1
      have f5_hr1 := frozen_of_row _ _ 5 _ _ hr1
      simp at r0_hr1 r1_hr1 r2_hr1 r3_hr1 r4_hr1 r5_hr1
      have r0_ho1 := cell_of_row _ _ 0 _ _ _ ho1
      have r1_ho1 := cell_of_row _ _ 1 _ _ _ ho1
      have r2_ho1 := cell_of_row _ _ 2 _ _ _ ho1
      have r3_ho1 := cell_of_row _ _ 3 _ _ _ ho1
      have r4_ho1 := cell_of_row _ _ 4 _ _ _ ho1
      have r5_ho1 := cell_of_row _ _ 5 _ _ _ ho1
      have f0_ho1 := frozen_of_row _ _ 0 _ _ ho1
      have f1_ho1 := frozen_of_row _ _ 1 _ _ ho1
      have f2_ho1 := frozen_of_row _ _ 2 _ _ ho1
      have f3_ho1 := frozen_of_row _ _ 3 _ _ ho1
      have f4_ho1 := frozen_of_row _ _ 4 _ _ ho1
      have f5_ho1 := frozen_of_row _ _ 5 _ _ ho1
      simp at r0_ho1 r1_ho1 r2_ho1 r3_ho1 r4_ho1 r5_ho1
      clear hc1 hf1
      go_wp2_with fail
      apply bodyPost_ret (results_cell_row (P := Try.prog) (fn := Try.f28) rfl _ _ _ 26 _ (0, 0) _ rfl _ Try.underlying26 rfl _) rfl
      rotate_left 2
      · repeat (first | (with_reducible apply heap_setCell_same) | (with_reducible apply drew_row) | (with_reducible apply drewN_row) | (with_reducible exact hr1) | (with_reducible refine (heap_setCell_other _ _ _ _ (by first | omega | (simp; done) | (simp; omega))).trans ?_) | (with_reducible refine (Below.heap_alloc _ _ _ (by first | omega | (simp; done) | (simp; omega))).trans ?_))
      · kernel_rfl
      exact ⟨by simp, (by repeat (first | with_reducible exact Below.refl _ _ | with_reducible assumption | with_reducible refine Below.drew ?_ | with_reducible refine Below.alloc ?_ (by first | exact Nat.le_refl _ | omega | (simp; done) | (simp; omega)) _ | with_reducible refine Below.setCell ?_ (by first | exact Nat.le_refl _ | omega | (simp; done) | (simp; omega)) _ | (with_reducible refine ext_trans ?_ (by with_reducible assumption))))⟩

theorem SentOff_no2 (u : Int) (d : ByteArray) (s : Int) (f fs dn : Bool) (q : Int) (x : ByteArray) (cf : Bool) (hd : d.size ≤ maxLen) (_hx : x.size ≤ maxLen) (h1 : sndB u d s f fs dn = true) (h2 : sndB u d (wrap64 (s + x.size)) f (fs || cf) dn = false) (w : World) :
    Calls Try.prog 28 #[.agg #[.int .i64 u, .string d, .int .i64 s, .bool f, .bool fs, .bool dn], .agg #[.int .i64 q, .string x, .bool cf]] w fun e w' => e = .returned (.agg #[.int .i64 u, .string d, .int .i64 s, .bool f, .bool fs, .bool dn]) ∧ Below w.heap.size w w' := by
  cases fs
  · cases cf
    · simp only [Bool.or_false] at h2
      go_enter Try.func28, Try.ntmps28
      go_wp2_with fail
      refine (SenderOk_any _ _ _ _ _ _ hd _).mono ?_
      rintro e w1 ⟨rfl, hb1⟩
      obtain ⟨hc1, hf1⟩ := bcell hb1
      have hz1 := hb1.size
      (try simp at hz1)
      have hy1_0 : w.heap.size < w1.heap.size := by omega
      have hy1_1 : w.heap.size + 1 < w1.heap.size := by omega
      have hy1_2 : w.heap.size + 2 < w1.heap.size := by omega
      have hy1_3 : w.heap.size + 3 < w1.heap.size := by omega
      have hs1 : w1.heap[w.heap.size]? = some (.cells #[.int .i64 u, .string d, .int .i64 s, .bool f, .bool false, .bool dn] 26 (0, 0)) := (hb1.block _ (by first | (simp; done) | (simp; omega))).trans (by repeat (first | exact heap_new _ _ _ (by first | rfl | (simp; done) | (simp; omega)) | refine (Below.heap_alloc _ _ _ (by first | omega | (simp; done) | (simp; omega))).trans ?_))
      have hk1 : w1.heap[w.heap.size + 1]? = some (.cells #[.int .i64 q, .string x, .bool false] 39 (0, 0)) := (hb1.block _ (by first | (simp; done) | (simp; omega))).trans (by repeat (first | exact heap_new _ _ _ (by first | rfl | (simp; done) | (simp; omega)) | refine (Below.heap_alloc _ _ _ (by first | omega | (simp; done) | (simp; omega))).trans ?_))
      have hr1 : w1.heap[w.heap.size + 1 + 1]? = some (.cells #[.int .i64 0, .string ⟨#[]⟩, .int .i64 0, .bool false, .bool false, .bool false] 26 (0, 0)) := (hb1.block _ (by first | (simp; done) | (simp; omega))).trans (by repeat (first | exact heap_new _ _ _ (by first | rfl | (simp; done) | (simp; omega)) | refine (Below.heap_alloc _ _ _ (by first | omega | (simp; done) | (simp; omega))).trans ?_))
      have ho1 : w1.heap[w.heap.size + 1 + 1 + 1]? = some (.cells #[.int .i64 u, .string d, .int .i64 (wrap64 (s + x.size)), .bool f, .bool false, .bool dn] 26 (0, 0)) := (hb1.block _ (by first | (simp; done) | (simp; omega))).trans (by repeat (first | exact heap_new _ _ _ (by first | rfl | (simp; done) | (simp; omega)) | refine (Below.heap_alloc _ _ _ (by first | omega | (simp; done) | (simp; omega))).trans ?_))
      have r0_hs1 := cell_of_row _ _ 0 _ _ _ hs1
      have r1_hs1 := cell_of_row _ _ 1 _ _ _ hs1
      have r2_hs1 := cell_of_row _ _ 2 _ _ _ hs1
      have r3_hs1 := cell_of_row _ _ 3 _ _ _ hs1
      have r4_hs1 := cell_of_row _ _ 4 _ _ _ hs1
      have r5_hs1 := cell_of_row _ _ 5 _ _ _ hs1
      have f0_hs1 := frozen_of_row _ _ 0 _ _ hs1
      have f1_hs1 := frozen_of_row _ _ 1 _ _ hs1
      have f2_hs1 := frozen_of_row _ _ 2 _ _ hs1
      have f3_hs1 := frozen_of_row _ _ 3 _ _ hs1
      have f4_hs1 := frozen_of_row _ _ 4 _ _ hs1
      have f5_hs1 := frozen_of_row _ _ 5 _ _ hs1
      simp at r0_hs1 r1_hs1 r2_hs1 r3_hs1 r4_hs1 r5_hs1
      have r0_hk1 := cell_of_row _ _ 0 _ _ _ hk1
      have r1_hk1 := cell_of_row _ _ 1 _ _ _ hk1
      have r2_hk1 := cell_of_row _ _ 2 _ _ _ hk1
      have f0_hk1 := frozen_of_row _ _ 0 _ _ hk1
      have f1_hk1 := frozen_of_row _ _ 1 _ _ hk1
      have f2_hk1 := frozen_of_row _ _ 2 _ _ hk1
      simp at r0_hk1 r1_hk1 r2_hk1
      have r0_hr1 := cell_of_row _ _ 0 _ _ _ hr1
      have r1_hr1 := cell_of_row _ _ 1 _ _ _ hr1
      have r2_hr1 := cell_of_row _ _ 2 _ _ _ hr1
      have r3_hr1 := cell_of_row _ _ 3 _ _ _ hr1
      have r4_hr1 := cell_of_row _ _ 4 _ _ _ hr1
      have r5_hr1 := cell_of_row _ _ 5 _ _ _ hr1
      have f0_hr1 := frozen_of_row _ _ 0 _ _ hr1
      have f1_hr1 := frozen_of_row _ _ 1 _ _ hr1
      have f2_hr1 := frozen_of_row _ _ 2 _ _ hr1
      have f3_hr1 := frozen_of_row _ _ 3 _ _ hr1
      have f4_hr1 := frozen_of_row _ _ 4 _ _ hr1
      have f5_hr1 := frozen_of_row _ _ 5 _ _ hr1
      simp at r0_hr1 r1_hr1 r2_hr1 r3_hr1 r4_hr1 r5_hr1
      have r0_ho1 := cell_of_row _ _ 0 _ _ _ ho1
      have r1_ho1 := cell_of_row _ _ 1 _ _ _ ho1
      have r2_ho1 := cell_of_row _ _ 2 _ _ _ ho1
      have r3_ho1 := cell_of_row _ _ 3 _ _ _ ho1
      have r4_ho1 := cell_of_row _ _ 4 _ _ _ ho1
      have r5_ho1 := cell_of_row _ _ 5 _ _ _ ho1
      have f0_ho1 := frozen_of_row _ _ 0 _ _ ho1
      have f1_ho1 := frozen_of_row _ _ 1 _ _ ho1
      have f2_ho1 := frozen_of_row _ _ 2 _ _ ho1
      have f3_ho1 := frozen_of_row _ _ 3 _ _ ho1
      have f4_ho1 := frozen_of_row _ _ 4 _ _ ho1
      have f5_ho1 := frozen_of_row _ _ 5 _ _ ho1
      simp at r0_ho1 r1_ho1 r2_ho1 r3_ho1 r4_ho1 r5_ho1
      clear hc1 hf1
      go_wp2_with fail
      refine (SenderOk_any _ _ _ _ _ _ hd _).mono ?_
      rintro e w2 ⟨rfl, hb2⟩
      obtain ⟨hc2, hf2⟩ := bcell hb2
      have hz2 := hb2.size
      (try simp at hz2)
      have hy2_0 : w.heap.size < w2.heap.size := by omega
      have hy2_1 : w.heap.size + 1 < w2.heap.size := by omega
      have hy2_2 : w.heap.size + 2 < w2.heap.size := by omega
      have hy2_3 : w.heap.size + 3 < w2.heap.size := by omega
      have hs2 := (hb2.block (w.heap.size) (by omega)).trans hs1
      have hk2 := (hb2.block (w.heap.size + 1) (by omega)).trans hk1
      have hr2 := (hb2.block (w.heap.size + 1 + 1) (by omega)).trans hr1
      have ho2 := (hb2.block (w.heap.size + 1 + 1 + 1) (by omega)).trans ho1
      have r0_hs2 := cell_of_row _ _ 0 _ _ _ hs2
      have r1_hs2 := cell_of_row _ _ 1 _ _ _ hs2
      have r2_hs2 := cell_of_row _ _ 2 _ _ _ hs2
      have r3_hs2 := cell_of_row _ _ 3 _ _ _ hs2
      have r4_hs2 := cell_of_row _ _ 4 _ _ _ hs2
      have r5_hs2 := cell_of_row _ _ 5 _ _ _ hs2
      have f0_hs2 := frozen_of_row _ _ 0 _ _ hs2
      have f1_hs2 := frozen_of_row _ _ 1 _ _ hs2
      have f2_hs2 := frozen_of_row _ _ 2 _ _ hs2
      have f3_hs2 := frozen_of_row _ _ 3 _ _ hs2
      have f4_hs2 := frozen_of_row _ _ 4 _ _ hs2
      have f5_hs2 := frozen_of_row _ _ 5 _ _ hs2
      simp at r0_hs2 r1_hs2 r2_hs2 r3_hs2 r4_hs2 r5_hs2
      have r0_hk2 := cell_of_row _ _ 0 _ _ _ hk2
      have r1_hk2 := cell_of_row _ _ 1 _ _ _ hk2
      have r2_hk2 := cell_of_row _ _ 2 _ _ _ hk2
      have f0_hk2 := frozen_of_row _ _ 0 _ _ hk2
      have f1_hk2 := frozen_of_row _ _ 1 _ _ hk2
      have f2_hk2 := frozen_of_row _ _ 2 _ _ hk2
      simp at r0_hk2 r1_hk2 r2_hk2
      have r0_hr2 := cell_of_row _ _ 0 _ _ _ hr2
      have r1_hr2 := cell_of_row _ _ 1 _ _ _ hr2
      have r2_hr2 := cell_of_row _ _ 2 _ _ _ hr2
      have r3_hr2 := cell_of_row _ _ 3 _ _ _ hr2
      have r4_hr2 := cell_of_row _ _ 4 _ _ _ hr2
      have r5_hr2 := cell_of_row _ _ 5 _ _ _ hr2
      have f0_hr2 := frozen_of_row _ _ 0 _ _ hr2
      have f1_hr2 := frozen_of_row _ _ 1 _ _ hr2
      have f2_hr2 := frozen_of_row _ _ 2 _ _ hr2
      have f3_hr2 := frozen_of_row _ _ 3 _ _ hr2
      have f4_hr2 := frozen_of_row _ _ 4 _ _ hr2
      have f5_hr2 := frozen_of_row _ _ 5 _ _ hr2
      simp at r0_hr2 r1_hr2 r2_hr2 r3_hr2 r4_hr2 r5_hr2
      have r0_ho2 := cell_of_row _ _ 0 _ _ _ ho2
      have r1_ho2 := cell_of_row _ _ 1 _ _ _ ho2
      have r2_ho2 := cell_of_row _ _ 2 _ _ _ ho2
      have r3_ho2 := cell_of_row _ _ 3 _ _ _ ho2
      have r4_ho2 := cell_of_row _ _ 4 _ _ _ ho2
      have r5_ho2 := cell_of_row _ _ 5 _ _ _ ho2
      have f0_ho2 := frozen_of_row _ _ 0 _ _ ho2
      have f1_ho2 := frozen_of_row _ _ 1 _ _ ho2
      have f2_ho2 := frozen_of_row _ _ 2 _ _ ho2
      have f3_ho2 := frozen_of_row _ _ 3 _ _ ho2
      have f4_ho2 := frozen_of_row _ _ 4 _ _ ho2
      have f5_ho2 := frozen_of_row _ _ 5 _ _ ho2
      simp at r0_ho2 r1_ho2 r2_ho2 r3_ho2 r4_ho2 r5_ho2
      clear hc2 hf2
      go_wp2_with fail
      apply bodyPost_ret (results_cell_row (P := Try.prog) (fn := Try.f28) rfl _ _ _ 26 _ (0, 0) _ rfl _ Try.underlying26 rfl _) rfl
      rotate_left 2
      · repeat (first | (with_reducible apply heap_setCell_same) | (with_reducible apply drew_row) | (with_reducible apply drewN_row) | (with_reducible exact hr2) | (with_reducible refine (heap_setCell_other _ _ _ _ (by first | omega | (simp; done) | (simp; omega))).trans ?_) | (with_reducible refine (Below.heap_alloc _ _ _ (by first | omega | (simp; done) | (simp; omega))).trans ?_))
      · kernel_rfl
      exact ⟨by simp, (by repeat (first | with_reducible exact Below.refl _ _ | with_reducible assumption | with_reducible refine Below.drew ?_ | with_reducible refine Below.alloc ?_ (by first | exact Nat.le_refl _ | omega | (simp; done) | (simp; omega)) _ | with_reducible refine Below.setCell ?_ (by first | exact Nat.le_refl _ | omega | (simp; done) | (simp; omega)) _ | (with_reducible refine ext_trans ?_ (by with_reducible assumption))))⟩
    · simp only [Bool.or_true] at h2
      go_enter Try.func28, Try.ntmps28
      go_wp2_with fail
      refine (SenderOk_any _ _ _ _ _ _ hd _).mono ?_
      rintro e w1 ⟨rfl, hb1⟩
      obtain ⟨hc1, hf1⟩ := bcell hb1
      have hz1 := hb1.size
      (try simp at hz1)
      have hy1_0 : w.heap.size < w1.heap.size := by omega
      have hy1_1 : w.heap.size + 1 < w1.heap.size := by omega
      have hy1_2 : w.heap.size + 2 < w1.heap.size := by omega
      have hy1_3 : w.heap.size + 3 < w1.heap.size := by omega
      have hs1 : w1.heap[w.heap.size]? = some (.cells #[.int .i64 u, .string d, .int .i64 s, .bool f, .bool false, .bool dn] 26 (0, 0)) := (hb1.block _ (by first | (simp; done) | (simp; omega))).trans (by repeat (first | exact heap_new _ _ _ (by first | rfl | (simp; done) | (simp; omega)) | refine (Below.heap_alloc _ _ _ (by first | omega | (simp; done) | (simp; omega))).trans ?_))
      have hk1 : w1.heap[w.heap.size + 1]? = some (.cells #[.int .i64 q, .string x, .bool true] 39 (0, 0)) := (hb1.block _ (by first | (simp; done) | (simp; omega))).trans (by repeat (first | exact heap_new _ _ _ (by first | rfl | (simp; done) | (simp; omega)) | refine (Below.heap_alloc _ _ _ (by first | omega | (simp; done) | (simp; omega))).trans ?_))
      have hr1 : w1.heap[w.heap.size + 1 + 1]? = some (.cells #[.int .i64 0, .string ⟨#[]⟩, .int .i64 0, .bool false, .bool false, .bool false] 26 (0, 0)) := (hb1.block _ (by first | (simp; done) | (simp; omega))).trans (by repeat (first | exact heap_new _ _ _ (by first | rfl | (simp; done) | (simp; omega)) | refine (Below.heap_alloc _ _ _ (by first | omega | (simp; done) | (simp; omega))).trans ?_))
      have ho1 : w1.heap[w.heap.size + 1 + 1 + 1]? = some (.cells #[.int .i64 u, .string d, .int .i64 (wrap64 (s + x.size)), .bool f, .bool true, .bool dn] 26 (0, 0)) := (hb1.block _ (by first | (simp; done) | (simp; omega))).trans (by repeat (first | exact heap_new _ _ _ (by first | rfl | (simp; done) | (simp; omega)) | refine (Below.heap_alloc _ _ _ (by first | omega | (simp; done) | (simp; omega))).trans ?_))
      have r0_hs1 := cell_of_row _ _ 0 _ _ _ hs1
      have r1_hs1 := cell_of_row _ _ 1 _ _ _ hs1
      have r2_hs1 := cell_of_row _ _ 2 _ _ _ hs1
      have r3_hs1 := cell_of_row _ _ 3 _ _ _ hs1
      have r4_hs1 := cell_of_row _ _ 4 _ _ _ hs1
      have r5_hs1 := cell_of_row _ _ 5 _ _ _ hs1
      have f0_hs1 := frozen_of_row _ _ 0 _ _ hs1
      have f1_hs1 := frozen_of_row _ _ 1 _ _ hs1
      have f2_hs1 := frozen_of_row _ _ 2 _ _ hs1
      have f3_hs1 := frozen_of_row _ _ 3 _ _ hs1
      have f4_hs1 := frozen_of_row _ _ 4 _ _ hs1
      have f5_hs1 := frozen_of_row _ _ 5 _ _ hs1
      simp at r0_hs1 r1_hs1 r2_hs1 r3_hs1 r4_hs1 r5_hs1
      have r0_hk1 := cell_of_row _ _ 0 _ _ _ hk1
      have r1_hk1 := cell_of_row _ _ 1 _ _ _ hk1
      have r2_hk1 := cell_of_row _ _ 2 _ _ _ hk1
      have f0_hk1 := frozen_of_row _ _ 0 _ _ hk1
      have f1_hk1 := frozen_of_row _ _ 1 _ _ hk1
      have f2_hk1 := frozen_of_row _ _ 2 _ _ hk1
      simp at r0_hk1 r1_hk1 r2_hk1
      have r0_hr1 := cell_of_row _ _ 0 _ _ _ hr1
      have r1_hr1 := cell_of_row _ _ 1 _ _ _ hr1
      have r2_hr1 := cell_of_row _ _ 2 _ _ _ hr1
      have r3_hr1 := cell_of_row _ _ 3 _ _ _ hr1
      have r4_hr1 := cell_of_row _ _ 4 _ _ _ hr1
      have r5_hr1 := cell_of_row _ _ 5 _ _ _ hr1
      have f0_hr1 := frozen_of_row _ _ 0 _ _ hr1
      have f1_hr1 := frozen_of_row _ _ 1 _ _ hr1
      have f2_hr1 := frozen_of_row _ _ 2 _ _ hr1
      have f3_hr1 := frozen_of_row _ _ 3 _ _ hr1
      have f4_hr1 := frozen_of_row _ _ 4 _ _ hr1
      have f5_hr1 := frozen_of_row _ _ 5 _ _ hr1
      simp at r0_hr1 r1_hr1 r2_hr1 r3_hr1 r4_hr1 r5_hr1
      have r0_ho1 := cell_of_row _ _ 0 _ _ _ ho1
      have r1_ho1 := cell_of_row _ _ 1 _ _ _ ho1
      have r2_ho1 := cell_of_row _ _ 2 _ _ _ ho1
      have r3_ho1 := cell_of_row _ _ 3 _ _ _ ho1
      have r4_ho1 := cell_of_row _ _ 4 _ _ _ ho1
      have r5_ho1 := cell_of_row _ _ 5 _ _ _ ho1
      have f0_ho1 := frozen_of_row _ _ 0 _ _ ho1
      have f1_ho1 := frozen_of_row _ _ 1 _ _ ho1
      have f2_ho1 := frozen_of_row _ _ 2 _ _ ho1
      have f3_ho1 := frozen_of_row _ _ 3 _ _ ho1
      have f4_ho1 := frozen_of_row _ _ 4 _ _ ho1
      have f5_ho1 := frozen_of_row _ _ 5 _ _ ho1
      simp at r0_ho1 r1_ho1 r2_ho1 r3_ho1 r4_ho1 r5_ho1
      clear hc1 hf1
      go_wp2_with fail
      refine (SenderOk_any _ _ _ _ _ _ hd _).mono ?_
      rintro e w2 ⟨rfl, hb2⟩
      obtain ⟨hc2, hf2⟩ := bcell hb2
      have hz2 := hb2.size
      (try simp at hz2)
      have hy2_0 : w.heap.size < w2.heap.size := by omega
      have hy2_1 : w.heap.size + 1 < w2.heap.size := by omega
      have hy2_2 : w.heap.size + 2 < w2.heap.size := by omega
      have hy2_3 : w.heap.size + 3 < w2.heap.size := by omega
      have hs2 := (hb2.block (w.heap.size) (by omega)).trans hs1
      have hk2 := (hb2.block (w.heap.size + 1) (by omega)).trans hk1
      have hr2 := (hb2.block (w.heap.size + 1 + 1) (by omega)).trans hr1
      have ho2 := (hb2.block (w.heap.size + 1 + 1 + 1) (by omega)).trans ho1
      have r0_hs2 := cell_of_row _ _ 0 _ _ _ hs2
      have r1_hs2 := cell_of_row _ _ 1 _ _ _ hs2
      have r2_hs2 := cell_of_row _ _ 2 _ _ _ hs2
      have r3_hs2 := cell_of_row _ _ 3 _ _ _ hs2
      have r4_hs2 := cell_of_row _ _ 4 _ _ _ hs2
      have r5_hs2 := cell_of_row _ _ 5 _ _ _ hs2
      have f0_hs2 := frozen_of_row _ _ 0 _ _ hs2
      have f1_hs2 := frozen_of_row _ _ 1 _ _ hs2
      have f2_hs2 := frozen_of_row _ _ 2 _ _ hs2
      have f3_hs2 := frozen_of_row _ _ 3 _ _ hs2
      have f4_hs2 := frozen_of_row _ _ 4 _ _ hs2
      have f5_hs2 := frozen_of_row _ _ 5 _ _ hs2
      simp at r0_hs2 r1_hs2 r2_hs2 r3_hs2 r4_hs2 r5_hs2
      have r0_hk2 := cell_of_row _ _ 0 _ _ _ hk2
      have r1_hk2 := cell_of_row _ _ 1 _ _ _ hk2
      have r2_hk2 := cell_of_row _ _ 2 _ _ _ hk2
      have f0_hk2 := frozen_of_row _ _ 0 _ _ hk2
      have f1_hk2 := frozen_of_row _ _ 1 _ _ hk2
      have f2_hk2 := frozen_of_row _ _ 2 _ _ hk2
      simp at r0_hk2 r1_hk2 r2_hk2
      have r0_hr2 := cell_of_row _ _ 0 _ _ _ hr2
      have r1_hr2 := cell_of_row _ _ 1 _ _ _ hr2
      have r2_hr2 := cell_of_row _ _ 2 _ _ _ hr2
      have r3_hr2 := cell_of_row _ _ 3 _ _ _ hr2
      have r4_hr2 := cell_of_row _ _ 4 _ _ _ hr2
      have r5_hr2 := cell_of_row _ _ 5 _ _ _ hr2
      have f0_hr2 := frozen_of_row _ _ 0 _ _ hr2
      have f1_hr2 := frozen_of_row _ _ 1 _ _ hr2
      have f2_hr2 := frozen_of_row _ _ 2 _ _ hr2
      have f3_hr2 := frozen_of_row _ _ 3 _ _ hr2
      have f4_hr2 := frozen_of_row _ _ 4 _ _ hr2
      have f5_hr2 := frozen_of_row _ _ 5 _ _ hr2
      simp at r0_hr2 r1_hr2 r2_hr2 r3_hr2 r4_hr2 r5_hr2
      have r0_ho2 := cell_of_row _ _ 0 _ _ _ ho2
      have r1_ho2 := cell_of_row _ _ 1 _ _ _ ho2
      have r2_ho2 := cell_of_row _ _ 2 _ _ _ ho2
      have r3_ho2 := cell_of_row _ _ 3 _ _ _ ho2
      have r4_ho2 := cell_of_row _ _ 4 _ _ _ ho2
      have r5_ho2 := cell_of_row _ _ 5 _ _ _ ho2
      have f0_ho2 := frozen_of_row _ _ 0 _ _ ho2
      have f1_ho2 := frozen_of_row _ _ 1 _ _ ho2
      have f2_ho2 := frozen_of_row _ _ 2 _ _ ho2
      have f3_ho2 := frozen_of_row _ _ 3 _ _ ho2
      have f4_ho2 := frozen_of_row _ _ 4 _ _ ho2
      have f5_ho2 := frozen_of_row _ _ 5 _ _ ho2
      simp at r0_ho2 r1_ho2 r2_ho2 r3_ho2 r4_ho2 r5_ho2
      clear hc2 hf2
      go_wp2_with fail
      apply bodyPost_ret (results_cell_row (P := Try.prog) (fn := Try.f28) rfl _ _ _ 26 _ (0, 0) _ rfl _ Try.underlying26 rfl _) rfl
      rotate_left 2
      · repeat (first | (with_reducible apply heap_setCell_same) | (with_reducible apply drew_row) | (with_reducible apply drewN_row) | (with_reducible exact hr2) | (with_reducible refine (heap_setCell_other _ _ _ _ (by first | omega | (simp; done) | (simp; omega))).trans ?_) | (with_reducible refine (Below.heap_alloc _ _ _ (by first | omega | (simp; done) | (simp; omega))).trans ?_))
      · kernel_rfl
      exact ⟨by simp, (by repeat (first | with_reducible exact Below.refl _ _ | with_reducible assumption | with_reducible refine Below.drew ?_ | with_reducible refine Below.alloc ?_ (by first | exact Nat.le_refl _ | omega | (simp; done) | (simp; omega)) _ | with_reducible refine Below.setCell ?_ (by first | exact Nat.le_refl _ | omega | (simp; done) | (simp; omega)) _ | (with_reducible refine ext_trans ?_ (by with_reducible assumption))))⟩
  · cases cf
    · simp only [Bool.or_false] at h2
      go_enter Try.func28, Try.ntmps28
      go_wp2_with fail
      refine (SenderOk_any _ _ _ _ _ _ hd _).mono ?_
      rintro e w1 ⟨rfl, hb1⟩
      obtain ⟨hc1, hf1⟩ := bcell hb1
      have hz1 := hb1.size
      (try simp at hz1)
      have hy1_0 : w.heap.size < w1.heap.size := by omega
      have hy1_1 : w.heap.size + 1 < w1.heap.size := by omega
      have hy1_2 : w.heap.size + 2 < w1.heap.size := by omega
      have hy1_3 : w.heap.size + 3 < w1.heap.size := by omega
      have hs1 : w1.heap[w.heap.size]? = some (.cells #[.int .i64 u, .string d, .int .i64 s, .bool f, .bool true, .bool dn] 26 (0, 0)) := (hb1.block _ (by first | (simp; done) | (simp; omega))).trans (by repeat (first | exact heap_new _ _ _ (by first | rfl | (simp; done) | (simp; omega)) | refine (Below.heap_alloc _ _ _ (by first | omega | (simp; done) | (simp; omega))).trans ?_))
      have hk1 : w1.heap[w.heap.size + 1]? = some (.cells #[.int .i64 q, .string x, .bool false] 39 (0, 0)) := (hb1.block _ (by first | (simp; done) | (simp; omega))).trans (by repeat (first | exact heap_new _ _ _ (by first | rfl | (simp; done) | (simp; omega)) | refine (Below.heap_alloc _ _ _ (by first | omega | (simp; done) | (simp; omega))).trans ?_))
      have hr1 : w1.heap[w.heap.size + 1 + 1]? = some (.cells #[.int .i64 0, .string ⟨#[]⟩, .int .i64 0, .bool false, .bool false, .bool false] 26 (0, 0)) := (hb1.block _ (by first | (simp; done) | (simp; omega))).trans (by repeat (first | exact heap_new _ _ _ (by first | rfl | (simp; done) | (simp; omega)) | refine (Below.heap_alloc _ _ _ (by first | omega | (simp; done) | (simp; omega))).trans ?_))
      have ho1 : w1.heap[w.heap.size + 1 + 1 + 1]? = some (.cells #[.int .i64 u, .string d, .int .i64 (wrap64 (s + x.size)), .bool f, .bool true, .bool dn] 26 (0, 0)) := (hb1.block _ (by first | (simp; done) | (simp; omega))).trans (by repeat (first | exact heap_new _ _ _ (by first | rfl | (simp; done) | (simp; omega)) | refine (Below.heap_alloc _ _ _ (by first | omega | (simp; done) | (simp; omega))).trans ?_))
      have r0_hs1 := cell_of_row _ _ 0 _ _ _ hs1
      have r1_hs1 := cell_of_row _ _ 1 _ _ _ hs1
      have r2_hs1 := cell_of_row _ _ 2 _ _ _ hs1
      have r3_hs1 := cell_of_row _ _ 3 _ _ _ hs1
      have r4_hs1 := cell_of_row _ _ 4 _ _ _ hs1
      have r5_hs1 := cell_of_row _ _ 5 _ _ _ hs1
      have f0_hs1 := frozen_of_row _ _ 0 _ _ hs1
      have f1_hs1 := frozen_of_row _ _ 1 _ _ hs1
      have f2_hs1 := frozen_of_row _ _ 2 _ _ hs1
      have f3_hs1 := frozen_of_row _ _ 3 _ _ hs1
      have f4_hs1 := frozen_of_row _ _ 4 _ _ hs1
      have f5_hs1 := frozen_of_row _ _ 5 _ _ hs1
      simp at r0_hs1 r1_hs1 r2_hs1 r3_hs1 r4_hs1 r5_hs1
      have r0_hk1 := cell_of_row _ _ 0 _ _ _ hk1
      have r1_hk1 := cell_of_row _ _ 1 _ _ _ hk1
      have r2_hk1 := cell_of_row _ _ 2 _ _ _ hk1
      have f0_hk1 := frozen_of_row _ _ 0 _ _ hk1
      have f1_hk1 := frozen_of_row _ _ 1 _ _ hk1
      have f2_hk1 := frozen_of_row _ _ 2 _ _ hk1
      simp at r0_hk1 r1_hk1 r2_hk1
      have r0_hr1 := cell_of_row _ _ 0 _ _ _ hr1
      have r1_hr1 := cell_of_row _ _ 1 _ _ _ hr1
      have r2_hr1 := cell_of_row _ _ 2 _ _ _ hr1
      have r3_hr1 := cell_of_row _ _ 3 _ _ _ hr1
      have r4_hr1 := cell_of_row _ _ 4 _ _ _ hr1
      have r5_hr1 := cell_of_row _ _ 5 _ _ _ hr1
      have f0_hr1 := frozen_of_row _ _ 0 _ _ hr1
      have f1_hr1 := frozen_of_row _ _ 1 _ _ hr1
      have f2_hr1 := frozen_of_row _ _ 2 _ _ hr1
      have f3_hr1 := frozen_of_row _ _ 3 _ _ hr1
      have f4_hr1 := frozen_of_row _ _ 4 _ _ hr1
      have f5_hr1 := frozen_of_row _ _ 5 _ _ hr1
      simp at r0_hr1 r1_hr1 r2_hr1 r3_hr1 r4_hr1 r5_hr1
      have r0_ho1 := cell_of_row _ _ 0 _ _ _ ho1
      have r1_ho1 := cell_of_row _ _ 1 _ _ _ ho1
      have r2_ho1 := cell_of_row _ _ 2 _ _ _ ho1
      have r3_ho1 := cell_of_row _ _ 3 _ _ _ ho1
      have r4_ho1 := cell_of_row _ _ 4 _ _ _ ho1
      have r5_ho1 := cell_of_row _ _ 5 _ _ _ ho1
      have f0_ho1 := frozen_of_row _ _ 0 _ _ ho1
      have f1_ho1 := frozen_of_row _ _ 1 _ _ ho1
      have f2_ho1 := frozen_of_row _ _ 2 _ _ ho1
      have f3_ho1 := frozen_of_row _ _ 3 _ _ ho1
      have f4_ho1 := frozen_of_row _ _ 4 _ _ ho1
      have f5_ho1 := frozen_of_row _ _ 5 _ _ ho1
      simp at r0_ho1 r1_ho1 r2_ho1 r3_ho1 r4_ho1 r5_ho1
      clear hc1 hf1
      go_wp2_with fail
      refine (SenderOk_any _ _ _ _ _ _ hd _).mono ?_
      rintro e w2 ⟨rfl, hb2⟩
      obtain ⟨hc2, hf2⟩ := bcell hb2
      have hz2 := hb2.size
      (try simp at hz2)
      have hy2_0 : w.heap.size < w2.heap.size := by omega
      have hy2_1 : w.heap.size + 1 < w2.heap.size := by omega
      have hy2_2 : w.heap.size + 2 < w2.heap.size := by omega
      have hy2_3 : w.heap.size + 3 < w2.heap.size := by omega
      have hs2 := (hb2.block (w.heap.size) (by omega)).trans hs1
      have hk2 := (hb2.block (w.heap.size + 1) (by omega)).trans hk1
      have hr2 := (hb2.block (w.heap.size + 1 + 1) (by omega)).trans hr1
      have ho2 := (hb2.block (w.heap.size + 1 + 1 + 1) (by omega)).trans ho1
      have r0_hs2 := cell_of_row _ _ 0 _ _ _ hs2
      have r1_hs2 := cell_of_row _ _ 1 _ _ _ hs2
      have r2_hs2 := cell_of_row _ _ 2 _ _ _ hs2
      have r3_hs2 := cell_of_row _ _ 3 _ _ _ hs2
      have r4_hs2 := cell_of_row _ _ 4 _ _ _ hs2
      have r5_hs2 := cell_of_row _ _ 5 _ _ _ hs2
      have f0_hs2 := frozen_of_row _ _ 0 _ _ hs2
      have f1_hs2 := frozen_of_row _ _ 1 _ _ hs2
      have f2_hs2 := frozen_of_row _ _ 2 _ _ hs2
      have f3_hs2 := frozen_of_row _ _ 3 _ _ hs2
      have f4_hs2 := frozen_of_row _ _ 4 _ _ hs2
      have f5_hs2 := frozen_of_row _ _ 5 _ _ hs2
      simp at r0_hs2 r1_hs2 r2_hs2 r3_hs2 r4_hs2 r5_hs2
      have r0_hk2 := cell_of_row _ _ 0 _ _ _ hk2
      have r1_hk2 := cell_of_row _ _ 1 _ _ _ hk2
      have r2_hk2 := cell_of_row _ _ 2 _ _ _ hk2
      have f0_hk2 := frozen_of_row _ _ 0 _ _ hk2
      have f1_hk2 := frozen_of_row _ _ 1 _ _ hk2
      have f2_hk2 := frozen_of_row _ _ 2 _ _ hk2
      simp at r0_hk2 r1_hk2 r2_hk2
      have r0_hr2 := cell_of_row _ _ 0 _ _ _ hr2
      have r1_hr2 := cell_of_row _ _ 1 _ _ _ hr2
      have r2_hr2 := cell_of_row _ _ 2 _ _ _ hr2
      have r3_hr2 := cell_of_row _ _ 3 _ _ _ hr2
      have r4_hr2 := cell_of_row _ _ 4 _ _ _ hr2
      have r5_hr2 := cell_of_row _ _ 5 _ _ _ hr2
      have f0_hr2 := frozen_of_row _ _ 0 _ _ hr2
      have f1_hr2 := frozen_of_row _ _ 1 _ _ hr2
      have f2_hr2 := frozen_of_row _ _ 2 _ _ hr2
      have f3_hr2 := frozen_of_row _ _ 3 _ _ hr2
      have f4_hr2 := frozen_of_row _ _ 4 _ _ hr2
      have f5_hr2 := frozen_of_row _ _ 5 _ _ hr2
      simp at r0_hr2 r1_hr2 r2_hr2 r3_hr2 r4_hr2 r5_hr2
      have r0_ho2 := cell_of_row _ _ 0 _ _ _ ho2
      have r1_ho2 := cell_of_row _ _ 1 _ _ _ ho2
      have r2_ho2 := cell_of_row _ _ 2 _ _ _ ho2
      have r3_ho2 := cell_of_row _ _ 3 _ _ _ ho2
      have r4_ho2 := cell_of_row _ _ 4 _ _ _ ho2
      have r5_ho2 := cell_of_row _ _ 5 _ _ _ ho2
      have f0_ho2 := frozen_of_row _ _ 0 _ _ ho2
      have f1_ho2 := frozen_of_row _ _ 1 _ _ ho2
      have f2_ho2 := frozen_of_row _ _ 2 _ _ ho2
      have f3_ho2 := frozen_of_row _ _ 3 _ _ ho2
      have f4_ho2 := frozen_of_row _ _ 4 _ _ ho2
      have f5_ho2 := frozen_of_row _ _ 5 _ _ ho2
      simp at r0_ho2 r1_ho2 r2_ho2 r3_ho2 r4_ho2 r5_ho2
      clear hc2 hf2
      go_wp2_with fail
      apply bodyPost_ret (results_cell_row (P := Try.prog) (fn := Try.f28) rfl _ _ _ 26 _ (0, 0) _ rfl _ Try.underlying26 rfl _) rfl
      rotate_left 2
      · repeat (first | (with_reducible apply heap_setCell_same) | (with_reducible apply drew_row) | (with_reducible apply drewN_row) | (with_reducible exact hr2) | (with_reducible refine (heap_setCell_other _ _ _ _ (by first | omega | (simp; done) | (simp; omega))).trans ?_) | (with_reducible refine (Below.heap_alloc _ _ _ (by first | omega | (simp; done) | (simp; omega))).trans ?_))
      · kernel_rfl
      exact ⟨by simp, (by repeat (first | with_reducible exact Below.refl _ _ | with_reducible assumption | with_reducible refine Below.drew ?_ | with_reducible refine Below.alloc ?_ (by first | exact Nat.le_refl _ | omega | (simp; done) | (simp; omega)) _ | with_reducible refine Below.setCell ?_ (by first | exact Nat.le_refl _ | omega | (simp; done) | (simp; omega)) _ | (with_reducible refine ext_trans ?_ (by with_reducible assumption))))⟩
    · simp only [Bool.or_true] at h2
      go_enter Try.func28, Try.ntmps28
      go_wp2_with fail
      refine (SenderOk_any _ _ _ _ _ _ hd _).mono ?_
      rintro e w1 ⟨rfl, hb1⟩
      obtain ⟨hc1, hf1⟩ := bcell hb1
      have hz1 := hb1.size
      (try simp at hz1)
      have hy1_0 : w.heap.size < w1.heap.size := by omega
      have hy1_1 : w.heap.size + 1 < w1.heap.size := by omega
      have hy1_2 : w.heap.size + 2 < w1.heap.size := by omega
      have hy1_3 : w.heap.size + 3 < w1.heap.size := by omega
      have hs1 : w1.heap[w.heap.size]? = some (.cells #[.int .i64 u, .string d, .int .i64 s, .bool f, .bool true, .bool dn] 26 (0, 0)) := (hb1.block _ (by first | (simp; done) | (simp; omega))).trans (by repeat (first | exact heap_new _ _ _ (by first | rfl | (simp; done) | (simp; omega)) | refine (Below.heap_alloc _ _ _ (by first | omega | (simp; done) | (simp; omega))).trans ?_))
      have hk1 : w1.heap[w.heap.size + 1]? = some (.cells #[.int .i64 q, .string x, .bool true] 39 (0, 0)) := (hb1.block _ (by first | (simp; done) | (simp; omega))).trans (by repeat (first | exact heap_new _ _ _ (by first | rfl | (simp; done) | (simp; omega)) | refine (Below.heap_alloc _ _ _ (by first | omega | (simp; done) | (simp; omega))).trans ?_))
      have hr1 : w1.heap[w.heap.size + 1 + 1]? = some (.cells #[.int .i64 0, .string ⟨#[]⟩, .int .i64 0, .bool false, .bool false, .bool false] 26 (0, 0)) := (hb1.block _ (by first | (simp; done) | (simp; omega))).trans (by repeat (first | exact heap_new _ _ _ (by first | rfl | (simp; done) | (simp; omega)) | refine (Below.heap_alloc _ _ _ (by first | omega | (simp; done) | (simp; omega))).trans ?_))
      have ho1 : w1.heap[w.heap.size + 1 + 1 + 1]? = some (.cells #[.int .i64 u, .string d, .int .i64 (wrap64 (s + x.size)), .bool f, .bool true, .bool dn] 26 (0, 0)) := (hb1.block _ (by first | (simp; done) | (simp; omega))).trans (by repeat (first | exact heap_new _ _ _ (by first | rfl | (simp; done) | (simp; omega)) | refine (Below.heap_alloc _ _ _ (by first | omega | (simp; done) | (simp; omega))).trans ?_))
      have r0_hs1 := cell_of_row _ _ 0 _ _ _ hs1
      have r1_hs1 := cell_of_row _ _ 1 _ _ _ hs1
      have r2_hs1 := cell_of_row _ _ 2 _ _ _ hs1
      have r3_hs1 := cell_of_row _ _ 3 _ _ _ hs1
      have r4_hs1 := cell_of_row _ _ 4 _ _ _ hs1
      have r5_hs1 := cell_of_row _ _ 5 _ _ _ hs1
      have f0_hs1 := frozen_of_row _ _ 0 _ _ hs1
      have f1_hs1 := frozen_of_row _ _ 1 _ _ hs1
      have f2_hs1 := frozen_of_row _ _ 2 _ _ hs1
      have f3_hs1 := frozen_of_row _ _ 3 _ _ hs1
      have f4_hs1 := frozen_of_row _ _ 4 _ _ hs1
      have f5_hs1 := frozen_of_row _ _ 5 _ _ hs1
      simp at r0_hs1 r1_hs1 r2_hs1 r3_hs1 r4_hs1 r5_hs1
      have r0_hk1 := cell_of_row _ _ 0 _ _ _ hk1
      have r1_hk1 := cell_of_row _ _ 1 _ _ _ hk1
      have r2_hk1 := cell_of_row _ _ 2 _ _ _ hk1
      have f0_hk1 := frozen_of_row _ _ 0 _ _ hk1
      have f1_hk1 := frozen_of_row _ _ 1 _ _ hk1
      have f2_hk1 := frozen_of_row _ _ 2 _ _ hk1
      simp at r0_hk1 r1_hk1 r2_hk1
      have r0_hr1 := cell_of_row _ _ 0 _ _ _ hr1
      have r1_hr1 := cell_of_row _ _ 1 _ _ _ hr1
      have r2_hr1 := cell_of_row _ _ 2 _ _ _ hr1
      have r3_hr1 := cell_of_row _ _ 3 _ _ _ hr1
      have r4_hr1 := cell_of_row _ _ 4 _ _ _ hr1
      have r5_hr1 := cell_of_row _ _ 5 _ _ _ hr1
      have f0_hr1 := frozen_of_row _ _ 0 _ _ hr1
      have f1_hr1 := frozen_of_row _ _ 1 _ _ hr1
      have f2_hr1 := frozen_of_row _ _ 2 _ _ hr1
      have f3_hr1 := frozen_of_row _ _ 3 _ _ hr1
      have f4_hr1 := frozen_of_row _ _ 4 _ _ hr1
      have f5_hr1 := frozen_of_row _ _ 5 _ _ hr1
      simp at r0_hr1 r1_hr1 r2_hr1 r3_hr1 r4_hr1 r5_hr1
      have r0_ho1 := cell_of_row _ _ 0 _ _ _ ho1
      have r1_ho1 := cell_of_row _ _ 1 _ _ _ ho1
      have r2_ho1 := cell_of_row _ _ 2 _ _ _ ho1
      have r3_ho1 := cell_of_row _ _ 3 _ _ _ ho1
      have r4_ho1 := cell_of_row _ _ 4 _ _ _ ho1
      have r5_ho1 := cell_of_row _ _ 5 _ _ _ ho1
      have f0_ho1 := frozen_of_row _ _ 0 _ _ ho1
      have f1_ho1 := frozen_of_row _ _ 1 _ _ ho1
      have f2_ho1 := frozen_of_row _ _ 2 _ _ ho1
      have f3_ho1 := frozen_of_row _ _ 3 _ _ ho1
      have f4_ho1 := frozen_of_row _ _ 4 _ _ ho1
      have f5_ho1 := frozen_of_row _ _ 5 _ _ ho1
      simp at r0_ho1 r1_ho1 r2_ho1 r3_ho1 r4_ho1 r5_ho1
      clear hc1 hf1
      go_wp2_with fail
      refine (SenderOk_any _ _ _ _ _ _ hd _).mono ?_
      rintro e w2 ⟨rfl, hb2⟩
      obtain ⟨hc2, hf2⟩ := bcell hb2
      have hz2 := hb2.size
      (try simp at hz2)
      have hy2_0 : w.heap.size < w2.heap.size := by omega
      have hy2_1 : w.heap.size + 1 < w2.heap.size := by omega
      have hy2_2 : w.heap.size + 2 < w2.heap.size := by omega
      have hy2_3 : w.heap.size + 3 < w2.heap.size := by omega
      have hs2 := (hb2.block (w.heap.size) (by omega)).trans hs1
      have hk2 := (hb2.block (w.heap.size + 1) (by omega)).trans hk1
      have hr2 := (hb2.block (w.heap.size + 1 + 1) (by omega)).trans hr1
      have ho2 := (hb2.block (w.heap.size + 1 + 1 + 1) (by omega)).trans ho1
      have r0_hs2 := cell_of_row _ _ 0 _ _ _ hs2
      have r1_hs2 := cell_of_row _ _ 1 _ _ _ hs2
      have r2_hs2 := cell_of_row _ _ 2 _ _ _ hs2
      have r3_hs2 := cell_of_row _ _ 3 _ _ _ hs2
      have r4_hs2 := cell_of_row _ _ 4 _ _ _ hs2
      have r5_hs2 := cell_of_row _ _ 5 _ _ _ hs2
      have f0_hs2 := frozen_of_row _ _ 0 _ _ hs2
      have f1_hs2 := frozen_of_row _ _ 1 _ _ hs2
      have f2_hs2 := frozen_of_row _ _ 2 _ _ hs2
      have f3_hs2 := frozen_of_row _ _ 3 _ _ hs2
      have f4_hs2 := frozen_of_row _ _ 4 _ _ hs2
      have f5_hs2 := frozen_of_row _ _ 5 _ _ hs2
      simp at r0_hs2 r1_hs2 r2_hs2 r3_hs2 r4_hs2 r5_hs2
      have r0_hk2 := cell_of_row _ _ 0 _ _ _ hk2
      have r1_hk2 := cell_of_row _ _ 1 _ _ _ hk2
      have r2_hk2 := cell_of_row _ _ 2 _ _ _ hk2
      have f0_hk2 := frozen_of_row _ _ 0 _ _ hk2
      have f1_hk2 := frozen_of_row _ _ 1 _ _ hk2
      have f2_hk2 := frozen_of_row _ _ 2 _ _ hk2
      simp at r0_hk2 r1_hk2 r2_hk2
      have r0_hr2 := cell_of_row _ _ 0 _ _ _ hr2
      have r1_hr2 := cell_of_row _ _ 1 _ _ _ hr2
      have r2_hr2 := cell_of_row _ _ 2 _ _ _ hr2
      have r3_hr2 := cell_of_row _ _ 3 _ _ _ hr2
      have r4_hr2 := cell_of_row _ _ 4 _ _ _ hr2
      have r5_hr2 := cell_of_row _ _ 5 _ _ _ hr2
      have f0_hr2 := frozen_of_row _ _ 0 _ _ hr2
      have f1_hr2 := frozen_of_row _ _ 1 _ _ hr2
      have f2_hr2 := frozen_of_row _ _ 2 _ _ hr2
      have f3_hr2 := frozen_of_row _ _ 3 _ _ hr2
      have f4_hr2 := frozen_of_row _ _ 4 _ _ hr2
      have f5_hr2 := frozen_of_row _ _ 5 _ _ hr2
      simp at r0_hr2 r1_hr2 r2_hr2 r3_hr2 r4_hr2 r5_hr2
      have r0_ho2 := cell_of_row _ _ 0 _ _ _ ho2
      have r1_ho2 := cell_of_row _ _ 1 _ _ _ ho2
      have r2_ho2 := cell_of_row _ _ 2 _ _ _ ho2
      have r3_ho2 := cell_of_row _ _ 3 _ _ _ ho2
      have r4_ho2 := cell_of_row _ _ 4 _ _ _ ho2
      have r5_ho2 := cell_of_row _ _ 5 _ _ _ ho2
      have f0_ho2 := frozen_of_row _ _ 0 _ _ ho2
      have f1_ho2 := frozen_of_row _ _ 1 _ _ ho2
      have f2_ho2 := frozen_of_row _ _ 2 _ _ ho2
      have f3_ho2 := frozen_of_row _ _ 3 _ _ ho2
      have f4_ho2 := frozen_of_row _ _ 4 _ _ ho2
      have f5_ho2 := frozen_of_row _ _ 5 _ _ ho2
      simp at r0_ho2 r1_ho2 r2_ho2 r3_ho2 r4_ho2 r5_ho2
      clear hc2 hf2
      go_wp2_with fail
      apply bodyPost_ret (results_cell_row (P := Try.prog) (fn := Try.f28) rfl _ _ _ 26 _ (0, 0) _ rfl _ Try.underlying26 rfl _) rfl
      rotate_left 2
      · repeat (first | (with_reducible apply heap_setCell_same) | (with_reducible apply drew_row) | (with_reducible apply drewN_row) | (with_reducible exact hr2) | (with_reducible refine (heap_setCell_other _ _ _ _ (by first | omega | (simp; done) | (simp; omega))).trans ?_) | (with_reducible refine (Below.heap_alloc _ _ _ (by first | omega | (simp; done) | (simp; omega))).trans ?_))
      · kernel_rfl
      exact ⟨by simp, (by repeat (first | with_reducible exact Below.refl _ _ | with_reducible assumption | with_reducible refine Below.drew ?_ | with_reducible refine Below.alloc ?_ (by first | exact Nat.le_refl _ | omega | (simp; done) | (simp; omega)) _ | with_reducible refine Below.setCell ?_ (by first | exact Nat.le_refl _ | omega | (simp; done) | (simp; omega)) _ | (with_reducible refine ext_trans ?_ (by with_reducible assumption))))⟩

theorem sSentOff_yes (u : Int) (d : ByteArray) (s : Int) (f fs dn : Bool) (q : Int) (x : ByteArray) (cf : Bool) (hd : d.size ≤ maxLen) (_hx : x.size ≤ maxLen) (h1 : sndB u d s f fs dn = true) (h2 : sndB u d (wrap64 (s + x.size)) f (fs || cf) dn = true) (h3 : (cf && (!f || dn)) = false) (w : World) :
    Calls Try.prog 26 #[.agg #[.int .i64 u, .string d, .int .i64 s, .bool f, .bool fs, .bool dn], .agg #[.int .i64 q, .string x, .bool cf]] w fun e w' => e = .returned (.agg #[.int .i64 u, .string d, .int .i64 (wrap64 (s + x.size)), .bool f, .bool (fs || cf), .bool dn]) ∧ Below w.heap.size w w' := by
  cases cf
  · clear h3
    cases fs
    · simp only [Bool.or_false] at h2 ⊢
      go_enter Try.func26, Try.ntmps26
      go_wp2_with fail
      refine (sSenderOk_any _ _ _ _ _ _ hd _).mono ?_
      rintro e w1 ⟨rfl, hb1⟩
      obtain ⟨hc1, hf1⟩ := bcell hb1
      have hz1 := hb1.size
      (try simp at hz1)
      have hy1_0 : w.heap.size < w1.heap.size := by omega
      have hy1_1 : w.heap.size + 1 < w1.heap.size := by omega
      have hy1_2 : w.heap.size + 2 < w1.heap.size := by omega
      have hy1_3 : w.heap.size + 3 < w1.heap.size := by omega
      have hs1 : w1.heap[w.heap.size]? = some (.cells #[.int .i64 u, .string d, .int .i64 s, .bool f, .bool false, .bool dn] 26 (0, 0)) := (hb1.block _ (by first | (simp; done) | (simp; omega))).trans (by repeat (first | exact heap_new _ _ _ (by first | rfl | (simp; done) | (simp; omega)) | refine (Below.heap_alloc _ _ _ (by first | omega | (simp; done) | (simp; omega))).trans ?_))
      have hk1 : w1.heap[w.heap.size + 1]? = some (.cells #[.int .i64 q, .string x, .bool false] 39 (0, 0)) := (hb1.block _ (by first | (simp; done) | (simp; omega))).trans (by repeat (first | exact heap_new _ _ _ (by first | rfl | (simp; done) | (simp; omega)) | refine (Below.heap_alloc _ _ _ (by first | omega | (simp; done) | (simp; omega))).trans ?_))
      have hr1 : w1.heap[w.heap.size + 1 + 1]? = some (.cells #[.int .i64 0, .string ⟨#[]⟩, .int .i64 0, .bool false, .bool false, .bool false] 26 (0, 0)) := (hb1.block _ (by first | (simp; done) | (simp; omega))).trans (by repeat (first | exact heap_new _ _ _ (by first | rfl | (simp; done) | (simp; omega)) | refine (Below.heap_alloc _ _ _ (by first | omega | (simp; done) | (simp; omega))).trans ?_))
      have ho1 : w1.heap[w.heap.size + 1 + 1 + 1]? = some (.cells #[.int .i64 u, .string d, .int .i64 (wrap64 (s + x.size)), .bool f, .bool false, .bool dn] 26 (0, 0)) := (hb1.block _ (by first | (simp; done) | (simp; omega))).trans (by repeat (first | exact heap_new _ _ _ (by first | rfl | (simp; done) | (simp; omega)) | refine (Below.heap_alloc _ _ _ (by first | omega | (simp; done) | (simp; omega))).trans ?_))
      have r0_hs1 := cell_of_row _ _ 0 _ _ _ hs1
      have r1_hs1 := cell_of_row _ _ 1 _ _ _ hs1
      have r2_hs1 := cell_of_row _ _ 2 _ _ _ hs1
      have r3_hs1 := cell_of_row _ _ 3 _ _ _ hs1
      have r4_hs1 := cell_of_row _ _ 4 _ _ _ hs1
      have r5_hs1 := cell_of_row _ _ 5 _ _ _ hs1
      have f0_hs1 := frozen_of_row _ _ 0 _ _ hs1
      have f1_hs1 := frozen_of_row _ _ 1 _ _ hs1
      have f2_hs1 := frozen_of_row _ _ 2 _ _ hs1
      have f3_hs1 := frozen_of_row _ _ 3 _ _ hs1
      have f4_hs1 := frozen_of_row _ _ 4 _ _ hs1
      have f5_hs1 := frozen_of_row _ _ 5 _ _ hs1
      simp at r0_hs1 r1_hs1 r2_hs1 r3_hs1 r4_hs1 r5_hs1
      have r0_hk1 := cell_of_row _ _ 0 _ _ _ hk1
      have r1_hk1 := cell_of_row _ _ 1 _ _ _ hk1
      have r2_hk1 := cell_of_row _ _ 2 _ _ _ hk1
      have f0_hk1 := frozen_of_row _ _ 0 _ _ hk1
      have f1_hk1 := frozen_of_row _ _ 1 _ _ hk1
      have f2_hk1 := frozen_of_row _ _ 2 _ _ hk1
      simp at r0_hk1 r1_hk1 r2_hk1
      have r0_hr1 := cell_of_row _ _ 0 _ _ _ hr1
      have r1_hr1 := cell_of_row _ _ 1 _ _ _ hr1
      have r2_hr1 := cell_of_row _ _ 2 _ _ _ hr1
      have r3_hr1 := cell_of_row _ _ 3 _ _ _ hr1
      have r4_hr1 := cell_of_row _ _ 4 _ _ _ hr1
      have r5_hr1 := cell_of_row _ _ 5 _ _ _ hr1
      have f0_hr1 := frozen_of_row _ _ 0 _ _ hr1
      have f1_hr1 := frozen_of_row _ _ 1 _ _ hr1
      have f2_hr1 := frozen_of_row _ _ 2 _ _ hr1
      have f3_hr1 := frozen_of_row _ _ 3 _ _ hr1
      have f4_hr1 := frozen_of_row _ _ 4 _ _ hr1
      have f5_hr1 := frozen_of_row _ _ 5 _ _ hr1
      simp at r0_hr1 r1_hr1 r2_hr1 r3_hr1 r4_hr1 r5_hr1
      have r0_ho1 := cell_of_row _ _ 0 _ _ _ ho1
      have r1_ho1 := cell_of_row _ _ 1 _ _ _ ho1
      have r2_ho1 := cell_of_row _ _ 2 _ _ _ ho1
      have r3_ho1 := cell_of_row _ _ 3 _ _ _ ho1
      have r4_ho1 := cell_of_row _ _ 4 _ _ _ ho1
      have r5_ho1 := cell_of_row _ _ 5 _ _ _ ho1
      have f0_ho1 := frozen_of_row _ _ 0 _ _ ho1
      have f1_ho1 := frozen_of_row _ _ 1 _ _ ho1
      have f2_ho1 := frozen_of_row _ _ 2 _ _ ho1
      have f3_ho1 := frozen_of_row _ _ 3 _ _ ho1
      have f4_ho1 := frozen_of_row _ _ 4 _ _ ho1
      have f5_ho1 := frozen_of_row _ _ 5 _ _ ho1
      simp at r0_ho1 r1_ho1 r2_ho1 r3_ho1 r4_ho1 r5_ho1
      clear hc1 hf1
      go_wp2_with fail
      refine (sSenderOk_any _ _ _ _ _ _ hd _).mono ?_
      rintro e w2 ⟨rfl, hb2⟩
      obtain ⟨hc2, hf2⟩ := bcell hb2
      have hz2 := hb2.size
      (try simp at hz2)
      have hy2_0 : w.heap.size < w2.heap.size := by omega
      have hy2_1 : w.heap.size + 1 < w2.heap.size := by omega
      have hy2_2 : w.heap.size + 2 < w2.heap.size := by omega
      have hy2_3 : w.heap.size + 3 < w2.heap.size := by omega
      have hs2 := (hb2.block (w.heap.size) (by omega)).trans hs1
      have hk2 := (hb2.block (w.heap.size + 1) (by omega)).trans hk1
      have hr2 := (hb2.block (w.heap.size + 1 + 1) (by omega)).trans hr1
      have ho2 := (hb2.block (w.heap.size + 1 + 1 + 1) (by omega)).trans ho1
      have r0_hs2 := cell_of_row _ _ 0 _ _ _ hs2
      have r1_hs2 := cell_of_row _ _ 1 _ _ _ hs2
      have r2_hs2 := cell_of_row _ _ 2 _ _ _ hs2
      have r3_hs2 := cell_of_row _ _ 3 _ _ _ hs2
      have r4_hs2 := cell_of_row _ _ 4 _ _ _ hs2
      have r5_hs2 := cell_of_row _ _ 5 _ _ _ hs2
      have f0_hs2 := frozen_of_row _ _ 0 _ _ hs2
      have f1_hs2 := frozen_of_row _ _ 1 _ _ hs2
      have f2_hs2 := frozen_of_row _ _ 2 _ _ hs2
      have f3_hs2 := frozen_of_row _ _ 3 _ _ hs2
      have f4_hs2 := frozen_of_row _ _ 4 _ _ hs2
      have f5_hs2 := frozen_of_row _ _ 5 _ _ hs2
      simp at r0_hs2 r1_hs2 r2_hs2 r3_hs2 r4_hs2 r5_hs2
      have r0_hk2 := cell_of_row _ _ 0 _ _ _ hk2
      have r1_hk2 := cell_of_row _ _ 1 _ _ _ hk2
      have r2_hk2 := cell_of_row _ _ 2 _ _ _ hk2
      have f0_hk2 := frozen_of_row _ _ 0 _ _ hk2
      have f1_hk2 := frozen_of_row _ _ 1 _ _ hk2
      have f2_hk2 := frozen_of_row _ _ 2 _ _ hk2
      simp at r0_hk2 r1_hk2 r2_hk2
      have r0_hr2 := cell_of_row _ _ 0 _ _ _ hr2
      have r1_hr2 := cell_of_row _ _ 1 _ _ _ hr2
      have r2_hr2 := cell_of_row _ _ 2 _ _ _ hr2
      have r3_hr2 := cell_of_row _ _ 3 _ _ _ hr2
      have r4_hr2 := cell_of_row _ _ 4 _ _ _ hr2
      have r5_hr2 := cell_of_row _ _ 5 _ _ _ hr2
      have f0_hr2 := frozen_of_row _ _ 0 _ _ hr2
      have f1_hr2 := frozen_of_row _ _ 1 _ _ hr2
      have f2_hr2 := frozen_of_row _ _ 2 _ _ hr2
      have f3_hr2 := frozen_of_row _ _ 3 _ _ hr2
      have f4_hr2 := frozen_of_row _ _ 4 _ _ hr2
      have f5_hr2 := frozen_of_row _ _ 5 _ _ hr2
      simp at r0_hr2 r1_hr2 r2_hr2 r3_hr2 r4_hr2 r5_hr2
      have r0_ho2 := cell_of_row _ _ 0 _ _ _ ho2
      have r1_ho2 := cell_of_row _ _ 1 _ _ _ ho2
      have r2_ho2 := cell_of_row _ _ 2 _ _ _ ho2
      have r3_ho2 := cell_of_row _ _ 3 _ _ _ ho2
      have r4_ho2 := cell_of_row _ _ 4 _ _ _ ho2
      have r5_ho2 := cell_of_row _ _ 5 _ _ _ ho2
      have f0_ho2 := frozen_of_row _ _ 0 _ _ ho2
      have f1_ho2 := frozen_of_row _ _ 1 _ _ ho2
      have f2_ho2 := frozen_of_row _ _ 2 _ _ ho2
      have f3_ho2 := frozen_of_row _ _ 3 _ _ ho2
      have f4_ho2 := frozen_of_row _ _ 4 _ _ ho2
      have f5_ho2 := frozen_of_row _ _ 5 _ _ ho2
      simp at r0_ho2 r1_ho2 r2_ho2 r3_ho2 r4_ho2 r5_ho2
      clear hc2 hf2
      go_wp2_with fail
      apply bodyPost_ret (results_cell_row (P := Try.prog) (fn := Try.f26) rfl _ _ _ 26 _ (0, 0) _ rfl _ Try.underlying26 rfl _) rfl
      rotate_left 2
      · repeat (first | (with_reducible apply heap_setCell_same) | (with_reducible apply drew_row) | (with_reducible apply drewN_row) | (with_reducible exact hr2) | (with_reducible refine (heap_setCell_other _ _ _ _ (by first | omega | (simp; done) | (simp; omega))).trans ?_) | (with_reducible refine (Below.heap_alloc _ _ _ (by first | omega | (simp; done) | (simp; omega))).trans ?_))
      · kernel_rfl
      exact ⟨by simp, (by repeat (first | with_reducible exact Below.refl _ _ | with_reducible assumption | with_reducible refine Below.drew ?_ | with_reducible refine Below.alloc ?_ (by first | exact Nat.le_refl _ | omega | (simp; done) | (simp; omega)) _ | with_reducible refine Below.setCell ?_ (by first | exact Nat.le_refl _ | omega | (simp; done) | (simp; omega)) _ | (with_reducible refine ext_trans ?_ (by with_reducible assumption))))⟩
    · simp only [Bool.or_false] at h2 ⊢
      go_enter Try.func26, Try.ntmps26
      go_wp2_with fail
      refine (sSenderOk_any _ _ _ _ _ _ hd _).mono ?_
      rintro e w1 ⟨rfl, hb1⟩
      obtain ⟨hc1, hf1⟩ := bcell hb1
      have hz1 := hb1.size
      (try simp at hz1)
      have hy1_0 : w.heap.size < w1.heap.size := by omega
      have hy1_1 : w.heap.size + 1 < w1.heap.size := by omega
      have hy1_2 : w.heap.size + 2 < w1.heap.size := by omega
      have hy1_3 : w.heap.size + 3 < w1.heap.size := by omega
      have hs1 : w1.heap[w.heap.size]? = some (.cells #[.int .i64 u, .string d, .int .i64 s, .bool f, .bool true, .bool dn] 26 (0, 0)) := (hb1.block _ (by first | (simp; done) | (simp; omega))).trans (by repeat (first | exact heap_new _ _ _ (by first | rfl | (simp; done) | (simp; omega)) | refine (Below.heap_alloc _ _ _ (by first | omega | (simp; done) | (simp; omega))).trans ?_))
      have hk1 : w1.heap[w.heap.size + 1]? = some (.cells #[.int .i64 q, .string x, .bool false] 39 (0, 0)) := (hb1.block _ (by first | (simp; done) | (simp; omega))).trans (by repeat (first | exact heap_new _ _ _ (by first | rfl | (simp; done) | (simp; omega)) | refine (Below.heap_alloc _ _ _ (by first | omega | (simp; done) | (simp; omega))).trans ?_))
      have hr1 : w1.heap[w.heap.size + 1 + 1]? = some (.cells #[.int .i64 0, .string ⟨#[]⟩, .int .i64 0, .bool false, .bool false, .bool false] 26 (0, 0)) := (hb1.block _ (by first | (simp; done) | (simp; omega))).trans (by repeat (first | exact heap_new _ _ _ (by first | rfl | (simp; done) | (simp; omega)) | refine (Below.heap_alloc _ _ _ (by first | omega | (simp; done) | (simp; omega))).trans ?_))
      have ho1 : w1.heap[w.heap.size + 1 + 1 + 1]? = some (.cells #[.int .i64 u, .string d, .int .i64 (wrap64 (s + x.size)), .bool f, .bool true, .bool dn] 26 (0, 0)) := (hb1.block _ (by first | (simp; done) | (simp; omega))).trans (by repeat (first | exact heap_new _ _ _ (by first | rfl | (simp; done) | (simp; omega)) | refine (Below.heap_alloc _ _ _ (by first | omega | (simp; done) | (simp; omega))).trans ?_))
      have r0_hs1 := cell_of_row _ _ 0 _ _ _ hs1
      have r1_hs1 := cell_of_row _ _ 1 _ _ _ hs1
      have r2_hs1 := cell_of_row _ _ 2 _ _ _ hs1
      have r3_hs1 := cell_of_row _ _ 3 _ _ _ hs1
      have r4_hs1 := cell_of_row _ _ 4 _ _ _ hs1
      have r5_hs1 := cell_of_row _ _ 5 _ _ _ hs1
      have f0_hs1 := frozen_of_row _ _ 0 _ _ hs1
      have f1_hs1 := frozen_of_row _ _ 1 _ _ hs1
      have f2_hs1 := frozen_of_row _ _ 2 _ _ hs1
      have f3_hs1 := frozen_of_row _ _ 3 _ _ hs1
      have f4_hs1 := frozen_of_row _ _ 4 _ _ hs1
      have f5_hs1 := frozen_of_row _ _ 5 _ _ hs1
      simp at r0_hs1 r1_hs1 r2_hs1 r3_hs1 r4_hs1 r5_hs1
      have r0_hk1 := cell_of_row _ _ 0 _ _ _ hk1
      have r1_hk1 := cell_of_row _ _ 1 _ _ _ hk1
      have r2_hk1 := cell_of_row _ _ 2 _ _ _ hk1
      have f0_hk1 := frozen_of_row _ _ 0 _ _ hk1
      have f1_hk1 := frozen_of_row _ _ 1 _ _ hk1
      have f2_hk1 := frozen_of_row _ _ 2 _ _ hk1
      simp at r0_hk1 r1_hk1 r2_hk1
      have r0_hr1 := cell_of_row _ _ 0 _ _ _ hr1
      have r1_hr1 := cell_of_row _ _ 1 _ _ _ hr1
      have r2_hr1 := cell_of_row _ _ 2 _ _ _ hr1
      have r3_hr1 := cell_of_row _ _ 3 _ _ _ hr1
      have r4_hr1 := cell_of_row _ _ 4 _ _ _ hr1
      have r5_hr1 := cell_of_row _ _ 5 _ _ _ hr1
      have f0_hr1 := frozen_of_row _ _ 0 _ _ hr1
      have f1_hr1 := frozen_of_row _ _ 1 _ _ hr1
      have f2_hr1 := frozen_of_row _ _ 2 _ _ hr1
      have f3_hr1 := frozen_of_row _ _ 3 _ _ hr1
      have f4_hr1 := frozen_of_row _ _ 4 _ _ hr1
      have f5_hr1 := frozen_of_row _ _ 5 _ _ hr1
      simp at r0_hr1 r1_hr1 r2_hr1 r3_hr1 r4_hr1 r5_hr1
      have r0_ho1 := cell_of_row _ _ 0 _ _ _ ho1
      have r1_ho1 := cell_of_row _ _ 1 _ _ _ ho1
      have r2_ho1 := cell_of_row _ _ 2 _ _ _ ho1
      have r3_ho1 := cell_of_row _ _ 3 _ _ _ ho1
      have r4_ho1 := cell_of_row _ _ 4 _ _ _ ho1
      have r5_ho1 := cell_of_row _ _ 5 _ _ _ ho1
      have f0_ho1 := frozen_of_row _ _ 0 _ _ ho1
      have f1_ho1 := frozen_of_row _ _ 1 _ _ ho1
      have f2_ho1 := frozen_of_row _ _ 2 _ _ ho1
      have f3_ho1 := frozen_of_row _ _ 3 _ _ ho1
      have f4_ho1 := frozen_of_row _ _ 4 _ _ ho1
      have f5_ho1 := frozen_of_row _ _ 5 _ _ ho1
      simp at r0_ho1 r1_ho1 r2_ho1 r3_ho1 r4_ho1 r5_ho1
      clear hc1 hf1
      go_wp2_with fail
      refine (sSenderOk_any _ _ _ _ _ _ hd _).mono ?_
      rintro e w2 ⟨rfl, hb2⟩
      obtain ⟨hc2, hf2⟩ := bcell hb2
      have hz2 := hb2.size
      (try simp at hz2)
      have hy2_0 : w.heap.size < w2.heap.size := by omega
      have hy2_1 : w.heap.size + 1 < w2.heap.size := by omega
      have hy2_2 : w.heap.size + 2 < w2.heap.size := by omega
      have hy2_3 : w.heap.size + 3 < w2.heap.size := by omega
      have hs2 := (hb2.block (w.heap.size) (by omega)).trans hs1
      have hk2 := (hb2.block (w.heap.size + 1) (by omega)).trans hk1
      have hr2 := (hb2.block (w.heap.size + 1 + 1) (by omega)).trans hr1
      have ho2 := (hb2.block (w.heap.size + 1 + 1 + 1) (by omega)).trans ho1
      have r0_hs2 := cell_of_row _ _ 0 _ _ _ hs2
      have r1_hs2 := cell_of_row _ _ 1 _ _ _ hs2
      have r2_hs2 := cell_of_row _ _ 2 _ _ _ hs2
      have r3_hs2 := cell_of_row _ _ 3 _ _ _ hs2
      have r4_hs2 := cell_of_row _ _ 4 _ _ _ hs2
      have r5_hs2 := cell_of_row _ _ 5 _ _ _ hs2
      have f0_hs2 := frozen_of_row _ _ 0 _ _ hs2
      have f1_hs2 := frozen_of_row _ _ 1 _ _ hs2
      have f2_hs2 := frozen_of_row _ _ 2 _ _ hs2
      have f3_hs2 := frozen_of_row _ _ 3 _ _ hs2
      have f4_hs2 := frozen_of_row _ _ 4 _ _ hs2
      have f5_hs2 := frozen_of_row _ _ 5 _ _ hs2
      simp at r0_hs2 r1_hs2 r2_hs2 r3_hs2 r4_hs2 r5_hs2
      have r0_hk2 := cell_of_row _ _ 0 _ _ _ hk2
      have r1_hk2 := cell_of_row _ _ 1 _ _ _ hk2
      have r2_hk2 := cell_of_row _ _ 2 _ _ _ hk2
      have f0_hk2 := frozen_of_row _ _ 0 _ _ hk2
      have f1_hk2 := frozen_of_row _ _ 1 _ _ hk2
      have f2_hk2 := frozen_of_row _ _ 2 _ _ hk2
      simp at r0_hk2 r1_hk2 r2_hk2
      have r0_hr2 := cell_of_row _ _ 0 _ _ _ hr2
      have r1_hr2 := cell_of_row _ _ 1 _ _ _ hr2
      have r2_hr2 := cell_of_row _ _ 2 _ _ _ hr2
      have r3_hr2 := cell_of_row _ _ 3 _ _ _ hr2
      have r4_hr2 := cell_of_row _ _ 4 _ _ _ hr2
      have r5_hr2 := cell_of_row _ _ 5 _ _ _ hr2
      have f0_hr2 := frozen_of_row _ _ 0 _ _ hr2
      have f1_hr2 := frozen_of_row _ _ 1 _ _ hr2
      have f2_hr2 := frozen_of_row _ _ 2 _ _ hr2
      have f3_hr2 := frozen_of_row _ _ 3 _ _ hr2
      have f4_hr2 := frozen_of_row _ _ 4 _ _ hr2
      have f5_hr2 := frozen_of_row _ _ 5 _ _ hr2
      simp at r0_hr2 r1_hr2 r2_hr2 r3_hr2 r4_hr2 r5_hr2
      have r0_ho2 := cell_of_row _ _ 0 _ _ _ ho2
      have r1_ho2 := cell_of_row _ _ 1 _ _ _ ho2
      have r2_ho2 := cell_of_row _ _ 2 _ _ _ ho2
      have r3_ho2 := cell_of_row _ _ 3 _ _ _ ho2
      have r4_ho2 := cell_of_row _ _ 4 _ _ _ ho2
      have r5_ho2 := cell_of_row _ _ 5 _ _ _ ho2
      have f0_ho2 := frozen_of_row _ _ 0 _ _ ho2
      have f1_ho2 := frozen_of_row _ _ 1 _ _ ho2
      have f2_ho2 := frozen_of_row _ _ 2 _ _ ho2
      have f3_ho2 := frozen_of_row _ _ 3 _ _ ho2
      have f4_ho2 := frozen_of_row _ _ 4 _ _ ho2
      have f5_ho2 := frozen_of_row _ _ 5 _ _ ho2
      simp at r0_ho2 r1_ho2 r2_ho2 r3_ho2 r4_ho2 r5_ho2
      clear hc2 hf2
      go_wp2_with fail
      apply bodyPost_ret (results_cell_row (P := Try.prog) (fn := Try.f26) rfl _ _ _ 26 _ (0, 0) _ rfl _ Try.underlying26 rfl _) rfl
      rotate_left 2
      · repeat (first | (with_reducible apply heap_setCell_same) | (with_reducible apply drew_row) | (with_reducible apply drewN_row) | (with_reducible exact hr2) | (with_reducible refine (heap_setCell_other _ _ _ _ (by first | omega | (simp; done) | (simp; omega))).trans ?_) | (with_reducible refine (Below.heap_alloc _ _ _ (by first | omega | (simp; done) | (simp; omega))).trans ?_))
      · kernel_rfl
      exact ⟨by simp, (by repeat (first | with_reducible exact Below.refl _ _ | with_reducible assumption | with_reducible refine Below.drew ?_ | with_reducible refine Below.alloc ?_ (by first | exact Nat.le_refl _ | omega | (simp; done) | (simp; omega)) _ | with_reducible refine Below.setCell ?_ (by first | exact Nat.le_refl _ | omega | (simp; done) | (simp; omega)) _ | (with_reducible refine ext_trans ?_ (by with_reducible assumption))))⟩
  · simp only [Bool.true_and, Bool.or_eq_false_iff, Bool.not_eq_false'] at h3
    obtain ⟨rfl, rfl⟩ := h3
    cases fs
    · simp only [Bool.or_true] at h2 ⊢
      go_enter Try.func26, Try.ntmps26
      go_wp2_with fail
      refine (sSenderOk_any _ _ _ _ _ _ hd _).mono ?_
      rintro e w1 ⟨rfl, hb1⟩
      obtain ⟨hc1, hf1⟩ := bcell hb1
      have hz1 := hb1.size
      (try simp at hz1)
      have hy1_0 : w.heap.size < w1.heap.size := by omega
      have hy1_1 : w.heap.size + 1 < w1.heap.size := by omega
      have hy1_2 : w.heap.size + 2 < w1.heap.size := by omega
      have hy1_3 : w.heap.size + 3 < w1.heap.size := by omega
      have hs1 : w1.heap[w.heap.size]? = some (.cells #[.int .i64 u, .string d, .int .i64 s, .bool true, .bool false, .bool false] 26 (0, 0)) := (hb1.block _ (by first | (simp; done) | (simp; omega))).trans (by repeat (first | exact heap_new _ _ _ (by first | rfl | (simp; done) | (simp; omega)) | refine (Below.heap_alloc _ _ _ (by first | omega | (simp; done) | (simp; omega))).trans ?_))
      have hk1 : w1.heap[w.heap.size + 1]? = some (.cells #[.int .i64 q, .string x, .bool true] 39 (0, 0)) := (hb1.block _ (by first | (simp; done) | (simp; omega))).trans (by repeat (first | exact heap_new _ _ _ (by first | rfl | (simp; done) | (simp; omega)) | refine (Below.heap_alloc _ _ _ (by first | omega | (simp; done) | (simp; omega))).trans ?_))
      have hr1 : w1.heap[w.heap.size + 1 + 1]? = some (.cells #[.int .i64 0, .string ⟨#[]⟩, .int .i64 0, .bool false, .bool false, .bool false] 26 (0, 0)) := (hb1.block _ (by first | (simp; done) | (simp; omega))).trans (by repeat (first | exact heap_new _ _ _ (by first | rfl | (simp; done) | (simp; omega)) | refine (Below.heap_alloc _ _ _ (by first | omega | (simp; done) | (simp; omega))).trans ?_))
      have ho1 : w1.heap[w.heap.size + 1 + 1 + 1]? = some (.cells #[.int .i64 u, .string d, .int .i64 (wrap64 (s + x.size)), .bool true, .bool true, .bool false] 26 (0, 0)) := (hb1.block _ (by first | (simp; done) | (simp; omega))).trans (by repeat (first | exact heap_new _ _ _ (by first | rfl | (simp; done) | (simp; omega)) | refine (Below.heap_alloc _ _ _ (by first | omega | (simp; done) | (simp; omega))).trans ?_))
      have r0_hs1 := cell_of_row _ _ 0 _ _ _ hs1
      have r1_hs1 := cell_of_row _ _ 1 _ _ _ hs1
      have r2_hs1 := cell_of_row _ _ 2 _ _ _ hs1
      have r3_hs1 := cell_of_row _ _ 3 _ _ _ hs1
      have r4_hs1 := cell_of_row _ _ 4 _ _ _ hs1
      have r5_hs1 := cell_of_row _ _ 5 _ _ _ hs1
      have f0_hs1 := frozen_of_row _ _ 0 _ _ hs1
      have f1_hs1 := frozen_of_row _ _ 1 _ _ hs1
      have f2_hs1 := frozen_of_row _ _ 2 _ _ hs1
      have f3_hs1 := frozen_of_row _ _ 3 _ _ hs1
      have f4_hs1 := frozen_of_row _ _ 4 _ _ hs1
      have f5_hs1 := frozen_of_row _ _ 5 _ _ hs1
      simp at r0_hs1 r1_hs1 r2_hs1 r3_hs1 r4_hs1 r5_hs1
      have r0_hk1 := cell_of_row _ _ 0 _ _ _ hk1
      have r1_hk1 := cell_of_row _ _ 1 _ _ _ hk1
      have r2_hk1 := cell_of_row _ _ 2 _ _ _ hk1
      have f0_hk1 := frozen_of_row _ _ 0 _ _ hk1
      have f1_hk1 := frozen_of_row _ _ 1 _ _ hk1
      have f2_hk1 := frozen_of_row _ _ 2 _ _ hk1
      simp at r0_hk1 r1_hk1 r2_hk1
      have r0_hr1 := cell_of_row _ _ 0 _ _ _ hr1
      have r1_hr1 := cell_of_row _ _ 1 _ _ _ hr1
      have r2_hr1 := cell_of_row _ _ 2 _ _ _ hr1
      have r3_hr1 := cell_of_row _ _ 3 _ _ _ hr1
      have r4_hr1 := cell_of_row _ _ 4 _ _ _ hr1
      have r5_hr1 := cell_of_row _ _ 5 _ _ _ hr1
      have f0_hr1 := frozen_of_row _ _ 0 _ _ hr1
      have f1_hr1 := frozen_of_row _ _ 1 _ _ hr1
      have f2_hr1 := frozen_of_row _ _ 2 _ _ hr1
      have f3_hr1 := frozen_of_row _ _ 3 _ _ hr1
      have f4_hr1 := frozen_of_row _ _ 4 _ _ hr1
      have f5_hr1 := frozen_of_row _ _ 5 _ _ hr1
      simp at r0_hr1 r1_hr1 r2_hr1 r3_hr1 r4_hr1 r5_hr1
      have r0_ho1 := cell_of_row _ _ 0 _ _ _ ho1
      have r1_ho1 := cell_of_row _ _ 1 _ _ _ ho1
      have r2_ho1 := cell_of_row _ _ 2 _ _ _ ho1
      have r3_ho1 := cell_of_row _ _ 3 _ _ _ ho1
      have r4_ho1 := cell_of_row _ _ 4 _ _ _ ho1
      have r5_ho1 := cell_of_row _ _ 5 _ _ _ ho1
      have f0_ho1 := frozen_of_row _ _ 0 _ _ ho1
      have f1_ho1 := frozen_of_row _ _ 1 _ _ ho1
      have f2_ho1 := frozen_of_row _ _ 2 _ _ ho1
      have f3_ho1 := frozen_of_row _ _ 3 _ _ ho1
      have f4_ho1 := frozen_of_row _ _ 4 _ _ ho1
      have f5_ho1 := frozen_of_row _ _ 5 _ _ ho1
      simp at r0_ho1 r1_ho1 r2_ho1 r3_ho1 r4_ho1 r5_ho1
      clear hc1 hf1
      go_wp2_with fail
      refine (sSenderOk_any _ _ _ _ _ _ hd _).mono ?_
      rintro e w2 ⟨rfl, hb2⟩
      obtain ⟨hc2, hf2⟩ := bcell hb2
      have hz2 := hb2.size
      (try simp at hz2)
      have hy2_0 : w.heap.size < w2.heap.size := by omega
      have hy2_1 : w.heap.size + 1 < w2.heap.size := by omega
      have hy2_2 : w.heap.size + 2 < w2.heap.size := by omega
      have hy2_3 : w.heap.size + 3 < w2.heap.size := by omega
      have hs2 := (hb2.block (w.heap.size) (by omega)).trans hs1
      have hk2 := (hb2.block (w.heap.size + 1) (by omega)).trans hk1
      have hr2 := (hb2.block (w.heap.size + 1 + 1) (by omega)).trans hr1
      have ho2 := (hb2.block (w.heap.size + 1 + 1 + 1) (by omega)).trans ho1
      have r0_hs2 := cell_of_row _ _ 0 _ _ _ hs2
      have r1_hs2 := cell_of_row _ _ 1 _ _ _ hs2
      have r2_hs2 := cell_of_row _ _ 2 _ _ _ hs2
      have r3_hs2 := cell_of_row _ _ 3 _ _ _ hs2
      have r4_hs2 := cell_of_row _ _ 4 _ _ _ hs2
      have r5_hs2 := cell_of_row _ _ 5 _ _ _ hs2
      have f0_hs2 := frozen_of_row _ _ 0 _ _ hs2
      have f1_hs2 := frozen_of_row _ _ 1 _ _ hs2
      have f2_hs2 := frozen_of_row _ _ 2 _ _ hs2
      have f3_hs2 := frozen_of_row _ _ 3 _ _ hs2
      have f4_hs2 := frozen_of_row _ _ 4 _ _ hs2
      have f5_hs2 := frozen_of_row _ _ 5 _ _ hs2
      simp at r0_hs2 r1_hs2 r2_hs2 r3_hs2 r4_hs2 r5_hs2
      have r0_hk2 := cell_of_row _ _ 0 _ _ _ hk2
      have r1_hk2 := cell_of_row _ _ 1 _ _ _ hk2
      have r2_hk2 := cell_of_row _ _ 2 _ _ _ hk2
      have f0_hk2 := frozen_of_row _ _ 0 _ _ hk2
      have f1_hk2 := frozen_of_row _ _ 1 _ _ hk2
      have f2_hk2 := frozen_of_row _ _ 2 _ _ hk2
      simp at r0_hk2 r1_hk2 r2_hk2
      have r0_hr2 := cell_of_row _ _ 0 _ _ _ hr2
      have r1_hr2 := cell_of_row _ _ 1 _ _ _ hr2
      have r2_hr2 := cell_of_row _ _ 2 _ _ _ hr2
      have r3_hr2 := cell_of_row _ _ 3 _ _ _ hr2
      have r4_hr2 := cell_of_row _ _ 4 _ _ _ hr2
      have r5_hr2 := cell_of_row _ _ 5 _ _ _ hr2
      have f0_hr2 := frozen_of_row _ _ 0 _ _ hr2
      have f1_hr2 := frozen_of_row _ _ 1 _ _ hr2
      have f2_hr2 := frozen_of_row _ _ 2 _ _ hr2
      have f3_hr2 := frozen_of_row _ _ 3 _ _ hr2
      have f4_hr2 := frozen_of_row _ _ 4 _ _ hr2
      have f5_hr2 := frozen_of_row _ _ 5 _ _ hr2
      simp at r0_hr2 r1_hr2 r2_hr2 r3_hr2 r4_hr2 r5_hr2
      have r0_ho2 := cell_of_row _ _ 0 _ _ _ ho2
      have r1_ho2 := cell_of_row _ _ 1 _ _ _ ho2
      have r2_ho2 := cell_of_row _ _ 2 _ _ _ ho2
      have r3_ho2 := cell_of_row _ _ 3 _ _ _ ho2
      have r4_ho2 := cell_of_row _ _ 4 _ _ _ ho2
      have r5_ho2 := cell_of_row _ _ 5 _ _ _ ho2
      have f0_ho2 := frozen_of_row _ _ 0 _ _ ho2
      have f1_ho2 := frozen_of_row _ _ 1 _ _ ho2
      have f2_ho2 := frozen_of_row _ _ 2 _ _ ho2
      have f3_ho2 := frozen_of_row _ _ 3 _ _ ho2
      have f4_ho2 := frozen_of_row _ _ 4 _ _ ho2
      have f5_ho2 := frozen_of_row _ _ 5 _ _ ho2
      simp at r0_ho2 r1_ho2 r2_ho2 r3_ho2 r4_ho2 r5_ho2
      clear hc2 hf2
      go_wp2_with fail
      apply bodyPost_ret (results_cell_row (P := Try.prog) (fn := Try.f26) rfl _ _ _ 26 _ (0, 0) _ rfl _ Try.underlying26 rfl _) rfl
      rotate_left 2
      · repeat (first | (with_reducible apply heap_setCell_same) | (with_reducible apply drew_row) | (with_reducible apply drewN_row) | (with_reducible exact hr2) | (with_reducible refine (heap_setCell_other _ _ _ _ (by first | omega | (simp; done) | (simp; omega))).trans ?_) | (with_reducible refine (Below.heap_alloc _ _ _ (by first | omega | (simp; done) | (simp; omega))).trans ?_))
      · kernel_rfl
      exact ⟨by simp, (by repeat (first | with_reducible exact Below.refl _ _ | with_reducible assumption | with_reducible refine Below.drew ?_ | with_reducible refine Below.alloc ?_ (by first | exact Nat.le_refl _ | omega | (simp; done) | (simp; omega)) _ | with_reducible refine Below.setCell ?_ (by first | exact Nat.le_refl _ | omega | (simp; done) | (simp; omega)) _ | (with_reducible refine ext_trans ?_ (by with_reducible assumption))))⟩
    · simp only [Bool.or_true] at h2 ⊢
      go_enter Try.func26, Try.ntmps26
      go_wp2_with fail
      refine (sSenderOk_any _ _ _ _ _ _ hd _).mono ?_
      rintro e w1 ⟨rfl, hb1⟩
      obtain ⟨hc1, hf1⟩ := bcell hb1
      have hz1 := hb1.size
      (try simp at hz1)
      have hy1_0 : w.heap.size < w1.heap.size := by omega
      have hy1_1 : w.heap.size + 1 < w1.heap.size := by omega
      have hy1_2 : w.heap.size + 2 < w1.heap.size := by omega
      have hy1_3 : w.heap.size + 3 < w1.heap.size := by omega
      have hs1 : w1.heap[w.heap.size]? = some (.cells #[.int .i64 u, .string d, .int .i64 s, .bool true, .bool true, .bool false] 26 (0, 0)) := (hb1.block _ (by first | (simp; done) | (simp; omega))).trans (by repeat (first | exact heap_new _ _ _ (by first | rfl | (simp; done) | (simp; omega)) | refine (Below.heap_alloc _ _ _ (by first | omega | (simp; done) | (simp; omega))).trans ?_))
      have hk1 : w1.heap[w.heap.size + 1]? = some (.cells #[.int .i64 q, .string x, .bool true] 39 (0, 0)) := (hb1.block _ (by first | (simp; done) | (simp; omega))).trans (by repeat (first | exact heap_new _ _ _ (by first | rfl | (simp; done) | (simp; omega)) | refine (Below.heap_alloc _ _ _ (by first | omega | (simp; done) | (simp; omega))).trans ?_))
      have hr1 : w1.heap[w.heap.size + 1 + 1]? = some (.cells #[.int .i64 0, .string ⟨#[]⟩, .int .i64 0, .bool false, .bool false, .bool false] 26 (0, 0)) := (hb1.block _ (by first | (simp; done) | (simp; omega))).trans (by repeat (first | exact heap_new _ _ _ (by first | rfl | (simp; done) | (simp; omega)) | refine (Below.heap_alloc _ _ _ (by first | omega | (simp; done) | (simp; omega))).trans ?_))
      have ho1 : w1.heap[w.heap.size + 1 + 1 + 1]? = some (.cells #[.int .i64 u, .string d, .int .i64 (wrap64 (s + x.size)), .bool true, .bool true, .bool false] 26 (0, 0)) := (hb1.block _ (by first | (simp; done) | (simp; omega))).trans (by repeat (first | exact heap_new _ _ _ (by first | rfl | (simp; done) | (simp; omega)) | refine (Below.heap_alloc _ _ _ (by first | omega | (simp; done) | (simp; omega))).trans ?_))
      have r0_hs1 := cell_of_row _ _ 0 _ _ _ hs1
      have r1_hs1 := cell_of_row _ _ 1 _ _ _ hs1
      have r2_hs1 := cell_of_row _ _ 2 _ _ _ hs1
      have r3_hs1 := cell_of_row _ _ 3 _ _ _ hs1
      have r4_hs1 := cell_of_row _ _ 4 _ _ _ hs1
      have r5_hs1 := cell_of_row _ _ 5 _ _ _ hs1
      have f0_hs1 := frozen_of_row _ _ 0 _ _ hs1
      have f1_hs1 := frozen_of_row _ _ 1 _ _ hs1
      have f2_hs1 := frozen_of_row _ _ 2 _ _ hs1
      have f3_hs1 := frozen_of_row _ _ 3 _ _ hs1
      have f4_hs1 := frozen_of_row _ _ 4 _ _ hs1
      have f5_hs1 := frozen_of_row _ _ 5 _ _ hs1
      simp at r0_hs1 r1_hs1 r2_hs1 r3_hs1 r4_hs1 r5_hs1
      have r0_hk1 := cell_of_row _ _ 0 _ _ _ hk1
      have r1_hk1 := cell_of_row _ _ 1 _ _ _ hk1
      have r2_hk1 := cell_of_row _ _ 2 _ _ _ hk1
      have f0_hk1 := frozen_of_row _ _ 0 _ _ hk1
      have f1_hk1 := frozen_of_row _ _ 1 _ _ hk1
      have f2_hk1 := frozen_of_row _ _ 2 _ _ hk1
      simp at r0_hk1 r1_hk1 r2_hk1
      have r0_hr1 := cell_of_row _ _ 0 _ _ _ hr1
      have r1_hr1 := cell_of_row _ _ 1 _ _ _ hr1
      have r2_hr1 := cell_of_row _ _ 2 _ _ _ hr1
      have r3_hr1 := cell_of_row _ _ 3 _ _ _ hr1
      have r4_hr1 := cell_of_row _ _ 4 _ _ _ hr1
      have r5_hr1 := cell_of_row _ _ 5 _ _ _ hr1
      have f0_hr1 := frozen_of_row _ _ 0 _ _ hr1
      have f1_hr1 := frozen_of_row _ _ 1 _ _ hr1
      have f2_hr1 := frozen_of_row _ _ 2 _ _ hr1
      have f3_hr1 := frozen_of_row _ _ 3 _ _ hr1
      have f4_hr1 := frozen_of_row _ _ 4 _ _ hr1
      have f5_hr1 := frozen_of_row _ _ 5 _ _ hr1
      simp at r0_hr1 r1_hr1 r2_hr1 r3_hr1 r4_hr1 r5_hr1
      have r0_ho1 := cell_of_row _ _ 0 _ _ _ ho1
      have r1_ho1 := cell_of_row _ _ 1 _ _ _ ho1
      have r2_ho1 := cell_of_row _ _ 2 _ _ _ ho1
      have r3_ho1 := cell_of_row _ _ 3 _ _ _ ho1
      have r4_ho1 := cell_of_row _ _ 4 _ _ _ ho1
      have r5_ho1 := cell_of_row _ _ 5 _ _ _ ho1
      have f0_ho1 := frozen_of_row _ _ 0 _ _ ho1
      have f1_ho1 := frozen_of_row _ _ 1 _ _ ho1
      have f2_ho1 := frozen_of_row _ _ 2 _ _ ho1
      have f3_ho1 := frozen_of_row _ _ 3 _ _ ho1
      have f4_ho1 := frozen_of_row _ _ 4 _ _ ho1
      have f5_ho1 := frozen_of_row _ _ 5 _ _ ho1
      simp at r0_ho1 r1_ho1 r2_ho1 r3_ho1 r4_ho1 r5_ho1
      clear hc1 hf1
      go_wp2_with fail
      refine (sSenderOk_any _ _ _ _ _ _ hd _).mono ?_
      rintro e w2 ⟨rfl, hb2⟩
      obtain ⟨hc2, hf2⟩ := bcell hb2
      have hz2 := hb2.size
      (try simp at hz2)
      have hy2_0 : w.heap.size < w2.heap.size := by omega
      have hy2_1 : w.heap.size + 1 < w2.heap.size := by omega
      have hy2_2 : w.heap.size + 2 < w2.heap.size := by omega
      have hy2_3 : w.heap.size + 3 < w2.heap.size := by omega
      have hs2 := (hb2.block (w.heap.size) (by omega)).trans hs1
      have hk2 := (hb2.block (w.heap.size + 1) (by omega)).trans hk1
      have hr2 := (hb2.block (w.heap.size + 1 + 1) (by omega)).trans hr1
      have ho2 := (hb2.block (w.heap.size + 1 + 1 + 1) (by omega)).trans ho1
      have r0_hs2 := cell_of_row _ _ 0 _ _ _ hs2
      have r1_hs2 := cell_of_row _ _ 1 _ _ _ hs2
      have r2_hs2 := cell_of_row _ _ 2 _ _ _ hs2
      have r3_hs2 := cell_of_row _ _ 3 _ _ _ hs2
      have r4_hs2 := cell_of_row _ _ 4 _ _ _ hs2
      have r5_hs2 := cell_of_row _ _ 5 _ _ _ hs2
      have f0_hs2 := frozen_of_row _ _ 0 _ _ hs2
      have f1_hs2 := frozen_of_row _ _ 1 _ _ hs2
      have f2_hs2 := frozen_of_row _ _ 2 _ _ hs2
      have f3_hs2 := frozen_of_row _ _ 3 _ _ hs2
      have f4_hs2 := frozen_of_row _ _ 4 _ _ hs2
      have f5_hs2 := frozen_of_row _ _ 5 _ _ hs2
      simp at r0_hs2 r1_hs2 r2_hs2 r3_hs2 r4_hs2 r5_hs2
      have r0_hk2 := cell_of_row _ _ 0 _ _ _ hk2
      have r1_hk2 := cell_of_row _ _ 1 _ _ _ hk2
      have r2_hk2 := cell_of_row _ _ 2 _ _ _ hk2
      have f0_hk2 := frozen_of_row _ _ 0 _ _ hk2
      have f1_hk2 := frozen_of_row _ _ 1 _ _ hk2
      have f2_hk2 := frozen_of_row _ _ 2 _ _ hk2
      simp at r0_hk2 r1_hk2 r2_hk2
      have r0_hr2 := cell_of_row _ _ 0 _ _ _ hr2
      have r1_hr2 := cell_of_row _ _ 1 _ _ _ hr2
      have r2_hr2 := cell_of_row _ _ 2 _ _ _ hr2
      have r3_hr2 := cell_of_row _ _ 3 _ _ _ hr2
      have r4_hr2 := cell_of_row _ _ 4 _ _ _ hr2
      have r5_hr2 := cell_of_row _ _ 5 _ _ _ hr2
      have f0_hr2 := frozen_of_row _ _ 0 _ _ hr2
      have f1_hr2 := frozen_of_row _ _ 1 _ _ hr2
      have f2_hr2 := frozen_of_row _ _ 2 _ _ hr2
      have f3_hr2 := frozen_of_row _ _ 3 _ _ hr2
      have f4_hr2 := frozen_of_row _ _ 4 _ _ hr2
      have f5_hr2 := frozen_of_row _ _ 5 _ _ hr2
      simp at r0_hr2 r1_hr2 r2_hr2 r3_hr2 r4_hr2 r5_hr2
      have r0_ho2 := cell_of_row _ _ 0 _ _ _ ho2
      have r1_ho2 := cell_of_row _ _ 1 _ _ _ ho2
      have r2_ho2 := cell_of_row _ _ 2 _ _ _ ho2
      have r3_ho2 := cell_of_row _ _ 3 _ _ _ ho2
      have r4_ho2 := cell_of_row _ _ 4 _ _ _ ho2
      have r5_ho2 := cell_of_row _ _ 5 _ _ _ ho2
      have f0_ho2 := frozen_of_row _ _ 0 _ _ ho2
      have f1_ho2 := frozen_of_row _ _ 1 _ _ ho2
      have f2_ho2 := frozen_of_row _ _ 2 _ _ ho2
      have f3_ho2 := frozen_of_row _ _ 3 _ _ ho2
      have f4_ho2 := frozen_of_row _ _ 4 _ _ ho2
      have f5_ho2 := frozen_of_row _ _ 5 _ _ ho2
      simp at r0_ho2 r1_ho2 r2_ho2 r3_ho2 r4_ho2 r5_ho2
      clear hc2 hf2
      go_wp2_with fail
      apply bodyPost_ret (results_cell_row (P := Try.prog) (fn := Try.f26) rfl _ _ _ 26 _ (0, 0) _ rfl _ Try.underlying26 rfl _) rfl
      rotate_left 2
      · repeat (first | (with_reducible apply heap_setCell_same) | (with_reducible apply drew_row) | (with_reducible apply drewN_row) | (with_reducible exact hr2) | (with_reducible refine (heap_setCell_other _ _ _ _ (by first | omega | (simp; done) | (simp; omega))).trans ?_) | (with_reducible refine (Below.heap_alloc _ _ _ (by first | omega | (simp; done) | (simp; omega))).trans ?_))
      · kernel_rfl
      exact ⟨by simp, (by repeat (first | with_reducible exact Below.refl _ _ | with_reducible assumption | with_reducible refine Below.drew ?_ | with_reducible refine Below.alloc ?_ (by first | exact Nat.le_refl _ | omega | (simp; done) | (simp; omega)) _ | with_reducible refine Below.setCell ?_ (by first | exact Nat.le_refl _ | omega | (simp; done) | (simp; omega)) _ | (with_reducible refine ext_trans ?_ (by with_reducible assumption))))⟩

theorem sSentOff_no1 (u : Int) (d : ByteArray) (s : Int) (f fs dn : Bool) (q : Int) (x : ByteArray) (cf : Bool) (hd : d.size ≤ maxLen) (_hx : x.size ≤ maxLen) (h1 : sndB u d s f fs dn = false) (w : World) :
    Calls Try.prog 26 #[.agg #[.int .i64 u, .string d, .int .i64 s, .bool f, .bool fs, .bool dn], .agg #[.int .i64 q, .string x, .bool cf]] w fun e w' => e = .returned (.agg #[.int .i64 u, .string d, .int .i64 s, .bool f, .bool fs, .bool dn]) ∧ Below w.heap.size w w' := by
  cases fs
  · cases cf
    · go_enter Try.func26, Try.ntmps26
      go_wp2_with fail
      refine (sSenderOk_any _ _ _ _ _ _ hd _).mono ?_
      rintro e w1 ⟨rfl, hb1⟩
      obtain ⟨hc1, hf1⟩ := bcell hb1
      have hz1 := hb1.size
      (try simp at hz1)
      have hy1_0 : w.heap.size < w1.heap.size := by omega
      have hy1_1 : w.heap.size + 1 < w1.heap.size := by omega
      have hy1_2 : w.heap.size + 2 < w1.heap.size := by omega
      have hy1_3 : w.heap.size + 3 < w1.heap.size := by omega
      have hs1 : w1.heap[w.heap.size]? = some (.cells #[.int .i64 u, .string d, .int .i64 s, .bool f, .bool false, .bool dn] 26 (0, 0)) := (hb1.block _ (by first | (simp; done) | (simp; omega))).trans (by repeat (first | exact heap_new _ _ _ (by first | rfl | (simp; done) | (simp; omega)) | refine (Below.heap_alloc _ _ _ (by first | omega | (simp; done) | (simp; omega))).trans ?_))
      have hk1 : w1.heap[w.heap.size + 1]? = some (.cells #[.int .i64 q, .string x, .bool false] 39 (0, 0)) := (hb1.block _ (by first | (simp; done) | (simp; omega))).trans (by repeat (first | exact heap_new _ _ _ (by first | rfl | (simp; done) | (simp; omega)) | refine (Below.heap_alloc _ _ _ (by first | omega | (simp; done) | (simp; omega))).trans ?_))
      have hr1 : w1.heap[w.heap.size + 1 + 1]? = some (.cells #[.int .i64 0, .string ⟨#[]⟩, .int .i64 0, .bool false, .bool false, .bool false] 26 (0, 0)) := (hb1.block _ (by first | (simp; done) | (simp; omega))).trans (by repeat (first | exact heap_new _ _ _ (by first | rfl | (simp; done) | (simp; omega)) | refine (Below.heap_alloc _ _ _ (by first | omega | (simp; done) | (simp; omega))).trans ?_))
      have ho1 : w1.heap[w.heap.size + 1 + 1 + 1]? = some (.cells #[.int .i64 u, .string d, .int .i64 (wrap64 (s + x.size)), .bool f, .bool false, .bool dn] 26 (0, 0)) := (hb1.block _ (by first | (simp; done) | (simp; omega))).trans (by repeat (first | exact heap_new _ _ _ (by first | rfl | (simp; done) | (simp; omega)) | refine (Below.heap_alloc _ _ _ (by first | omega | (simp; done) | (simp; omega))).trans ?_))
      have r0_hs1 := cell_of_row _ _ 0 _ _ _ hs1
      have r1_hs1 := cell_of_row _ _ 1 _ _ _ hs1
      have r2_hs1 := cell_of_row _ _ 2 _ _ _ hs1
      have r3_hs1 := cell_of_row _ _ 3 _ _ _ hs1
      have r4_hs1 := cell_of_row _ _ 4 _ _ _ hs1
      have r5_hs1 := cell_of_row _ _ 5 _ _ _ hs1
      have f0_hs1 := frozen_of_row _ _ 0 _ _ hs1
      have f1_hs1 := frozen_of_row _ _ 1 _ _ hs1
      have f2_hs1 := frozen_of_row _ _ 2 _ _ hs1
      have f3_hs1 := frozen_of_row _ _ 3 _ _ hs1
      have f4_hs1 := frozen_of_row _ _ 4 _ _ hs1
      have f5_hs1 := frozen_of_row _ _ 5 _ _ hs1
      simp at r0_hs1 r1_hs1 r2_hs1 r3_hs1 r4_hs1 r5_hs1
      have r0_hk1 := cell_of_row _ _ 0 _ _ _ hk1
      have r1_hk1 := cell_of_row _ _ 1 _ _ _ hk1
      have r2_hk1 := cell_of_row _ _ 2 _ _ _ hk1
      have f0_hk1 := frozen_of_row _ _ 0 _ _ hk1
      have f1_hk1 := frozen_of_row _ _ 1 _ _ hk1
      have f2_hk1 := frozen_of_row _ _ 2 _ _ hk1
      simp at r0_hk1 r1_hk1 r2_hk1
      have r0_hr1 := cell_of_row _ _ 0 _ _ _ hr1
      have r1_hr1 := cell_of_row _ _ 1 _ _ _ hr1
      have r2_hr1 := cell_of_row _ _ 2 _ _ _ hr1
      have r3_hr1 := cell_of_row _ _ 3 _ _ _ hr1
      have r4_hr1 := cell_of_row _ _ 4 _ _ _ hr1
      have r5_hr1 := cell_of_row _ _ 5 _ _ _ hr1
      have f0_hr1 := frozen_of_row _ _ 0 _ _ hr1
      have f1_hr1 := frozen_of_row _ _ 1 _ _ hr1
      have f2_hr1 := frozen_of_row _ _ 2 _ _ hr1
      have f3_hr1 := frozen_of_row _ _ 3 _ _ hr1
      have f4_hr1 := frozen_of_row _ _ 4 _ _ hr1
      have f5_hr1 := frozen_of_row _ _ 5 _ _ hr1
      simp at r0_hr1 r1_hr1 r2_hr1 r3_hr1 r4_hr1 r5_hr1
      have r0_ho1 := cell_of_row _ _ 0 _ _ _ ho1
      have r1_ho1 := cell_of_row _ _ 1 _ _ _ ho1
      have r2_ho1 := cell_of_row _ _ 2 _ _ _ ho1
      have r3_ho1 := cell_of_row _ _ 3 _ _ _ ho1
      have r4_ho1 := cell_of_row _ _ 4 _ _ _ ho1
      have r5_ho1 := cell_of_row _ _ 5 _ _ _ ho1
      have f0_ho1 := frozen_of_row _ _ 0 _ _ ho1
      have f1_ho1 := frozen_of_row _ _ 1 _ _ ho1
      have f2_ho1 := frozen_of_row _ _ 2 _ _ ho1
      have f3_ho1 := frozen_of_row _ _ 3 _ _ ho1
      have f4_ho1 := frozen_of_row _ _ 4 _ _ ho1
      have f5_ho1 := frozen_of_row _ _ 5 _ _ ho1
      simp at r0_ho1 r1_ho1 r2_ho1 r3_ho1 r4_ho1 r5_ho1
      clear hc1 hf1
      go_wp2_with fail
      apply bodyPost_ret (results_cell_row (P := Try.prog) (fn := Try.f26) rfl _ _ _ 26 _ (0, 0) _ rfl _ Try.underlying26 rfl _) rfl
      rotate_left 2
      · repeat (first | (with_reducible apply heap_setCell_same) | (with_reducible apply drew_row) | (with_reducible apply drewN_row) | (with_reducible exact hr1) | (with_reducible refine (heap_setCell_other _ _ _ _ (by first | omega | (simp; done) | (simp; omega))).trans ?_) | (with_reducible refine (Below.heap_alloc _ _ _ (by first | omega | (simp; done) | (simp; omega))).trans ?_))
      · kernel_rfl
      exact ⟨by simp, (by repeat (first | with_reducible exact Below.refl _ _ | with_reducible assumption | with_reducible refine Below.drew ?_ | with_reducible refine Below.alloc ?_ (by first | exact Nat.le_refl _ | omega | (simp; done) | (simp; omega)) _ | with_reducible refine Below.setCell ?_ (by first | exact Nat.le_refl _ | omega | (simp; done) | (simp; omega)) _ | (with_reducible refine ext_trans ?_ (by with_reducible assumption))))⟩
    · go_enter Try.func26, Try.ntmps26
      go_wp2_with fail
      refine (sSenderOk_any _ _ _ _ _ _ hd _).mono ?_
      rintro e w1 ⟨rfl, hb1⟩
      obtain ⟨hc1, hf1⟩ := bcell hb1
      have hz1 := hb1.size
      (try simp at hz1)
      have hy1_0 : w.heap.size < w1.heap.size := by omega
      have hy1_1 : w.heap.size + 1 < w1.heap.size := by omega
      have hy1_2 : w.heap.size + 2 < w1.heap.size := by omega
      have hy1_3 : w.heap.size + 3 < w1.heap.size := by omega
      have hs1 : w1.heap[w.heap.size]? = some (.cells #[.int .i64 u, .string d, .int .i64 s, .bool f, .bool false, .bool dn] 26 (0, 0)) := (hb1.block _ (by first | (simp; done) | (simp; omega))).trans (by repeat (first | exact heap_new _ _ _ (by first | rfl | (simp; done) | (simp; omega)) | refine (Below.heap_alloc _ _ _ (by first | omega | (simp; done) | (simp; omega))).trans ?_))
      have hk1 : w1.heap[w.heap.size + 1]? = some (.cells #[.int .i64 q, .string x, .bool true] 39 (0, 0)) := (hb1.block _ (by first | (simp; done) | (simp; omega))).trans (by repeat (first | exact heap_new _ _ _ (by first | rfl | (simp; done) | (simp; omega)) | refine (Below.heap_alloc _ _ _ (by first | omega | (simp; done) | (simp; omega))).trans ?_))
      have hr1 : w1.heap[w.heap.size + 1 + 1]? = some (.cells #[.int .i64 0, .string ⟨#[]⟩, .int .i64 0, .bool false, .bool false, .bool false] 26 (0, 0)) := (hb1.block _ (by first | (simp; done) | (simp; omega))).trans (by repeat (first | exact heap_new _ _ _ (by first | rfl | (simp; done) | (simp; omega)) | refine (Below.heap_alloc _ _ _ (by first | omega | (simp; done) | (simp; omega))).trans ?_))
      have ho1 : w1.heap[w.heap.size + 1 + 1 + 1]? = some (.cells #[.int .i64 u, .string d, .int .i64 (wrap64 (s + x.size)), .bool f, .bool true, .bool dn] 26 (0, 0)) := (hb1.block _ (by first | (simp; done) | (simp; omega))).trans (by repeat (first | exact heap_new _ _ _ (by first | rfl | (simp; done) | (simp; omega)) | refine (Below.heap_alloc _ _ _ (by first | omega | (simp; done) | (simp; omega))).trans ?_))
      have r0_hs1 := cell_of_row _ _ 0 _ _ _ hs1
      have r1_hs1 := cell_of_row _ _ 1 _ _ _ hs1
      have r2_hs1 := cell_of_row _ _ 2 _ _ _ hs1
      have r3_hs1 := cell_of_row _ _ 3 _ _ _ hs1
      have r4_hs1 := cell_of_row _ _ 4 _ _ _ hs1
      have r5_hs1 := cell_of_row _ _ 5 _ _ _ hs1
      have f0_hs1 := frozen_of_row _ _ 0 _ _ hs1
      have f1_hs1 := frozen_of_row _ _ 1 _ _ hs1
      have f2_hs1 := frozen_of_row _ _ 2 _ _ hs1
      have f3_hs1 := frozen_of_row _ _ 3 _ _ hs1
      have f4_hs1 := frozen_of_row _ _ 4 _ _ hs1
      have f5_hs1 := frozen_of_row _ _ 5 _ _ hs1
      simp at r0_hs1 r1_hs1 r2_hs1 r3_hs1 r4_hs1 r5_hs1
      have r0_hk1 := cell_of_row _ _ 0 _ _ _ hk1
      have r1_hk1 := cell_of_row _ _ 1 _ _ _ hk1
      have r2_hk1 := cell_of_row _ _ 2 _ _ _ hk1
      have f0_hk1 := frozen_of_row _ _ 0 _ _ hk1
      have f1_hk1 := frozen_of_row _ _ 1 _ _ hk1
      have f2_hk1 := frozen_of_row _ _ 2 _ _ hk1
      simp at r0_hk1 r1_hk1 r2_hk1
      have r0_hr1 := cell_of_row _ _ 0 _ _ _ hr1
      have r1_hr1 := cell_of_row _ _ 1 _ _ _ hr1
      have r2_hr1 := cell_of_row _ _ 2 _ _ _ hr1
      have r3_hr1 := cell_of_row _ _ 3 _ _ _ hr1
      have r4_hr1 := cell_of_row _ _ 4 _ _ _ hr1
      have r5_hr1 := cell_of_row _ _ 5 _ _ _ hr1
      have f0_hr1 := frozen_of_row _ _ 0 _ _ hr1
      have f1_hr1 := frozen_of_row _ _ 1 _ _ hr1
      have f2_hr1 := frozen_of_row _ _ 2 _ _ hr1
      have f3_hr1 := frozen_of_row _ _ 3 _ _ hr1
      have f4_hr1 := frozen_of_row _ _ 4 _ _ hr1
      have f5_hr1 := frozen_of_row _ _ 5 _ _ hr1
      simp at r0_hr1 r1_hr1 r2_hr1 r3_hr1 r4_hr1 r5_hr1
      have r0_ho1 := cell_of_row _ _ 0 _ _ _ ho1
      have r1_ho1 := cell_of_row _ _ 1 _ _ _ ho1
      have r2_ho1 := cell_of_row _ _ 2 _ _ _ ho1
      have r3_ho1 := cell_of_row _ _ 3 _ _ _ ho1
      have r4_ho1 := cell_of_row _ _ 4 _ _ _ ho1
      have r5_ho1 := cell_of_row _ _ 5 _ _ _ ho1
      have f0_ho1 := frozen_of_row _ _ 0 _ _ ho1
      have f1_ho1 := frozen_of_row _ _ 1 _ _ ho1
      have f2_ho1 := frozen_of_row _ _ 2 _ _ ho1
      have f3_ho1 := frozen_of_row _ _ 3 _ _ ho1
      have f4_ho1 := frozen_of_row _ _ 4 _ _ ho1
      have f5_ho1 := frozen_of_row _ _ 5 _ _ ho1
      simp at r0_ho1 r1_ho1 r2_ho1 r3_ho1 r4_ho1 r5_ho1
      clear hc1 hf1
      go_wp2_with fail
      apply bodyPost_ret (results_cell_row (P := Try.prog) (fn := Try.f26) rfl _ _ _ 26 _ (0, 0) _ rfl _ Try.underlying26 rfl _) rfl
      rotate_left 2
      · repeat (first | (with_reducible apply heap_setCell_same) | (with_reducible apply drew_row) | (with_reducible apply drewN_row) | (with_reducible exact hr1) | (with_reducible refine (heap_setCell_other _ _ _ _ (by first | omega | (simp; done) | (simp; omega))).trans ?_) | (with_reducible refine (Below.heap_alloc _ _ _ (by first | omega | (simp; done) | (simp; omega))).trans ?_))
      · kernel_rfl
      exact ⟨by simp, (by repeat (first | with_reducible exact Below.refl _ _ | with_reducible assumption | with_reducible refine Below.drew ?_ | with_reducible refine Below.alloc ?_ (by first | exact Nat.le_refl _ | omega | (simp; done) | (simp; omega)) _ | with_reducible refine Below.setCell ?_ (by first | exact Nat.le_refl _ | omega | (simp; done) | (simp; omega)) _ | (with_reducible refine ext_trans ?_ (by with_reducible assumption))))⟩
  · cases cf
    · go_enter Try.func26, Try.ntmps26
      go_wp2_with fail
      refine (sSenderOk_any _ _ _ _ _ _ hd _).mono ?_
      rintro e w1 ⟨rfl, hb1⟩
      obtain ⟨hc1, hf1⟩ := bcell hb1
      have hz1 := hb1.size
      (try simp at hz1)
      have hy1_0 : w.heap.size < w1.heap.size := by omega
      have hy1_1 : w.heap.size + 1 < w1.heap.size := by omega
      have hy1_2 : w.heap.size + 2 < w1.heap.size := by omega
      have hy1_3 : w.heap.size + 3 < w1.heap.size := by omega
      have hs1 : w1.heap[w.heap.size]? = some (.cells #[.int .i64 u, .string d, .int .i64 s, .bool f, .bool true, .bool dn] 26 (0, 0)) := (hb1.block _ (by first | (simp; done) | (simp; omega))).trans (by repeat (first | exact heap_new _ _ _ (by first | rfl | (simp; done) | (simp; omega)) | refine (Below.heap_alloc _ _ _ (by first | omega | (simp; done) | (simp; omega))).trans ?_))
      have hk1 : w1.heap[w.heap.size + 1]? = some (.cells #[.int .i64 q, .string x, .bool false] 39 (0, 0)) := (hb1.block _ (by first | (simp; done) | (simp; omega))).trans (by repeat (first | exact heap_new _ _ _ (by first | rfl | (simp; done) | (simp; omega)) | refine (Below.heap_alloc _ _ _ (by first | omega | (simp; done) | (simp; omega))).trans ?_))
      have hr1 : w1.heap[w.heap.size + 1 + 1]? = some (.cells #[.int .i64 0, .string ⟨#[]⟩, .int .i64 0, .bool false, .bool false, .bool false] 26 (0, 0)) := (hb1.block _ (by first | (simp; done) | (simp; omega))).trans (by repeat (first | exact heap_new _ _ _ (by first | rfl | (simp; done) | (simp; omega)) | refine (Below.heap_alloc _ _ _ (by first | omega | (simp; done) | (simp; omega))).trans ?_))
      have ho1 : w1.heap[w.heap.size + 1 + 1 + 1]? = some (.cells #[.int .i64 u, .string d, .int .i64 (wrap64 (s + x.size)), .bool f, .bool true, .bool dn] 26 (0, 0)) := (hb1.block _ (by first | (simp; done) | (simp; omega))).trans (by repeat (first | exact heap_new _ _ _ (by first | rfl | (simp; done) | (simp; omega)) | refine (Below.heap_alloc _ _ _ (by first | omega | (simp; done) | (simp; omega))).trans ?_))
      have r0_hs1 := cell_of_row _ _ 0 _ _ _ hs1
      have r1_hs1 := cell_of_row _ _ 1 _ _ _ hs1
      have r2_hs1 := cell_of_row _ _ 2 _ _ _ hs1
      have r3_hs1 := cell_of_row _ _ 3 _ _ _ hs1
      have r4_hs1 := cell_of_row _ _ 4 _ _ _ hs1
      have r5_hs1 := cell_of_row _ _ 5 _ _ _ hs1
      have f0_hs1 := frozen_of_row _ _ 0 _ _ hs1
      have f1_hs1 := frozen_of_row _ _ 1 _ _ hs1
      have f2_hs1 := frozen_of_row _ _ 2 _ _ hs1
      have f3_hs1 := frozen_of_row _ _ 3 _ _ hs1
      have f4_hs1 := frozen_of_row _ _ 4 _ _ hs1
      have f5_hs1 := frozen_of_row _ _ 5 _ _ hs1
      simp at r0_hs1 r1_hs1 r2_hs1 r3_hs1 r4_hs1 r5_hs1
      have r0_hk1 := cell_of_row _ _ 0 _ _ _ hk1
      have r1_hk1 := cell_of_row _ _ 1 _ _ _ hk1
      have r2_hk1 := cell_of_row _ _ 2 _ _ _ hk1
      have f0_hk1 := frozen_of_row _ _ 0 _ _ hk1
      have f1_hk1 := frozen_of_row _ _ 1 _ _ hk1
      have f2_hk1 := frozen_of_row _ _ 2 _ _ hk1
      simp at r0_hk1 r1_hk1 r2_hk1
      have r0_hr1 := cell_of_row _ _ 0 _ _ _ hr1
      have r1_hr1 := cell_of_row _ _ 1 _ _ _ hr1
      have r2_hr1 := cell_of_row _ _ 2 _ _ _ hr1
      have r3_hr1 := cell_of_row _ _ 3 _ _ _ hr1
      have r4_hr1 := cell_of_row _ _ 4 _ _ _ hr1
      have r5_hr1 := cell_of_row _ _ 5 _ _ _ hr1
      have f0_hr1 := frozen_of_row _ _ 0 _ _ hr1
      have f1_hr1 := frozen_of_row _ _ 1 _ _ hr1
      have f2_hr1 := frozen_of_row _ _ 2 _ _ hr1
      have f3_hr1 := frozen_of_row _ _ 3 _ _ hr1
      have f4_hr1 := frozen_of_row _ _ 4 _ _ hr1
      have f5_hr1 := frozen_of_row _ _ 5 _ _ hr1
      simp at r0_hr1 r1_hr1 r2_hr1 r3_hr1 r4_hr1 r5_hr1
      have r0_ho1 := cell_of_row _ _ 0 _ _ _ ho1
      have r1_ho1 := cell_of_row _ _ 1 _ _ _ ho1
      have r2_ho1 := cell_of_row _ _ 2 _ _ _ ho1
      have r3_ho1 := cell_of_row _ _ 3 _ _ _ ho1
      have r4_ho1 := cell_of_row _ _ 4 _ _ _ ho1
      have r5_ho1 := cell_of_row _ _ 5 _ _ _ ho1
      have f0_ho1 := frozen_of_row _ _ 0 _ _ ho1
      have f1_ho1 := frozen_of_row _ _ 1 _ _ ho1
      have f2_ho1 := frozen_of_row _ _ 2 _ _ ho1
      have f3_ho1 := frozen_of_row _ _ 3 _ _ ho1
      have f4_ho1 := frozen_of_row _ _ 4 _ _ ho1
      have f5_ho1 := frozen_of_row _ _ 5 _ _ ho1
      simp at r0_ho1 r1_ho1 r2_ho1 r3_ho1 r4_ho1 r5_ho1
      clear hc1 hf1
      go_wp2_with fail
      apply bodyPost_ret (results_cell_row (P := Try.prog) (fn := Try.f26) rfl _ _ _ 26 _ (0, 0) _ rfl _ Try.underlying26 rfl _) rfl
      rotate_left 2
      · repeat (first | (with_reducible apply heap_setCell_same) | (with_reducible apply drew_row) | (with_reducible apply drewN_row) | (with_reducible exact hr1) | (with_reducible refine (heap_setCell_other _ _ _ _ (by first | omega | (simp; done) | (simp; omega))).trans ?_) | (with_reducible refine (Below.heap_alloc _ _ _ (by first | omega | (simp; done) | (simp; omega))).trans ?_))
      · kernel_rfl
      exact ⟨by simp, (by repeat (first | with_reducible exact Below.refl _ _ | with_reducible assumption | with_reducible refine Below.drew ?_ | with_reducible refine Below.alloc ?_ (by first | exact Nat.le_refl _ | omega | (simp; done) | (simp; omega)) _ | with_reducible refine Below.setCell ?_ (by first | exact Nat.le_refl _ | omega | (simp; done) | (simp; omega)) _ | (with_reducible refine ext_trans ?_ (by with_reducible assumption))))⟩
    · go_enter Try.func26, Try.ntmps26
      go_wp2_with fail
      refine (sSenderOk_any _ _ _ _ _ _ hd _).mono ?_
      rintro e w1 ⟨rfl, hb1⟩
      obtain ⟨hc1, hf1⟩ := bcell hb1
      have hz1 := hb1.size
      (try simp at hz1)
      have hy1_0 : w.heap.size < w1.heap.size := by omega
      have hy1_1 : w.heap.size + 1 < w1.heap.size := by omega
      have hy1_2 : w.heap.size + 2 < w1.heap.size := by omega
      have hy1_3 : w.heap.size + 3 < w1.heap.size := by omega
      have hs1 : w1.heap[w.heap.size]? = some (.cells #[.int .i64 u, .string d, .int .i64 s, .bool f, .bool true, .bool dn] 26 (0, 0)) := (hb1.block _ (by first | (simp; done) | (simp; omega))).trans (by repeat (first | exact heap_new _ _ _ (by first | rfl | (simp; done) | (simp; omega)) | refine (Below.heap_alloc _ _ _ (by first | omega | (simp; done) | (simp; omega))).trans ?_))
      have hk1 : w1.heap[w.heap.size + 1]? = some (.cells #[.int .i64 q, .string x, .bool true] 39 (0, 0)) := (hb1.block _ (by first | (simp; done) | (simp; omega))).trans (by repeat (first | exact heap_new _ _ _ (by first | rfl | (simp; done) | (simp; omega)) | refine (Below.heap_alloc _ _ _ (by first | omega | (simp; done) | (simp; omega))).trans ?_))
      have hr1 : w1.heap[w.heap.size + 1 + 1]? = some (.cells #[.int .i64 0, .string ⟨#[]⟩, .int .i64 0, .bool false, .bool false, .bool false] 26 (0, 0)) := (hb1.block _ (by first | (simp; done) | (simp; omega))).trans (by repeat (first | exact heap_new _ _ _ (by first | rfl | (simp; done) | (simp; omega)) | refine (Below.heap_alloc _ _ _ (by first | omega | (simp; done) | (simp; omega))).trans ?_))
      have ho1 : w1.heap[w.heap.size + 1 + 1 + 1]? = some (.cells #[.int .i64 u, .string d, .int .i64 (wrap64 (s + x.size)), .bool f, .bool true, .bool dn] 26 (0, 0)) := (hb1.block _ (by first | (simp; done) | (simp; omega))).trans (by repeat (first | exact heap_new _ _ _ (by first | rfl | (simp; done) | (simp; omega)) | refine (Below.heap_alloc _ _ _ (by first | omega | (simp; done) | (simp; omega))).trans ?_))
      have r0_hs1 := cell_of_row _ _ 0 _ _ _ hs1
      have r1_hs1 := cell_of_row _ _ 1 _ _ _ hs1
      have r2_hs1 := cell_of_row _ _ 2 _ _ _ hs1
      have r3_hs1 := cell_of_row _ _ 3 _ _ _ hs1
      have r4_hs1 := cell_of_row _ _ 4 _ _ _ hs1
      have r5_hs1 := cell_of_row _ _ 5 _ _ _ hs1
      have f0_hs1 := frozen_of_row _ _ 0 _ _ hs1
      have f1_hs1 := frozen_of_row _ _ 1 _ _ hs1
      have f2_hs1 := frozen_of_row _ _ 2 _ _ hs1
      have f3_hs1 := frozen_of_row _ _ 3 _ _ hs1
      have f4_hs1 := frozen_of_row _ _ 4 _ _ hs1
      have f5_hs1 := frozen_of_row _ _ 5 _ _ hs1
      simp at r0_hs1 r1_hs1 r2_hs1 r3_hs1 r4_hs1 r5_hs1
      have r0_hk1 := cell_of_row _ _ 0 _ _ _ hk1
      have r1_hk1 := cell_of_row _ _ 1 _ _ _ hk1
      have r2_hk1 := cell_of_row _ _ 2 _ _ _ hk1
      have f0_hk1 := frozen_of_row _ _ 0 _ _ hk1
      have f1_hk1 := frozen_of_row _ _ 1 _ _ hk1
      have f2_hk1 := frozen_of_row _ _ 2 _ _ hk1
      simp at r0_hk1 r1_hk1 r2_hk1
      have r0_hr1 := cell_of_row _ _ 0 _ _ _ hr1
      have r1_hr1 := cell_of_row _ _ 1 _ _ _ hr1
      have r2_hr1 := cell_of_row _ _ 2 _ _ _ hr1
      have r3_hr1 := cell_of_row _ _ 3 _ _ _ hr1
      have r4_hr1 := cell_of_row _ _ 4 _ _ _ hr1
      have r5_hr1 := cell_of_row _ _ 5 _ _ _ hr1
      have f0_hr1 := frozen_of_row _ _ 0 _ _ hr1
      have f1_hr1 := frozen_of_row _ _ 1 _ _ hr1
      have f2_hr1 := frozen_of_row _ _ 2 _ _ hr1
      have f3_hr1 := frozen_of_row _ _ 3 _ _ hr1
      have f4_hr1 := frozen_of_row _ _ 4 _ _ hr1
      have f5_hr1 := frozen_of_row _ _ 5 _ _ hr1
      simp at r0_hr1 r1_hr1 r2_hr1 r3_hr1 r4_hr1 r5_hr1
      have r0_ho1 := cell_of_row _ _ 0 _ _ _ ho1
      have r1_ho1 := cell_of_row _ _ 1 _ _ _ ho1
      have r2_ho1 := cell_of_row _ _ 2 _ _ _ ho1
      have r3_ho1 := cell_of_row _ _ 3 _ _ _ ho1
      have r4_ho1 := cell_of_row _ _ 4 _ _ _ ho1
      have r5_ho1 := cell_of_row _ _ 5 _ _ _ ho1
      have f0_ho1 := frozen_of_row _ _ 0 _ _ ho1
      have f1_ho1 := frozen_of_row _ _ 1 _ _ ho1
      have f2_ho1 := frozen_of_row _ _ 2 _ _ ho1
      have f3_ho1 := frozen_of_row _ _ 3 _ _ ho1
      have f4_ho1 := frozen_of_row _ _ 4 _ _ ho1
      have f5_ho1 := frozen_of_row _ _ 5 _ _ ho1
      simp at r0_ho1 r1_ho1 r2_ho1 r3_ho1 r4_ho1 r5_ho1
      clear hc1 hf1
      go_wp2_with fail
      apply bodyPost_ret (results_cell_row (P := Try.prog) (fn := Try.f26) rfl _ _ _ 26 _ (0, 0) _ rfl _ Try.underlying26 rfl _) rfl
      rotate_left 2
      · repeat (first | (with_reducible apply heap_setCell_same) | (with_reducible apply drew_row) | (with_reducible apply drewN_row) | (with_reducible exact hr1) | (with_reducible refine (heap_setCell_other _ _ _ _ (by first | omega | (simp; done) | (simp; omega))).trans ?_) | (with_reducible refine (Below.heap_alloc _ _ _ (by first | omega | (simp; done) | (simp; omega))).trans ?_))
      · kernel_rfl
      exact ⟨by simp, (by repeat (first | with_reducible exact Below.refl _ _ | with_reducible assumption | with_reducible refine Below.drew ?_ | with_reducible refine Below.alloc ?_ (by first | exact Nat.le_refl _ | omega | (simp; done) | (simp; omega)) _ | with_reducible refine Below.setCell ?_ (by first | exact Nat.le_refl _ | omega | (simp; done) | (simp; omega)) _ | (with_reducible refine ext_trans ?_ (by with_reducible assumption))))⟩

theorem sSentOff_no2 (u : Int) (d : ByteArray) (s : Int) (f fs dn : Bool) (q : Int) (x : ByteArray) (cf : Bool) (hd : d.size ≤ maxLen) (_hx : x.size ≤ maxLen) (h1 : sndB u d s f fs dn = true) (h2 : sndB u d (wrap64 (s + x.size)) f (fs || cf) dn = false) (w : World) :
    Calls Try.prog 26 #[.agg #[.int .i64 u, .string d, .int .i64 s, .bool f, .bool fs, .bool dn], .agg #[.int .i64 q, .string x, .bool cf]] w fun e w' => e = .returned (.agg #[.int .i64 u, .string d, .int .i64 s, .bool f, .bool fs, .bool dn]) ∧ Below w.heap.size w w' := by
  cases fs
  · cases cf
    · simp only [Bool.or_false] at h2
      go_enter Try.func26, Try.ntmps26
      go_wp2_with fail
      refine (sSenderOk_any _ _ _ _ _ _ hd _).mono ?_
      rintro e w1 ⟨rfl, hb1⟩
      obtain ⟨hc1, hf1⟩ := bcell hb1
      have hz1 := hb1.size
      (try simp at hz1)
      have hy1_0 : w.heap.size < w1.heap.size := by omega
      have hy1_1 : w.heap.size + 1 < w1.heap.size := by omega
      have hy1_2 : w.heap.size + 2 < w1.heap.size := by omega
      have hy1_3 : w.heap.size + 3 < w1.heap.size := by omega
      have hs1 : w1.heap[w.heap.size]? = some (.cells #[.int .i64 u, .string d, .int .i64 s, .bool f, .bool false, .bool dn] 26 (0, 0)) := (hb1.block _ (by first | (simp; done) | (simp; omega))).trans (by repeat (first | exact heap_new _ _ _ (by first | rfl | (simp; done) | (simp; omega)) | refine (Below.heap_alloc _ _ _ (by first | omega | (simp; done) | (simp; omega))).trans ?_))
      have hk1 : w1.heap[w.heap.size + 1]? = some (.cells #[.int .i64 q, .string x, .bool false] 39 (0, 0)) := (hb1.block _ (by first | (simp; done) | (simp; omega))).trans (by repeat (first | exact heap_new _ _ _ (by first | rfl | (simp; done) | (simp; omega)) | refine (Below.heap_alloc _ _ _ (by first | omega | (simp; done) | (simp; omega))).trans ?_))
      have hr1 : w1.heap[w.heap.size + 1 + 1]? = some (.cells #[.int .i64 0, .string ⟨#[]⟩, .int .i64 0, .bool false, .bool false, .bool false] 26 (0, 0)) := (hb1.block _ (by first | (simp; done) | (simp; omega))).trans (by repeat (first | exact heap_new _ _ _ (by first | rfl | (simp; done) | (simp; omega)) | refine (Below.heap_alloc _ _ _ (by first | omega | (simp; done) | (simp; omega))).trans ?_))
      have ho1 : w1.heap[w.heap.size + 1 + 1 + 1]? = some (.cells #[.int .i64 u, .string d, .int .i64 (wrap64 (s + x.size)), .bool f, .bool false, .bool dn] 26 (0, 0)) := (hb1.block _ (by first | (simp; done) | (simp; omega))).trans (by repeat (first | exact heap_new _ _ _ (by first | rfl | (simp; done) | (simp; omega)) | refine (Below.heap_alloc _ _ _ (by first | omega | (simp; done) | (simp; omega))).trans ?_))
      have r0_hs1 := cell_of_row _ _ 0 _ _ _ hs1
      have r1_hs1 := cell_of_row _ _ 1 _ _ _ hs1
      have r2_hs1 := cell_of_row _ _ 2 _ _ _ hs1
      have r3_hs1 := cell_of_row _ _ 3 _ _ _ hs1
      have r4_hs1 := cell_of_row _ _ 4 _ _ _ hs1
      have r5_hs1 := cell_of_row _ _ 5 _ _ _ hs1
      have f0_hs1 := frozen_of_row _ _ 0 _ _ hs1
      have f1_hs1 := frozen_of_row _ _ 1 _ _ hs1
      have f2_hs1 := frozen_of_row _ _ 2 _ _ hs1
      have f3_hs1 := frozen_of_row _ _ 3 _ _ hs1
      have f4_hs1 := frozen_of_row _ _ 4 _ _ hs1
      have f5_hs1 := frozen_of_row _ _ 5 _ _ hs1
      simp at r0_hs1 r1_hs1 r2_hs1 r3_hs1 r4_hs1 r5_hs1
      have r0_hk1 := cell_of_row _ _ 0 _ _ _ hk1
      have r1_hk1 := cell_of_row _ _ 1 _ _ _ hk1
      have r2_hk1 := cell_of_row _ _ 2 _ _ _ hk1
      have f0_hk1 := frozen_of_row _ _ 0 _ _ hk1
      have f1_hk1 := frozen_of_row _ _ 1 _ _ hk1
      have f2_hk1 := frozen_of_row _ _ 2 _ _ hk1
      simp at r0_hk1 r1_hk1 r2_hk1
      have r0_hr1 := cell_of_row _ _ 0 _ _ _ hr1
      have r1_hr1 := cell_of_row _ _ 1 _ _ _ hr1
      have r2_hr1 := cell_of_row _ _ 2 _ _ _ hr1
      have r3_hr1 := cell_of_row _ _ 3 _ _ _ hr1
      have r4_hr1 := cell_of_row _ _ 4 _ _ _ hr1
      have r5_hr1 := cell_of_row _ _ 5 _ _ _ hr1
      have f0_hr1 := frozen_of_row _ _ 0 _ _ hr1
      have f1_hr1 := frozen_of_row _ _ 1 _ _ hr1
      have f2_hr1 := frozen_of_row _ _ 2 _ _ hr1
      have f3_hr1 := frozen_of_row _ _ 3 _ _ hr1
      have f4_hr1 := frozen_of_row _ _ 4 _ _ hr1
      have f5_hr1 := frozen_of_row _ _ 5 _ _ hr1
      simp at r0_hr1 r1_hr1 r2_hr1 r3_hr1 r4_hr1 r5_hr1
      have r0_ho1 := cell_of_row _ _ 0 _ _ _ ho1
      have r1_ho1 := cell_of_row _ _ 1 _ _ _ ho1
      have r2_ho1 := cell_of_row _ _ 2 _ _ _ ho1
      have r3_ho1 := cell_of_row _ _ 3 _ _ _ ho1
      have r4_ho1 := cell_of_row _ _ 4 _ _ _ ho1
      have r5_ho1 := cell_of_row _ _ 5 _ _ _ ho1
      have f0_ho1 := frozen_of_row _ _ 0 _ _ ho1
      have f1_ho1 := frozen_of_row _ _ 1 _ _ ho1
      have f2_ho1 := frozen_of_row _ _ 2 _ _ ho1
      have f3_ho1 := frozen_of_row _ _ 3 _ _ ho1
      have f4_ho1 := frozen_of_row _ _ 4 _ _ ho1
      have f5_ho1 := frozen_of_row _ _ 5 _ _ ho1
      simp at r0_ho1 r1_ho1 r2_ho1 r3_ho1 r4_ho1 r5_ho1
      clear hc1 hf1
      go_wp2_with fail
      refine (sSenderOk_any _ _ _ _ _ _ hd _).mono ?_
      rintro e w2 ⟨rfl, hb2⟩
      obtain ⟨hc2, hf2⟩ := bcell hb2
      have hz2 := hb2.size
      (try simp at hz2)
      have hy2_0 : w.heap.size < w2.heap.size := by omega
      have hy2_1 : w.heap.size + 1 < w2.heap.size := by omega
      have hy2_2 : w.heap.size + 2 < w2.heap.size := by omega
      have hy2_3 : w.heap.size + 3 < w2.heap.size := by omega
      have hs2 := (hb2.block (w.heap.size) (by omega)).trans hs1
      have hk2 := (hb2.block (w.heap.size + 1) (by omega)).trans hk1
      have hr2 := (hb2.block (w.heap.size + 1 + 1) (by omega)).trans hr1
      have ho2 := (hb2.block (w.heap.size + 1 + 1 + 1) (by omega)).trans ho1
      have r0_hs2 := cell_of_row _ _ 0 _ _ _ hs2
      have r1_hs2 := cell_of_row _ _ 1 _ _ _ hs2
      have r2_hs2 := cell_of_row _ _ 2 _ _ _ hs2
      have r3_hs2 := cell_of_row _ _ 3 _ _ _ hs2
      have r4_hs2 := cell_of_row _ _ 4 _ _ _ hs2
      have r5_hs2 := cell_of_row _ _ 5 _ _ _ hs2
      have f0_hs2 := frozen_of_row _ _ 0 _ _ hs2
      have f1_hs2 := frozen_of_row _ _ 1 _ _ hs2
      have f2_hs2 := frozen_of_row _ _ 2 _ _ hs2
      have f3_hs2 := frozen_of_row _ _ 3 _ _ hs2
      have f4_hs2 := frozen_of_row _ _ 4 _ _ hs2
      have f5_hs2 := frozen_of_row _ _ 5 _ _ hs2
      simp at r0_hs2 r1_hs2 r2_hs2 r3_hs2 r4_hs2 r5_hs2
      have r0_hk2 := cell_of_row _ _ 0 _ _ _ hk2
      have r1_hk2 := cell_of_row _ _ 1 _ _ _ hk2
      have r2_hk2 := cell_of_row _ _ 2 _ _ _ hk2
      have f0_hk2 := frozen_of_row _ _ 0 _ _ hk2
      have f1_hk2 := frozen_of_row _ _ 1 _ _ hk2
      have f2_hk2 := frozen_of_row _ _ 2 _ _ hk2
      simp at r0_hk2 r1_hk2 r2_hk2
      have r0_hr2 := cell_of_row _ _ 0 _ _ _ hr2
      have r1_hr2 := cell_of_row _ _ 1 _ _ _ hr2
      have r2_hr2 := cell_of_row _ _ 2 _ _ _ hr2
      have r3_hr2 := cell_of_row _ _ 3 _ _ _ hr2
      have r4_hr2 := cell_of_row _ _ 4 _ _ _ hr2
      have r5_hr2 := cell_of_row _ _ 5 _ _ _ hr2
      have f0_hr2 := frozen_of_row _ _ 0 _ _ hr2
      have f1_hr2 := frozen_of_row _ _ 1 _ _ hr2
      have f2_hr2 := frozen_of_row _ _ 2 _ _ hr2
      have f3_hr2 := frozen_of_row _ _ 3 _ _ hr2
      have f4_hr2 := frozen_of_row _ _ 4 _ _ hr2
      have f5_hr2 := frozen_of_row _ _ 5 _ _ hr2
      simp at r0_hr2 r1_hr2 r2_hr2 r3_hr2 r4_hr2 r5_hr2
      have r0_ho2 := cell_of_row _ _ 0 _ _ _ ho2
      have r1_ho2 := cell_of_row _ _ 1 _ _ _ ho2
      have r2_ho2 := cell_of_row _ _ 2 _ _ _ ho2
      have r3_ho2 := cell_of_row _ _ 3 _ _ _ ho2
      have r4_ho2 := cell_of_row _ _ 4 _ _ _ ho2
      have r5_ho2 := cell_of_row _ _ 5 _ _ _ ho2
      have f0_ho2 := frozen_of_row _ _ 0 _ _ ho2
      have f1_ho2 := frozen_of_row _ _ 1 _ _ ho2
      have f2_ho2 := frozen_of_row _ _ 2 _ _ ho2
      have f3_ho2 := frozen_of_row _ _ 3 _ _ ho2
      have f4_ho2 := frozen_of_row _ _ 4 _ _ ho2
      have f5_ho2 := frozen_of_row _ _ 5 _ _ ho2
      simp at r0_ho2 r1_ho2 r2_ho2 r3_ho2 r4_ho2 r5_ho2
      clear hc2 hf2
      go_wp2_with fail
      apply bodyPost_ret (results_cell_row (P := Try.prog) (fn := Try.f26) rfl _ _ _ 26 _ (0, 0) _ rfl _ Try.underlying26 rfl _) rfl
      rotate_left 2
      · repeat (first | (with_reducible apply heap_setCell_same) | (with_reducible apply drew_row) | (with_reducible apply drewN_row) | (with_reducible exact hr2) | (with_reducible refine (heap_setCell_other _ _ _ _ (by first | omega | (simp; done) | (simp; omega))).trans ?_) | (with_reducible refine (Below.heap_alloc _ _ _ (by first | omega | (simp; done) | (simp; omega))).trans ?_))
      · kernel_rfl
      exact ⟨by simp, (by repeat (first | with_reducible exact Below.refl _ _ | with_reducible assumption | with_reducible refine Below.drew ?_ | with_reducible refine Below.alloc ?_ (by first | exact Nat.le_refl _ | omega | (simp; done) | (simp; omega)) _ | with_reducible refine Below.setCell ?_ (by first | exact Nat.le_refl _ | omega | (simp; done) | (simp; omega)) _ | (with_reducible refine ext_trans ?_ (by with_reducible assumption))))⟩
    · simp only [Bool.or_true] at h2
      go_enter Try.func26, Try.ntmps26
      go_wp2_with fail
      refine (sSenderOk_any _ _ _ _ _ _ hd _).mono ?_
      rintro e w1 ⟨rfl, hb1⟩
      obtain ⟨hc1, hf1⟩ := bcell hb1
      have hz1 := hb1.size
      (try simp at hz1)
      have hy1_0 : w.heap.size < w1.heap.size := by omega
      have hy1_1 : w.heap.size + 1 < w1.heap.size := by omega
      have hy1_2 : w.heap.size + 2 < w1.heap.size := by omega
      have hy1_3 : w.heap.size + 3 < w1.heap.size := by omega
      have hs1 : w1.heap[w.heap.size]? = some (.cells #[.int .i64 u, .string d, .int .i64 s, .bool f, .bool false, .bool dn] 26 (0, 0)) := (hb1.block _ (by first | (simp; done) | (simp; omega))).trans (by repeat (first | exact heap_new _ _ _ (by first | rfl | (simp; done) | (simp; omega)) | refine (Below.heap_alloc _ _ _ (by first | omega | (simp; done) | (simp; omega))).trans ?_))
      have hk1 : w1.heap[w.heap.size + 1]? = some (.cells #[.int .i64 q, .string x, .bool true] 39 (0, 0)) := (hb1.block _ (by first | (simp; done) | (simp; omega))).trans (by repeat (first | exact heap_new _ _ _ (by first | rfl | (simp; done) | (simp; omega)) | refine (Below.heap_alloc _ _ _ (by first | omega | (simp; done) | (simp; omega))).trans ?_))
      have hr1 : w1.heap[w.heap.size + 1 + 1]? = some (.cells #[.int .i64 0, .string ⟨#[]⟩, .int .i64 0, .bool false, .bool false, .bool false] 26 (0, 0)) := (hb1.block _ (by first | (simp; done) | (simp; omega))).trans (by repeat (first | exact heap_new _ _ _ (by first | rfl | (simp; done) | (simp; omega)) | refine (Below.heap_alloc _ _ _ (by first | omega | (simp; done) | (simp; omega))).trans ?_))
      have ho1 : w1.heap[w.heap.size + 1 + 1 + 1]? = some (.cells #[.int .i64 u, .string d, .int .i64 (wrap64 (s + x.size)), .bool f, .bool true, .bool dn] 26 (0, 0)) := (hb1.block _ (by first | (simp; done) | (simp; omega))).trans (by repeat (first | exact heap_new _ _ _ (by first | rfl | (simp; done) | (simp; omega)) | refine (Below.heap_alloc _ _ _ (by first | omega | (simp; done) | (simp; omega))).trans ?_))
      have r0_hs1 := cell_of_row _ _ 0 _ _ _ hs1
      have r1_hs1 := cell_of_row _ _ 1 _ _ _ hs1
      have r2_hs1 := cell_of_row _ _ 2 _ _ _ hs1
      have r3_hs1 := cell_of_row _ _ 3 _ _ _ hs1
      have r4_hs1 := cell_of_row _ _ 4 _ _ _ hs1
      have r5_hs1 := cell_of_row _ _ 5 _ _ _ hs1
      have f0_hs1 := frozen_of_row _ _ 0 _ _ hs1
      have f1_hs1 := frozen_of_row _ _ 1 _ _ hs1
      have f2_hs1 := frozen_of_row _ _ 2 _ _ hs1
      have f3_hs1 := frozen_of_row _ _ 3 _ _ hs1
      have f4_hs1 := frozen_of_row _ _ 4 _ _ hs1
      have f5_hs1 := frozen_of_row _ _ 5 _ _ hs1
      simp at r0_hs1 r1_hs1 r2_hs1 r3_hs1 r4_hs1 r5_hs1
      have r0_hk1 := cell_of_row _ _ 0 _ _ _ hk1
      have r1_hk1 := cell_of_row _ _ 1 _ _ _ hk1
      have r2_hk1 := cell_of_row _ _ 2 _ _ _ hk1
      have f0_hk1 := frozen_of_row _ _ 0 _ _ hk1
      have f1_hk1 := frozen_of_row _ _ 1 _ _ hk1
      have f2_hk1 := frozen_of_row _ _ 2 _ _ hk1
      simp at r0_hk1 r1_hk1 r2_hk1
      have r0_hr1 := cell_of_row _ _ 0 _ _ _ hr1
      have r1_hr1 := cell_of_row _ _ 1 _ _ _ hr1
      have r2_hr1 := cell_of_row _ _ 2 _ _ _ hr1
      have r3_hr1 := cell_of_row _ _ 3 _ _ _ hr1
      have r4_hr1 := cell_of_row _ _ 4 _ _ _ hr1
      have r5_hr1 := cell_of_row _ _ 5 _ _ _ hr1
      have f0_hr1 := frozen_of_row _ _ 0 _ _ hr1
      have f1_hr1 := frozen_of_row _ _ 1 _ _ hr1
      have f2_hr1 := frozen_of_row _ _ 2 _ _ hr1
      have f3_hr1 := frozen_of_row _ _ 3 _ _ hr1
      have f4_hr1 := frozen_of_row _ _ 4 _ _ hr1
      have f5_hr1 := frozen_of_row _ _ 5 _ _ hr1
      simp at r0_hr1 r1_hr1 r2_hr1 r3_hr1 r4_hr1 r5_hr1
      have r0_ho1 := cell_of_row _ _ 0 _ _ _ ho1
      have r1_ho1 := cell_of_row _ _ 1 _ _ _ ho1
      have r2_ho1 := cell_of_row _ _ 2 _ _ _ ho1
      have r3_ho1 := cell_of_row _ _ 3 _ _ _ ho1
      have r4_ho1 := cell_of_row _ _ 4 _ _ _ ho1
      have r5_ho1 := cell_of_row _ _ 5 _ _ _ ho1
      have f0_ho1 := frozen_of_row _ _ 0 _ _ ho1
      have f1_ho1 := frozen_of_row _ _ 1 _ _ ho1
      have f2_ho1 := frozen_of_row _ _ 2 _ _ ho1
      have f3_ho1 := frozen_of_row _ _ 3 _ _ ho1
      have f4_ho1 := frozen_of_row _ _ 4 _ _ ho1
      have f5_ho1 := frozen_of_row _ _ 5 _ _ ho1
      simp at r0_ho1 r1_ho1 r2_ho1 r3_ho1 r4_ho1 r5_ho1
      clear hc1 hf1
      go_wp2_with fail
      refine (sSenderOk_any _ _ _ _ _ _ hd _).mono ?_
      rintro e w2 ⟨rfl, hb2⟩
      obtain ⟨hc2, hf2⟩ := bcell hb2
      have hz2 := hb2.size
      (try simp at hz2)
      have hy2_0 : w.heap.size < w2.heap.size := by omega
      have hy2_1 : w.heap.size + 1 < w2.heap.size := by omega
      have hy2_2 : w.heap.size + 2 < w2.heap.size := by omega
      have hy2_3 : w.heap.size + 3 < w2.heap.size := by omega
      have hs2 := (hb2.block (w.heap.size) (by omega)).trans hs1
      have hk2 := (hb2.block (w.heap.size + 1) (by omega)).trans hk1
      have hr2 := (hb2.block (w.heap.size + 1 + 1) (by omega)).trans hr1
      have ho2 := (hb2.block (w.heap.size + 1 + 1 + 1) (by omega)).trans ho1
      have r0_hs2 := cell_of_row _ _ 0 _ _ _ hs2
      have r1_hs2 := cell_of_row _ _ 1 _ _ _ hs2
      have r2_hs2 := cell_of_row _ _ 2 _ _ _ hs2
      have r3_hs2 := cell_of_row _ _ 3 _ _ _ hs2
      have r4_hs2 := cell_of_row _ _ 4 _ _ _ hs2
      have r5_hs2 := cell_of_row _ _ 5 _ _ _ hs2
      have f0_hs2 := frozen_of_row _ _ 0 _ _ hs2
      have f1_hs2 := frozen_of_row _ _ 1 _ _ hs2
      have f2_hs2 := frozen_of_row _ _ 2 _ _ hs2
      have f3_hs2 := frozen_of_row _ _ 3 _ _ hs2
      have f4_hs2 := frozen_of_row _ _ 4 _ _ hs2
      have f5_hs2 := frozen_of_row _ _ 5 _ _ hs2
      simp at r0_hs2 r1_hs2 r2_hs2 r3_hs2 r4_hs2 r5_hs2
      have r0_hk2 := cell_of_row _ _ 0 _ _ _ hk2
      have r1_hk2 := cell_of_row _ _ 1 _ _ _ hk2
      have r2_hk2 := cell_of_row _ _ 2 _ _ _ hk2
      have f0_hk2 := frozen_of_row _ _ 0 _ _ hk2
      have f1_hk2 := frozen_of_row _ _ 1 _ _ hk2
      have f2_hk2 := frozen_of_row _ _ 2 _ _ hk2
      simp at r0_hk2 r1_hk2 r2_hk2
      have r0_hr2 := cell_of_row _ _ 0 _ _ _ hr2
      have r1_hr2 := cell_of_row _ _ 1 _ _ _ hr2
      have r2_hr2 := cell_of_row _ _ 2 _ _ _ hr2
      have r3_hr2 := cell_of_row _ _ 3 _ _ _ hr2
      have r4_hr2 := cell_of_row _ _ 4 _ _ _ hr2
      have r5_hr2 := cell_of_row _ _ 5 _ _ _ hr2
      have f0_hr2 := frozen_of_row _ _ 0 _ _ hr2
      have f1_hr2 := frozen_of_row _ _ 1 _ _ hr2
      have f2_hr2 := frozen_of_row _ _ 2 _ _ hr2
      have f3_hr2 := frozen_of_row _ _ 3 _ _ hr2
      have f4_hr2 := frozen_of_row _ _ 4 _ _ hr2
      have f5_hr2 := frozen_of_row _ _ 5 _ _ hr2
      simp at r0_hr2 r1_hr2 r2_hr2 r3_hr2 r4_hr2 r5_hr2
      have r0_ho2 := cell_of_row _ _ 0 _ _ _ ho2
      have r1_ho2 := cell_of_row _ _ 1 _ _ _ ho2
      have r2_ho2 := cell_of_row _ _ 2 _ _ _ ho2
      have r3_ho2 := cell_of_row _ _ 3 _ _ _ ho2
      have r4_ho2 := cell_of_row _ _ 4 _ _ _ ho2
      have r5_ho2 := cell_of_row _ _ 5 _ _ _ ho2
      have f0_ho2 := frozen_of_row _ _ 0 _ _ ho2
      have f1_ho2 := frozen_of_row _ _ 1 _ _ ho2
      have f2_ho2 := frozen_of_row _ _ 2 _ _ ho2
      have f3_ho2 := frozen_of_row _ _ 3 _ _ ho2
      have f4_ho2 := frozen_of_row _ _ 4 _ _ ho2
      have f5_ho2 := frozen_of_row _ _ 5 _ _ ho2
      simp at r0_ho2 r1_ho2 r2_ho2 r3_ho2 r4_ho2 r5_ho2
      clear hc2 hf2
      go_wp2_with fail
      apply bodyPost_ret (results_cell_row (P := Try.prog) (fn := Try.f26) rfl _ _ _ 26 _ (0, 0) _ rfl _ Try.underlying26 rfl _) rfl
      rotate_left 2
      · repeat (first | (with_reducible apply heap_setCell_same) | (with_reducible apply drew_row) | (with_reducible apply drewN_row) | (with_reducible exact hr2) | (with_reducible refine (heap_setCell_other _ _ _ _ (by first | omega | (simp; done) | (simp; omega))).trans ?_) | (with_reducible refine (Below.heap_alloc _ _ _ (by first | omega | (simp; done) | (simp; omega))).trans ?_))
      · kernel_rfl
      exact ⟨by simp, (by repeat (first | with_reducible exact Below.refl _ _ | with_reducible assumption | with_reducible refine Below.drew ?_ | with_reducible refine Below.alloc ?_ (by first | exact Nat.le_refl _ | omega | (simp; done) | (simp; omega)) _ | with_reducible refine Below.setCell ?_ (by first | exact Nat.le_refl _ | omega | (simp; done) | (simp; omega)) _ | (with_reducible refine ext_trans ?_ (by with_reducible assumption))))⟩
  · cases cf
    · simp only [Bool.or_false] at h2
      go_enter Try.func26, Try.ntmps26
      go_wp2_with fail
      refine (sSenderOk_any _ _ _ _ _ _ hd _).mono ?_
      rintro e w1 ⟨rfl, hb1⟩
      obtain ⟨hc1, hf1⟩ := bcell hb1
      have hz1 := hb1.size
      (try simp at hz1)
      have hy1_0 : w.heap.size < w1.heap.size := by omega
      have hy1_1 : w.heap.size + 1 < w1.heap.size := by omega
      have hy1_2 : w.heap.size + 2 < w1.heap.size := by omega
      have hy1_3 : w.heap.size + 3 < w1.heap.size := by omega
      have hs1 : w1.heap[w.heap.size]? = some (.cells #[.int .i64 u, .string d, .int .i64 s, .bool f, .bool true, .bool dn] 26 (0, 0)) := (hb1.block _ (by first | (simp; done) | (simp; omega))).trans (by repeat (first | exact heap_new _ _ _ (by first | rfl | (simp; done) | (simp; omega)) | refine (Below.heap_alloc _ _ _ (by first | omega | (simp; done) | (simp; omega))).trans ?_))
      have hk1 : w1.heap[w.heap.size + 1]? = some (.cells #[.int .i64 q, .string x, .bool false] 39 (0, 0)) := (hb1.block _ (by first | (simp; done) | (simp; omega))).trans (by repeat (first | exact heap_new _ _ _ (by first | rfl | (simp; done) | (simp; omega)) | refine (Below.heap_alloc _ _ _ (by first | omega | (simp; done) | (simp; omega))).trans ?_))
      have hr1 : w1.heap[w.heap.size + 1 + 1]? = some (.cells #[.int .i64 0, .string ⟨#[]⟩, .int .i64 0, .bool false, .bool false, .bool false] 26 (0, 0)) := (hb1.block _ (by first | (simp; done) | (simp; omega))).trans (by repeat (first | exact heap_new _ _ _ (by first | rfl | (simp; done) | (simp; omega)) | refine (Below.heap_alloc _ _ _ (by first | omega | (simp; done) | (simp; omega))).trans ?_))
      have ho1 : w1.heap[w.heap.size + 1 + 1 + 1]? = some (.cells #[.int .i64 u, .string d, .int .i64 (wrap64 (s + x.size)), .bool f, .bool true, .bool dn] 26 (0, 0)) := (hb1.block _ (by first | (simp; done) | (simp; omega))).trans (by repeat (first | exact heap_new _ _ _ (by first | rfl | (simp; done) | (simp; omega)) | refine (Below.heap_alloc _ _ _ (by first | omega | (simp; done) | (simp; omega))).trans ?_))
      have r0_hs1 := cell_of_row _ _ 0 _ _ _ hs1
      have r1_hs1 := cell_of_row _ _ 1 _ _ _ hs1
      have r2_hs1 := cell_of_row _ _ 2 _ _ _ hs1
      have r3_hs1 := cell_of_row _ _ 3 _ _ _ hs1
      have r4_hs1 := cell_of_row _ _ 4 _ _ _ hs1
      have r5_hs1 := cell_of_row _ _ 5 _ _ _ hs1
      have f0_hs1 := frozen_of_row _ _ 0 _ _ hs1
      have f1_hs1 := frozen_of_row _ _ 1 _ _ hs1
      have f2_hs1 := frozen_of_row _ _ 2 _ _ hs1
      have f3_hs1 := frozen_of_row _ _ 3 _ _ hs1
      have f4_hs1 := frozen_of_row _ _ 4 _ _ hs1
      have f5_hs1 := frozen_of_row _ _ 5 _ _ hs1
      simp at r0_hs1 r1_hs1 r2_hs1 r3_hs1 r4_hs1 r5_hs1
      have r0_hk1 := cell_of_row _ _ 0 _ _ _ hk1
      have r1_hk1 := cell_of_row _ _ 1 _ _ _ hk1
      have r2_hk1 := cell_of_row _ _ 2 _ _ _ hk1
      have f0_hk1 := frozen_of_row _ _ 0 _ _ hk1
      have f1_hk1 := frozen_of_row _ _ 1 _ _ hk1
      have f2_hk1 := frozen_of_row _ _ 2 _ _ hk1
      simp at r0_hk1 r1_hk1 r2_hk1
      have r0_hr1 := cell_of_row _ _ 0 _ _ _ hr1
      have r1_hr1 := cell_of_row _ _ 1 _ _ _ hr1
      have r2_hr1 := cell_of_row _ _ 2 _ _ _ hr1
      have r3_hr1 := cell_of_row _ _ 3 _ _ _ hr1
      have r4_hr1 := cell_of_row _ _ 4 _ _ _ hr1
      have r5_hr1 := cell_of_row _ _ 5 _ _ _ hr1
      have f0_hr1 := frozen_of_row _ _ 0 _ _ hr1
      have f1_hr1 := frozen_of_row _ _ 1 _ _ hr1
      have f2_hr1 := frozen_of_row _ _ 2 _ _ hr1
      have f3_hr1 := frozen_of_row _ _ 3 _ _ hr1
      have f4_hr1 := frozen_of_row _ _ 4 _ _ hr1
      have f5_hr1 := frozen_of_row _ _ 5 _ _ hr1
      simp at r0_hr1 r1_hr1 r2_hr1 r3_hr1 r4_hr1 r5_hr1
      have r0_ho1 := cell_of_row _ _ 0 _ _ _ ho1
      have r1_ho1 := cell_of_row _ _ 1 _ _ _ ho1
      have r2_ho1 := cell_of_row _ _ 2 _ _ _ ho1
      have r3_ho1 := cell_of_row _ _ 3 _ _ _ ho1
      have r4_ho1 := cell_of_row _ _ 4 _ _ _ ho1
      have r5_ho1 := cell_of_row _ _ 5 _ _ _ ho1
      have f0_ho1 := frozen_of_row _ _ 0 _ _ ho1
      have f1_ho1 := frozen_of_row _ _ 1 _ _ ho1
      have f2_ho1 := frozen_of_row _ _ 2 _ _ ho1
      have f3_ho1 := frozen_of_row _ _ 3 _ _ ho1
      have f4_ho1 := frozen_of_row _ _ 4 _ _ ho1
      have f5_ho1 := frozen_of_row _ _ 5 _ _ ho1
      simp at r0_ho1 r1_ho1 r2_ho1 r3_ho1 r4_ho1 r5_ho1
      clear hc1 hf1
      go_wp2_with fail
      refine (sSenderOk_any _ _ _ _ _ _ hd _).mono ?_
      rintro e w2 ⟨rfl, hb2⟩
      obtain ⟨hc2, hf2⟩ := bcell hb2
      have hz2 := hb2.size
      (try simp at hz2)
      have hy2_0 : w.heap.size < w2.heap.size := by omega
      have hy2_1 : w.heap.size + 1 < w2.heap.size := by omega
      have hy2_2 : w.heap.size + 2 < w2.heap.size := by omega
      have hy2_3 : w.heap.size + 3 < w2.heap.size := by omega
      have hs2 := (hb2.block (w.heap.size) (by omega)).trans hs1
      have hk2 := (hb2.block (w.heap.size + 1) (by omega)).trans hk1
      have hr2 := (hb2.block (w.heap.size + 1 + 1) (by omega)).trans hr1
      have ho2 := (hb2.block (w.heap.size + 1 + 1 + 1) (by omega)).trans ho1
      have r0_hs2 := cell_of_row _ _ 0 _ _ _ hs2
      have r1_hs2 := cell_of_row _ _ 1 _ _ _ hs2
      have r2_hs2 := cell_of_row _ _ 2 _ _ _ hs2
      have r3_hs2 := cell_of_row _ _ 3 _ _ _ hs2
      have r4_hs2 := cell_of_row _ _ 4 _ _ _ hs2
      have r5_hs2 := cell_of_row _ _ 5 _ _ _ hs2
      have f0_hs2 := frozen_of_row _ _ 0 _ _ hs2
      have f1_hs2 := frozen_of_row _ _ 1 _ _ hs2
      have f2_hs2 := frozen_of_row _ _ 2 _ _ hs2
      have f3_hs2 := frozen_of_row _ _ 3 _ _ hs2
      have f4_hs2 := frozen_of_row _ _ 4 _ _ hs2
      have f5_hs2 := frozen_of_row _ _ 5 _ _ hs2
      simp at r0_hs2 r1_hs2 r2_hs2 r3_hs2 r4_hs2 r5_hs2
      have r0_hk2 := cell_of_row _ _ 0 _ _ _ hk2
      have r1_hk2 := cell_of_row _ _ 1 _ _ _ hk2
      have r2_hk2 := cell_of_row _ _ 2 _ _ _ hk2
      have f0_hk2 := frozen_of_row _ _ 0 _ _ hk2
      have f1_hk2 := frozen_of_row _ _ 1 _ _ hk2
      have f2_hk2 := frozen_of_row _ _ 2 _ _ hk2
      simp at r0_hk2 r1_hk2 r2_hk2
      have r0_hr2 := cell_of_row _ _ 0 _ _ _ hr2
      have r1_hr2 := cell_of_row _ _ 1 _ _ _ hr2
      have r2_hr2 := cell_of_row _ _ 2 _ _ _ hr2
      have r3_hr2 := cell_of_row _ _ 3 _ _ _ hr2
      have r4_hr2 := cell_of_row _ _ 4 _ _ _ hr2
      have r5_hr2 := cell_of_row _ _ 5 _ _ _ hr2
      have f0_hr2 := frozen_of_row _ _ 0 _ _ hr2
      have f1_hr2 := frozen_of_row _ _ 1 _ _ hr2
      have f2_hr2 := frozen_of_row _ _ 2 _ _ hr2
      have f3_hr2 := frozen_of_row _ _ 3 _ _ hr2
      have f4_hr2 := frozen_of_row _ _ 4 _ _ hr2
      have f5_hr2 := frozen_of_row _ _ 5 _ _ hr2
      simp at r0_hr2 r1_hr2 r2_hr2 r3_hr2 r4_hr2 r5_hr2
      have r0_ho2 := cell_of_row _ _ 0 _ _ _ ho2
      have r1_ho2 := cell_of_row _ _ 1 _ _ _ ho2
      have r2_ho2 := cell_of_row _ _ 2 _ _ _ ho2
      have r3_ho2 := cell_of_row _ _ 3 _ _ _ ho2
      have r4_ho2 := cell_of_row _ _ 4 _ _ _ ho2
      have r5_ho2 := cell_of_row _ _ 5 _ _ _ ho2
      have f0_ho2 := frozen_of_row _ _ 0 _ _ ho2
      have f1_ho2 := frozen_of_row _ _ 1 _ _ ho2
      have f2_ho2 := frozen_of_row _ _ 2 _ _ ho2
      have f3_ho2 := frozen_of_row _ _ 3 _ _ ho2
      have f4_ho2 := frozen_of_row _ _ 4 _ _ ho2
      have f5_ho2 := frozen_of_row _ _ 5 _ _ ho2
      simp at r0_ho2 r1_ho2 r2_ho2 r3_ho2 r4_ho2 r5_ho2
      clear hc2 hf2
      go_wp2_with fail
      apply bodyPost_ret (results_cell_row (P := Try.prog) (fn := Try.f26) rfl _ _ _ 26 _ (0, 0) _ rfl _ Try.underlying26 rfl _) rfl
      rotate_left 2
      · repeat (first | (with_reducible apply heap_setCell_same) | (with_reducible apply drew_row) | (with_reducible apply drewN_row) | (with_reducible exact hr2) | (with_reducible refine (heap_setCell_other _ _ _ _ (by first | omega | (simp; done) | (simp; omega))).trans ?_) | (with_reducible refine (Below.heap_alloc _ _ _ (by first | omega | (simp; done) | (simp; omega))).trans ?_))
      · kernel_rfl
      exact ⟨by simp, (by repeat (first | with_reducible exact Below.refl _ _ | with_reducible assumption | with_reducible refine Below.drew ?_ | with_reducible refine Below.alloc ?_ (by first | exact Nat.le_refl _ | omega | (simp; done) | (simp; omega)) _ | with_reducible refine Below.setCell ?_ (by first | exact Nat.le_refl _ | omega | (simp; done) | (simp; omega)) _ | (with_reducible refine ext_trans ?_ (by with_reducible assumption))))⟩
    · simp only [Bool.or_true] at h2
      go_enter Try.func26, Try.ntmps26
      go_wp2_with fail
      refine (sSenderOk_any _ _ _ _ _ _ hd _).mono ?_
      rintro e w1 ⟨rfl, hb1⟩
      obtain ⟨hc1, hf1⟩ := bcell hb1
      have hz1 := hb1.size
      (try simp at hz1)
      have hy1_0 : w.heap.size < w1.heap.size := by omega
      have hy1_1 : w.heap.size + 1 < w1.heap.size := by omega
      have hy1_2 : w.heap.size + 2 < w1.heap.size := by omega
      have hy1_3 : w.heap.size + 3 < w1.heap.size := by omega
      have hs1 : w1.heap[w.heap.size]? = some (.cells #[.int .i64 u, .string d, .int .i64 s, .bool f, .bool true, .bool dn] 26 (0, 0)) := (hb1.block _ (by first | (simp; done) | (simp; omega))).trans (by repeat (first | exact heap_new _ _ _ (by first | rfl | (simp; done) | (simp; omega)) | refine (Below.heap_alloc _ _ _ (by first | omega | (simp; done) | (simp; omega))).trans ?_))
      have hk1 : w1.heap[w.heap.size + 1]? = some (.cells #[.int .i64 q, .string x, .bool true] 39 (0, 0)) := (hb1.block _ (by first | (simp; done) | (simp; omega))).trans (by repeat (first | exact heap_new _ _ _ (by first | rfl | (simp; done) | (simp; omega)) | refine (Below.heap_alloc _ _ _ (by first | omega | (simp; done) | (simp; omega))).trans ?_))
      have hr1 : w1.heap[w.heap.size + 1 + 1]? = some (.cells #[.int .i64 0, .string ⟨#[]⟩, .int .i64 0, .bool false, .bool false, .bool false] 26 (0, 0)) := (hb1.block _ (by first | (simp; done) | (simp; omega))).trans (by repeat (first | exact heap_new _ _ _ (by first | rfl | (simp; done) | (simp; omega)) | refine (Below.heap_alloc _ _ _ (by first | omega | (simp; done) | (simp; omega))).trans ?_))
      have ho1 : w1.heap[w.heap.size + 1 + 1 + 1]? = some (.cells #[.int .i64 u, .string d, .int .i64 (wrap64 (s + x.size)), .bool f, .bool true, .bool dn] 26 (0, 0)) := (hb1.block _ (by first | (simp; done) | (simp; omega))).trans (by repeat (first | exact heap_new _ _ _ (by first | rfl | (simp; done) | (simp; omega)) | refine (Below.heap_alloc _ _ _ (by first | omega | (simp; done) | (simp; omega))).trans ?_))
      have r0_hs1 := cell_of_row _ _ 0 _ _ _ hs1
      have r1_hs1 := cell_of_row _ _ 1 _ _ _ hs1
      have r2_hs1 := cell_of_row _ _ 2 _ _ _ hs1
      have r3_hs1 := cell_of_row _ _ 3 _ _ _ hs1
      have r4_hs1 := cell_of_row _ _ 4 _ _ _ hs1
      have r5_hs1 := cell_of_row _ _ 5 _ _ _ hs1
      have f0_hs1 := frozen_of_row _ _ 0 _ _ hs1
      have f1_hs1 := frozen_of_row _ _ 1 _ _ hs1
      have f2_hs1 := frozen_of_row _ _ 2 _ _ hs1
      have f3_hs1 := frozen_of_row _ _ 3 _ _ hs1
      have f4_hs1 := frozen_of_row _ _ 4 _ _ hs1
      have f5_hs1 := frozen_of_row _ _ 5 _ _ hs1
      simp at r0_hs1 r1_hs1 r2_hs1 r3_hs1 r4_hs1 r5_hs1
      have r0_hk1 := cell_of_row _ _ 0 _ _ _ hk1
      have r1_hk1 := cell_of_row _ _ 1 _ _ _ hk1
      have r2_hk1 := cell_of_row _ _ 2 _ _ _ hk1
      have f0_hk1 := frozen_of_row _ _ 0 _ _ hk1
      have f1_hk1 := frozen_of_row _ _ 1 _ _ hk1
      have f2_hk1 := frozen_of_row _ _ 2 _ _ hk1
      simp at r0_hk1 r1_hk1 r2_hk1
      have r0_hr1 := cell_of_row _ _ 0 _ _ _ hr1
      have r1_hr1 := cell_of_row _ _ 1 _ _ _ hr1
      have r2_hr1 := cell_of_row _ _ 2 _ _ _ hr1
      have r3_hr1 := cell_of_row _ _ 3 _ _ _ hr1
      have r4_hr1 := cell_of_row _ _ 4 _ _ _ hr1
      have r5_hr1 := cell_of_row _ _ 5 _ _ _ hr1
      have f0_hr1 := frozen_of_row _ _ 0 _ _ hr1
      have f1_hr1 := frozen_of_row _ _ 1 _ _ hr1
      have f2_hr1 := frozen_of_row _ _ 2 _ _ hr1
      have f3_hr1 := frozen_of_row _ _ 3 _ _ hr1
      have f4_hr1 := frozen_of_row _ _ 4 _ _ hr1
      have f5_hr1 := frozen_of_row _ _ 5 _ _ hr1
      simp at r0_hr1 r1_hr1 r2_hr1 r3_hr1 r4_hr1 r5_hr1
      have r0_ho1 := cell_of_row _ _ 0 _ _ _ ho1
      have r1_ho1 := cell_of_row _ _ 1 _ _ _ ho1
      have r2_ho1 := cell_of_row _ _ 2 _ _ _ ho1
      have r3_ho1 := cell_of_row _ _ 3 _ _ _ ho1
      have r4_ho1 := cell_of_row _ _ 4 _ _ _ ho1
      have r5_ho1 := cell_of_row _ _ 5 _ _ _ ho1
      have f0_ho1 := frozen_of_row _ _ 0 _ _ ho1
      have f1_ho1 := frozen_of_row _ _ 1 _ _ ho1
      have f2_ho1 := frozen_of_row _ _ 2 _ _ ho1
      have f3_ho1 := frozen_of_row _ _ 3 _ _ ho1
      have f4_ho1 := frozen_of_row _ _ 4 _ _ ho1
      have f5_ho1 := frozen_of_row _ _ 5 _ _ ho1
      simp at r0_ho1 r1_ho1 r2_ho1 r3_ho1 r4_ho1 r5_ho1
      clear hc1 hf1
      go_wp2_with fail
      refine (sSenderOk_any _ _ _ _ _ _ hd _).mono ?_
      rintro e w2 ⟨rfl, hb2⟩
      obtain ⟨hc2, hf2⟩ := bcell hb2
      have hz2 := hb2.size
      (try simp at hz2)
      have hy2_0 : w.heap.size < w2.heap.size := by omega
      have hy2_1 : w.heap.size + 1 < w2.heap.size := by omega
      have hy2_2 : w.heap.size + 2 < w2.heap.size := by omega
      have hy2_3 : w.heap.size + 3 < w2.heap.size := by omega
      have hs2 := (hb2.block (w.heap.size) (by omega)).trans hs1
      have hk2 := (hb2.block (w.heap.size + 1) (by omega)).trans hk1
      have hr2 := (hb2.block (w.heap.size + 1 + 1) (by omega)).trans hr1
      have ho2 := (hb2.block (w.heap.size + 1 + 1 + 1) (by omega)).trans ho1
      have r0_hs2 := cell_of_row _ _ 0 _ _ _ hs2
      have r1_hs2 := cell_of_row _ _ 1 _ _ _ hs2
      have r2_hs2 := cell_of_row _ _ 2 _ _ _ hs2
      have r3_hs2 := cell_of_row _ _ 3 _ _ _ hs2
      have r4_hs2 := cell_of_row _ _ 4 _ _ _ hs2
      have r5_hs2 := cell_of_row _ _ 5 _ _ _ hs2
      have f0_hs2 := frozen_of_row _ _ 0 _ _ hs2
      have f1_hs2 := frozen_of_row _ _ 1 _ _ hs2
      have f2_hs2 := frozen_of_row _ _ 2 _ _ hs2
      have f3_hs2 := frozen_of_row _ _ 3 _ _ hs2
      have f4_hs2 := frozen_of_row _ _ 4 _ _ hs2
      have f5_hs2 := frozen_of_row _ _ 5 _ _ hs2
      simp at r0_hs2 r1_hs2 r2_hs2 r3_hs2 r4_hs2 r5_hs2
      have r0_hk2 := cell_of_row _ _ 0 _ _ _ hk2
      have r1_hk2 := cell_of_row _ _ 1 _ _ _ hk2
      have r2_hk2 := cell_of_row _ _ 2 _ _ _ hk2
      have f0_hk2 := frozen_of_row _ _ 0 _ _ hk2
      have f1_hk2 := frozen_of_row _ _ 1 _ _ hk2
      have f2_hk2 := frozen_of_row _ _ 2 _ _ hk2
      simp at r0_hk2 r1_hk2 r2_hk2
      have r0_hr2 := cell_of_row _ _ 0 _ _ _ hr2
      have r1_hr2 := cell_of_row _ _ 1 _ _ _ hr2
      have r2_hr2 := cell_of_row _ _ 2 _ _ _ hr2
      have r3_hr2 := cell_of_row _ _ 3 _ _ _ hr2
      have r4_hr2 := cell_of_row _ _ 4 _ _ _ hr2
      have r5_hr2 := cell_of_row _ _ 5 _ _ _ hr2
      have f0_hr2 := frozen_of_row _ _ 0 _ _ hr2
      have f1_hr2 := frozen_of_row _ _ 1 _ _ hr2
      have f2_hr2 := frozen_of_row _ _ 2 _ _ hr2
      have f3_hr2 := frozen_of_row _ _ 3 _ _ hr2
      have f4_hr2 := frozen_of_row _ _ 4 _ _ hr2
      have f5_hr2 := frozen_of_row _ _ 5 _ _ hr2
      simp at r0_hr2 r1_hr2 r2_hr2 r3_hr2 r4_hr2 r5_hr2
      have r0_ho2 := cell_of_row _ _ 0 _ _ _ ho2
      have r1_ho2 := cell_of_row _ _ 1 _ _ _ ho2
      have r2_ho2 := cell_of_row _ _ 2 _ _ _ ho2
      have r3_ho2 := cell_of_row _ _ 3 _ _ _ ho2
      have r4_ho2 := cell_of_row _ _ 4 _ _ _ ho2
      have r5_ho2 := cell_of_row _ _ 5 _ _ _ ho2
      have f0_ho2 := frozen_of_row _ _ 0 _ _ ho2
      have f1_ho2 := frozen_of_row _ _ 1 _ _ ho2
      have f2_ho2 := frozen_of_row _ _ 2 _ _ ho2
      have f3_ho2 := frozen_of_row _ _ 3 _ _ ho2
      have f4_ho2 := frozen_of_row _ _ 4 _ _ ho2
      have f5_ho2 := frozen_of_row _ _ 5 _ _ ho2
      simp at r0_ho2 r1_ho2 r2_ho2 r3_ho2 r4_ho2 r5_ho2
      clear hc2 hf2
      go_wp2_with fail
      apply bodyPost_ret (results_cell_row (P := Try.prog) (fn := Try.f26) rfl _ _ _ 26 _ (0, 0) _ rfl _ Try.underlying26 rfl _) rfl
      rotate_left 2
      · repeat (first | (with_reducible apply heap_setCell_same) | (with_reducible apply drew_row) | (with_reducible apply drewN_row) | (with_reducible exact hr2) | (with_reducible refine (heap_setCell_other _ _ _ _ (by first | omega | (simp; done) | (simp; omega))).trans ?_) | (with_reducible refine (Below.heap_alloc _ _ _ (by first | omega | (simp; done) | (simp; omega))).trans ?_))
      · kernel_rfl
      exact ⟨by simp, (by repeat (first | with_reducible exact Below.refl _ _ | with_reducible assumption | with_reducible refine Below.drew ?_ | with_reducible refine Below.alloc ?_ (by first | exact Nat.le_refl _ | omega | (simp; done) | (simp; omega)) _ | with_reducible refine Below.setCell ?_ (by first | exact Nat.le_refl _ | omega | (simp; done) | (simp; omega)) _ | (with_reducible refine ext_trans ?_ (by with_reducible assumption))))⟩

/-- Is the chunk let go? What is sent then; is the end sent then? -/
def soOk (u : Int) (d : ByteArray) (s : Int) (f fs dn : Bool) (x : ByteArray) (cf : Bool) : Bool := sndB u d s f fs dn && sndB u d (wrap64 (s + x.size)) f (fs || cf) dn
def soS (u : Int) (d : ByteArray) (s : Int) (f fs dn : Bool) (x : ByteArray) (cf : Bool) : Int := if soOk u d s f fs dn x cf then wrap64 (s + x.size) else s
def soF (u : Int) (d : ByteArray) (s : Int) (f fs dn : Bool) (x : ByteArray) (cf : Bool) : Bool := if soOk u d s f fs dn x cf then fs || cf else fs

theorem SentOff_any (u : Int) (d : ByteArray) (s : Int) (f fs dn : Bool) (q : Int) (x : ByteArray) (cf : Bool) (hd : d.size ≤ maxLen) (hx : x.size ≤ maxLen) (w : World) :
    Calls Try.prog 28 #[.agg #[.int .i64 u, .string d, .int .i64 s, .bool f, .bool fs, .bool dn], .agg #[.int .i64 q, .string x, .bool cf]] w fun e w' => e = .returned (.agg #[.int .i64 u, .string d, .int .i64 (soS u d s f fs dn x cf), .bool f, .bool (soF u d s f fs dn x cf), .bool dn]) ∧ Below w.heap.size w w' := by
  by_cases hk : sndB u d s f fs dn = true
  · by_cases ho : sndB u d (wrap64 (s + x.size)) f (fs || cf) dn = true
    · have h3 : (cf && (!f || dn)) = false := by
        cases cf
        · rfl
        · obtain ⟨rfl, rfl⟩ := sndB_fin (by simpa using ho)
          rfl
      have e : soOk u d s f fs dn x cf = true := by simp [soOk, hk, ho]
      simp only [soS, soF, e, if_true]
      exact SentOff_yes _ _ _ _ _ _ _ _ _ hd hx hk ho h3 _
    · have ho : sndB u d (wrap64 (s + x.size)) f (fs || cf) dn = false := by simpa using ho
      have e : soOk u d s f fs dn x cf = false := by simp [soOk, ho]
      simp only [soS, soF, e, Bool.false_eq_true, if_false]
      exact SentOff_no2 _ _ _ _ _ _ _ _ _ hd hx hk ho _
  · have hk : sndB u d s f fs dn = false := by simpa using hk
    have e : soOk u d s f fs dn x cf = false := by simp [soOk, hk]
    simp only [soS, soF, e, Bool.false_eq_true, if_false]
    exact SentOff_no1 _ _ _ _ _ _ _ _ _ hd hx hk _

theorem sSentOff_any (u : Int) (d : ByteArray) (s : Int) (f fs dn : Bool) (q : Int) (x : ByteArray) (cf : Bool) (hd : d.size ≤ maxLen) (hx : x.size ≤ maxLen) (w : World) :
    Calls Try.prog 26 #[.agg #[.int .i64 u, .string d, .int .i64 s, .bool f, .bool fs, .bool dn], .agg #[.int .i64 q, .string x, .bool cf]] w fun e w' => e = .returned (.agg #[.int .i64 u, .string d, .int .i64 (soS u d s f fs dn x cf), .bool f, .bool (soF u d s f fs dn x cf), .bool dn]) ∧ Below w.heap.size w w' := by
  by_cases hk : sndB u d s f fs dn = true
  · by_cases ho : sndB u d (wrap64 (s + x.size)) f (fs || cf) dn = true
    · have h3 : (cf && (!f || dn)) = false := by
        cases cf
        · rfl
        · obtain ⟨rfl, rfl⟩ := sndB_fin (by simpa using ho)
          rfl
      have e : soOk u d s f fs dn x cf = true := by simp [soOk, hk, ho]
      simp only [soS, soF, e, if_true]
      exact sSentOff_yes _ _ _ _ _ _ _ _ _ hd hx hk ho h3 _
    · have ho : sndB u d (wrap64 (s + x.size)) f (fs || cf) dn = false := by simpa using ho
      have e : soOk u d s f fs dn x cf = false := by simp [soOk, ho]
      simp only [soS, soF, e, Bool.false_eq_true, if_false]
      exact sSentOff_no2 _ _ _ _ _ _ _ _ _ hd hx hk ho _
  · have hk : sndB u d s f fs dn = false := by simpa using hk
    have e : soOk u d s f fs dn x cf = false := by simp [soOk, hk]
    simp only [soS, soF, e, Bool.false_eq_true, if_false]
    exact sSentOff_no1 _ _ _ _ _ _ _ _ _ hd hx hk _

end Go.Proofs.Ytkkpeienbhbgeaa
