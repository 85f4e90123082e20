/-
  The law FnChunk returns true for every input. No condition.
-/
import Derived.Test.YtkkpeienbhbgeaaSdx
import Derived.Test.YtkkpeienbhbgeaaSpl
import Derived.Test.YtkkpeienbhbgeaaSndRw
import Derived.Test.YtkkpeienbhbgeaaSndQ
import Derived.Test.YtkkpeienbhbgeaaSndA
import Derived.Test.YtkkpeienbhbgeaaSndN
import Derived.Test.YtkkpeienbhbgeaaSndM
import Derived.Test.YtkkpeienbhbgeaaSndC
import Derived.Test.YtkkpeienbhbgeaaBytes
import Derived.Test.YtkkpeienbhbgeaaReg
import Derived.Deep.DeepCutAuto
import Derived.Deep.RegionHeld3
import Derived.IntWalk
namespace Go.Proofs.Ytkkpeienbhbgeaa
set_option maxRecDepth 100000
open Go.ChangeShapes Go.WideShapes Go.ChangeAt Go.RowKit Go.Deep

theorem nt_add (k t : Nat) : ((k : Int) + (t : Int)).toNat = k + t := by omega
theorem kz_add {k t n : Nat} (h : k + t ≤ n) : (k : Int) + (t : Int) ≤ (n : Int) := by omega
theorem kt_0 (k t : Nat) : (0 : Int) ≤ (k : Int) + (t : Int) := by omega
theorem kt_1 (k t : Nat) : (k : Int) ≤ (k : Int) + (t : Int) := by omega
theorem wrap_add {k t n : Nat} (h : k + t ≤ n) (hn : n ≤ 49) : IntKind.i64.wrap ((k : Int) + (t : Int)) = (k : Int) + (t : Int) := IntWalk.i64_in _ ⟨by omega, by omega⟩
theorem fly_f {k t n : Nat} (_h : k + t ≤ n) (_hn : n ≤ 49) : fly ((k + t : Nat) : Int) false = (k : Int) + (t : Int) := by
  unfold fly wrap64
  simp
  try omega
theorem fly_t {k t n : Nat} (h : k + t ≤ n) (hn : n ≤ 49) : fly ((k + t : Nat) : Int) true = (k : Int) + (t : Int) + 1 := by
  unfold fly wrap64
  simp
  try omega
theorem bd_f {k t n : Nat} (h : k + t ≤ n) (hn : n ≤ 49) : (0 : Int) ≤ (k : Int) + (t : Int) ∧ (k : Int) + (t : Int) ≤ 100 := by omega
theorem bd_t {k t n : Nat} (h : k + t ≤ n) (hn : n ≤ 49) : (0 : Int) ≤ (k : Int) + (t : Int) + 1 ∧ (k : Int) + (t : Int) + 1 ≤ 100 := by omega
theorem as_f (k t : Int) : k + t = k + t := rfl
theorem as_t (k t : Int) : k + (t + 1) = k + t + 1 := by omega
theorem cast_f {k t : Nat} {w : Int} (h : ((k + t : Nat) : Int) ≤ w) : (k : Int) + (t : Int) ≤ w := by omega
theorem cast_t {k t : Nat} {w : Int} (h : ((k + t + 1 : Nat) : Int) ≤ w) : (k : Int) + (t : Int) + 1 ≤ w := by omega
set_option maxHeartbeats 32000000 in
set_option linter.unusedSimpArgs false in
set_option linter.unusedVariables false in
theorem FnChunk_walk {A : Option Addr} {n c : Nat} (hn : n ≤ maxLen) (w : World) (hb : Byts w w.heap.size A n) :
    Calls Try.prog 11 #[.slice A n c] w fun e w' => e = .returned (.bool true) ∧ Below w.heap.size w w' := by
  have hlen := hn
  unfold maxLen at hlen
  by_cases hbig : (1048576 : Int) < n
  · go_enter Try.func11, Try.ntmps11
    go_wp2_with fail
    refine (big_any hn _).mono ?_
    rintro e w' ⟨rfl, rfl⟩
    go_wp2_with fail
    go_ret
    exact ⟨rfl, Below.refl _ _⟩
  go_enter Try.func11, Try.ntmps11
  go_wp2_with fail
  refine (big_any hn _).mono ?_
  rintro e w' ⟨rfl, rfl⟩
  go_wp2_with fail
  refine (DrawNextChunk_any hn hb).mono ?_
  rintro e w1 ⟨u, d, s, f, fs, dn, win, mss, rfl, hG, ⟨hwa, hwb⟩, ⟨hm1, hm2⟩, hb1⟩
  clear hb
  obtain ⟨⟨hu1, hu2⟩, hd49, hs1, hs2⟩ := hG
  have hdm : d.size ≤ maxLen := by unfold maxLen; omega
  have HDM := Lib.hid hdm
  clear hdm
  have hz1 := hb1.size
  have hw1 : Below w.heap.size w w1 := (by repeat (first | with_reducible exact Below.refl _ _ | with_reducible assumption | with_reducible refine Below.drew ?_ | with_reducible refine Below.alloc ?_ (by first | exact Nat.le_refl _ | omega | (simp; done) | (simp; omega)) _ | with_reducible refine Below.setCell ?_ (by first | exact Nat.le_refl _ | omega | (simp; done) | (simp; omega)) _ | (with_reducible refine ext_trans ?_ (by with_reducible assumption))))
  cases hk : sndB u d s f fs dn
  case false =>
    have Y1 := Lib.hid (fun W => sNextChunk_no u d s f fs dn win mss HDM.out hk W)
    have Y2 := Lib.hid (fun W => NextChunk_no u d s f fs dn win mss HDM.out hk W)
    go_wp2_with fail
    refine (Y2.out _).mono ?_
    rintro e w2 ⟨rfl, hb2⟩
    have hz2 := hb2.size
    (try simp at hz2)
    have rs_2 : w2.heap[w1.heap.size]? = some (.cells #[.int .i64 u, .string d, .int .i64 s, .bool f, .bool fs, .bool dn] 26 (0, 0)) := (hb2.block _ (by first | (simp; done) | (simp; omega))).trans (by repeat (first | exact heap_new _ _ _ (by first | rfl | (simp; done) | (simp; omega)) | refine (Below.heap_alloc _ _ _ (by first | omega | (simp; done) | (simp; omega))).trans ?_))
    have hw2 : Below w.heap.size w w2 := (by repeat (first | with_reducible exact Below.refl _ _ | with_reducible assumption | with_reducible refine Below.drew ?_ | with_reducible refine Below.alloc ?_ (by first | exact Nat.le_refl _ | omega | (simp; done) | (simp; omega)) _ | with_reducible refine Below.setCell ?_ (by first | exact Nat.le_refl _ | omega | (simp; done) | (simp; omega)) _ | (with_reducible refine ext_trans ?_ (by with_reducible assumption))))
    have lRs_2 : w1.heap.size < w2.heap.size := by omega
    have Rs_2 := Lib.hid rs_2
    have r0_rs_2 := cell_of_row _ _ 0 _ _ _ rs_2
    have r1_rs_2 := cell_of_row _ _ 1 _ _ _ rs_2
    have r2_rs_2 := cell_of_row _ _ 2 _ _ _ rs_2
    have r3_rs_2 := cell_of_row _ _ 3 _ _ _ rs_2
    have r4_rs_2 := cell_of_row _ _ 4 _ _ _ rs_2
    have r5_rs_2 := cell_of_row _ _ 5 _ _ _ rs_2
    have f0_rs_2 := frozen_of_row _ _ 0 _ _ rs_2
    have f1_rs_2 := frozen_of_row _ _ 1 _ _ rs_2
    have f2_rs_2 := frozen_of_row _ _ 2 _ _ rs_2
    have f3_rs_2 := frozen_of_row _ _ 3 _ _ rs_2
    have f4_rs_2 := frozen_of_row _ _ 4 _ _ rs_2
    have f5_rs_2 := frozen_of_row _ _ 5 _ _ rs_2
    simp at r0_rs_2 r1_rs_2 r2_rs_2 r3_rs_2 r4_rs_2 r5_rs_2
    clear rs_2
    go_wp2_with fail
    refine (Y1.out _).mono ?_
    rintro e w3 ⟨rfl, hb3⟩
    have hz3 := hb3.size
    (try simp at hz3)
    have rs_3 := (hb3.block _ (by first | omega | (simp; done) | (simp; omega))).trans ((Below.heap_alloc _ _ _ (by first | exact lRs_2 | (simp; omega))).trans Rs_2.out)
    have rc_3 : w3.heap[w2.heap.size]? = some (.cells #[.int .i64 0, .string ⟨#[]⟩, .bool false] 39 (0, 0)) := (hb3.block _ (by first | (simp; done) | (simp; omega))).trans (by repeat (first | exact heap_new _ _ _ (by first | rfl | (simp; done) | (simp; omega)) | refine (Below.heap_alloc _ _ _ (by first | omega | (simp; done) | (simp; omega))).trans ?_))
    have hw3 : Below w.heap.size w w3 := (by repeat (first | with_reducible exact Below.refl _ _ | with_reducible assumption | with_reducible refine Below.drew ?_ | with_reducible refine Below.alloc ?_ (by first | exact Nat.le_refl _ | omega | (simp; done) | (simp; omega)) _ | with_reducible refine Below.setCell ?_ (by first | exact Nat.le_refl _ | omega | (simp; done) | (simp; omega)) _ | (with_reducible refine ext_trans ?_ (by with_reducible assumption))))
    have lRs_3 : w1.heap.size < w3.heap.size := by omega
    have lRc_3 : w2.heap.size < w3.heap.size := by omega
    have Rs_3 := Lib.hid rs_3
    have r0_rs_3 := cell_of_row _ _ 0 _ _ _ rs_3
    have r1_rs_3 := cell_of_row _ _ 1 _ _ _ rs_3
    have r2_rs_3 := cell_of_row _ _ 2 _ _ _ rs_3
    have r3_rs_3 := cell_of_row _ _ 3 _ _ _ rs_3
    have r4_rs_3 := cell_of_row _ _ 4 _ _ _ rs_3
    have r5_rs_3 := cell_of_row _ _ 5 _ _ _ rs_3
    have f0_rs_3 := frozen_of_row _ _ 0 _ _ rs_3
    have f1_rs_3 := frozen_of_row _ _ 1 _ _ rs_3
    have f2_rs_3 := frozen_of_row _ _ 2 _ _ rs_3
    have f3_rs_3 := frozen_of_row _ _ 3 _ _ rs_3
    have f4_rs_3 := frozen_of_row _ _ 4 _ _ rs_3
    have f5_rs_3 := frozen_of_row _ _ 5 _ _ rs_3
    simp at r0_rs_3 r1_rs_3 r2_rs_3 r3_rs_3 r4_rs_3 r5_rs_3
    clear rs_3
    have Rc_3 := Lib.hid rc_3
    have r0_rc_3 := cell_of_row _ _ 0 _ _ _ rc_3
    have r1_rc_3 := cell_of_row _ _ 1 _ _ _ rc_3
    have r2_rc_3 := cell_of_row _ _ 2 _ _ _ rc_3
    have f0_rc_3 := frozen_of_row _ _ 0 _ _ rc_3
    have f1_rc_3 := frozen_of_row _ _ 1 _ _ rc_3
    have f2_rc_3 := frozen_of_row _ _ 2 _ _ rc_3
    simp at r0_rc_3 r1_rc_3 r2_rc_3
    clear rc_3
    clear r0_rs_2 f0_rs_2 r1_rs_2 f1_rs_2 r2_rs_2 f2_rs_2 r3_rs_2 f3_rs_2 r4_rs_2 f4_rs_2 r5_rs_2 f5_rs_2
    go_wp2_with fail
    have hb4 : Below w3.heap.size w3 (w3.alloc (.cells #[.int .i64 0, .string ⟨#[]⟩, .bool false] 39)) := (by repeat (first | with_reducible exact Below.refl _ _ | with_reducible assumption | with_reducible refine Below.drew ?_ | with_reducible refine Below.alloc ?_ (by first | exact Nat.le_refl _ | omega | (simp; done) | (simp; omega)) _ | with_reducible refine Below.setCell ?_ (by first | exact Nat.le_refl _ | omega | (simp; done) | (simp; omega)) _ | (with_reducible refine ext_trans ?_ (by with_reducible assumption))))
    have rd_4 : (w3.alloc (.cells #[.int .i64 0, .string ⟨#[]⟩, .bool false] 39)).heap[w3.heap.size]? = some (.cells #[.int .i64 0, .string ⟨#[]⟩, .bool false] 39 (0, 0)) := (by repeat (first | exact heap_new _ _ _ (by first | rfl | (simp; done) | (simp; omega)) | refine (Below.heap_alloc _ _ _ (by first | omega | (simp; done) | (simp; omega))).trans ?_))
    have lNd_4 : w3.heap.size < (w3.alloc (.cells #[.int .i64 0, .string ⟨#[]⟩, .bool false] 39)).heap.size := by simp
    generalize (w3.alloc (.cells #[.int .i64 0, .string ⟨#[]⟩, .bool false] 39)) = w4 at *
    have hz4 := hb4.size
    (try simp at hz4)
    have rs_4 := (hb4.block _ (by first | omega | (simp; done) | (simp; omega))).trans Rs_3.out
    have rc_4 := (hb4.block _ (by first | omega | (simp; done) | (simp; omega))).trans Rc_3.out
    have hw4 : Below w.heap.size w w4 := (by repeat (first | with_reducible exact Below.refl _ _ | with_reducible assumption | with_reducible refine Below.drew ?_ | with_reducible refine Below.alloc ?_ (by first | exact Nat.le_refl _ | omega | (simp; done) | (simp; omega)) _ | with_reducible refine Below.setCell ?_ (by first | exact Nat.le_refl _ | omega | (simp; done) | (simp; omega)) _ | (with_reducible refine ext_trans ?_ (by with_reducible assumption))))
    have lRs_4 : w1.heap.size < w4.heap.size := by omega
    have lRc_4 : w2.heap.size < w4.heap.size := by omega
    have lRd_4 : w3.heap.size < w4.heap.size := by omega
    have Rs_4 := Lib.hid rs_4
    have r0_rs_4 := cell_of_row _ _ 0 _ _ _ rs_4
    have r1_rs_4 := cell_of_row _ _ 1 _ _ _ rs_4
    have r2_rs_4 := cell_of_row _ _ 2 _ _ _ rs_4
    have r3_rs_4 := cell_of_row _ _ 3 _ _ _ rs_4
    have r4_rs_4 := cell_of_row _ _ 4 _ _ _ rs_4
    have r5_rs_4 := cell_of_row _ _ 5 _ _ _ rs_4
    have f0_rs_4 := frozen_of_row _ _ 0 _ _ rs_4
    have f1_rs_4 := frozen_of_row _ _ 1 _ _ rs_4
    have f2_rs_4 := frozen_of_row _ _ 2 _ _ rs_4
    have f3_rs_4 := frozen_of_row _ _ 3 _ _ rs_4
    have f4_rs_4 := frozen_of_row _ _ 4 _ _ rs_4
    have f5_rs_4 := frozen_of_row _ _ 5 _ _ rs_4
    simp at r0_rs_4 r1_rs_4 r2_rs_4 r3_rs_4 r4_rs_4 r5_rs_4
    clear rs_4
    have Rc_4 := Lib.hid rc_4
    have r0_rc_4 := cell_of_row _ _ 0 _ _ _ rc_4
    have r1_rc_4 := cell_of_row _ _ 1 _ _ _ rc_4
    have r2_rc_4 := cell_of_row _ _ 2 _ _ _ rc_4
    have f0_rc_4 := frozen_of_row _ _ 0 _ _ rc_4
    have f1_rc_4 := frozen_of_row _ _ 1 _ _ rc_4
    have f2_rc_4 := frozen_of_row _ _ 2 _ _ rc_4
    simp at r0_rc_4 r1_rc_4 r2_rc_4
    clear rc_4
    have Rd_4 := Lib.hid rd_4
    have r0_rd_4 := cell_of_row _ _ 0 _ _ _ rd_4
    have r1_rd_4 := cell_of_row _ _ 1 _ _ _ rd_4
    have r2_rd_4 := cell_of_row _ _ 2 _ _ _ rd_4
    have f0_rd_4 := frozen_of_row _ _ 0 _ _ rd_4
    have f1_rd_4 := frozen_of_row _ _ 1 _ _ rd_4
    have f2_rd_4 := frozen_of_row _ _ 2 _ _ rd_4
    simp at r0_rd_4 r1_rd_4 r2_rd_4
    clear rd_4
    clear r0_rs_3 f0_rs_3 r1_rs_3 f1_rs_3 r2_rs_3 f2_rs_3 r3_rs_3 f3_rs_3 r4_rs_3 f4_rs_3 r5_rs_3 f5_rs_3
    clear r0_rc_3 f0_rc_3 r1_rc_3 f1_rc_3 r2_rc_3 f2_rc_3
    go_wp2_with fail
    go_ret
    exact ⟨rfl, hw4⟩
  case true =>
    obtain ⟨k, rfl⟩ := Int.eq_ofNat_of_zero_le (sndB_sent hk).1
    have hkd : k ≤ d.size := by have := (sndB_sent hk).2; omega
    have h48 := sndB_le hk
    obtain ⟨⟨hv1, hv2⟩, -⟩ := sndB_iff.1 hk
    have y1 := fun W => sNextChunk_core u d k f fs dn win mss hk hkd h48 hwa hwb hm1 hm2 hu1 hu2 (fly k fs) rfl (d.extract k d.size) rfl (ext_size d k) _ rfl _ rfl W
    have y2 := fun W => NextChunk_core u d k f fs dn win mss hk hkd h48 hwa hwb hm1 hm2 (fly k fs) rfl (d.extract k d.size) rfl (ext_size d k) _ rfl _ rfl W
    rw [ext_size] at y1 y2
    obtain ⟨WW, hWW⟩ : ∃ X, effW win (fly k fs) = X := ⟨_, rfl⟩
    rw [hWW] at y1 y2
    obtain ⟨m, hm⟩ : ∃ X, chM (d.size - k) mss WW = X := ⟨_, rfl⟩
    rw [hm] at y1 y2
    by_cases ho : m = 0 ∧ chFin f fs dn (d.size - k) m WW = false
    case pos =>
      have hr : ∀ q T, chRes q T m (chFin f fs dn (d.size - k) m WW) = .tuple #[.agg #[.int .i64 0, .string ⟨#[]⟩, .bool false], .bool false] := fun q T => by unfold chRes; rw [if_pos ho]
      rw [hr] at y1 y2
      have Y1 := Lib.hid y1
      have Y2 := Lib.hid y2
      clear y1 y2 hr ho hm hWW hk
      go_wp2_with fail
      refine (Y2.out _).mono ?_
      rintro e w2 ⟨rfl, hb2⟩
      have hz2 := hb2.size
      (try simp at hz2)
      have rs_2 : w2.heap[w1.heap.size]? = some (.cells #[.int .i64 u, .string d, .int .i64 (k : Int), .bool f, .bool fs, .bool dn] 26 (0, 0)) := (hb2.block _ (by first | (simp; done) | (simp; omega))).trans (by repeat (first | exact heap_new _ _ _ (by first | rfl | (simp; done) | (simp; omega)) | refine (Below.heap_alloc _ _ _ (by first | omega | (simp; done) | (simp; omega))).trans ?_))
      have hw2 : Below w.heap.size w w2 := (by repeat (first | with_reducible exact Below.refl _ _ | with_reducible assumption | with_reducible refine Below.drew ?_ | with_reducible refine Below.alloc ?_ (by first | exact Nat.le_refl _ | omega | (simp; done) | (simp; omega)) _ | with_reducible refine Below.setCell ?_ (by first | exact Nat.le_refl _ | omega | (simp; done) | (simp; omega)) _ | (with_reducible refine ext_trans ?_ (by with_reducible assumption))))
      have lRs_2 : w1.heap.size < w2.heap.size := by omega
      have Rs_2 := Lib.hid rs_2
      have r0_rs_2 := cell_of_row _ _ 0 _ _ _ rs_2
      have r1_rs_2 := cell_of_row _ _ 1 _ _ _ rs_2
      have r2_rs_2 := cell_of_row _ _ 2 _ _ _ rs_2
      have r3_rs_2 := cell_of_row _ _ 3 _ _ _ rs_2
      have r4_rs_2 := cell_of_row _ _ 4 _ _ _ rs_2
      have r5_rs_2 := cell_of_row _ _ 5 _ _ _ rs_2
      have f0_rs_2 := frozen_of_row _ _ 0 _ _ rs_2
      have f1_rs_2 := frozen_of_row _ _ 1 _ _ rs_2
      have f2_rs_2 := frozen_of_row _ _ 2 _ _ rs_2
      have f3_rs_2 := frozen_of_row _ _ 3 _ _ rs_2
      have f4_rs_2 := frozen_of_row _ _ 4 _ _ rs_2
      have f5_rs_2 := frozen_of_row _ _ 5 _ _ rs_2
      simp at r0_rs_2 r1_rs_2 r2_rs_2 r3_rs_2 r4_rs_2 r5_rs_2
      clear rs_2
      go_wp2_with fail
      refine (Y1.out _).mono ?_
      rintro e w3 ⟨rfl, hb3⟩
      have hz3 := hb3.size
      (try simp at hz3)
      have rs_3 := (hb3.block _ (by first | omega | (simp; done) | (simp; omega))).trans ((Below.heap_alloc _ _ _ (by first | exact lRs_2 | (simp; omega))).trans Rs_2.out)
      have rc_3 : w3.heap[w2.heap.size]? = some (.cells #[.int .i64 0, .string ⟨#[]⟩, .bool false] 39 (0, 0)) := (hb3.block _ (by first | (simp; done) | (simp; omega))).trans (by repeat (first | exact heap_new _ _ _ (by first | rfl | (simp; done) | (simp; omega)) | refine (Below.heap_alloc _ _ _ (by first | omega | (simp; done) | (simp; omega))).trans ?_))
      have hw3 : Below w.heap.size w w3 := (by repeat (first | with_reducible exact Below.refl _ _ | with_reducible assumption | with_reducible refine Below.drew ?_ | with_reducible refine Below.alloc ?_ (by first | exact Nat.le_refl _ | omega | (simp; done) | (simp; omega)) _ | with_reducible refine Below.setCell ?_ (by first | exact Nat.le_refl _ | omega | (simp; done) | (simp; omega)) _ | (with_reducible refine ext_trans ?_ (by with_reducible assumption))))
      have lRs_3 : w1.heap.size < w3.heap.size := by omega
      have lRc_3 : w2.heap.size < w3.heap.size := by omega
      have Rs_3 := Lib.hid rs_3
      have r0_rs_3 := cell_of_row _ _ 0 _ _ _ rs_3
      have r1_rs_3 := cell_of_row _ _ 1 _ _ _ rs_3
      have r2_rs_3 := cell_of_row _ _ 2 _ _ _ rs_3
      have r3_rs_3 := cell_of_row _ _ 3 _ _ _ rs_3
      have r4_rs_3 := cell_of_row _ _ 4 _ _ _ rs_3
      have r5_rs_3 := cell_of_row _ _ 5 _ _ _ rs_3
      have f0_rs_3 := frozen_of_row _ _ 0 _ _ rs_3
      have f1_rs_3 := frozen_of_row _ _ 1 _ _ rs_3
      have f2_rs_3 := frozen_of_row _ _ 2 _ _ rs_3
      have f3_rs_3 := frozen_of_row _ _ 3 _ _ rs_3
      have f4_rs_3 := frozen_of_row _ _ 4 _ _ rs_3
      have f5_rs_3 := frozen_of_row _ _ 5 _ _ rs_3
      simp at r0_rs_3 r1_rs_3 r2_rs_3 r3_rs_3 r4_rs_3 r5_rs_3
      clear rs_3
      have Rc_3 := Lib.hid rc_3
      have r0_rc_3 := cell_of_row _ _ 0 _ _ _ rc_3
      have r1_rc_3 := cell_of_row _ _ 1 _ _ _ rc_3
      have r2_rc_3 := cell_of_row _ _ 2 _ _ _ rc_3
      have f0_rc_3 := frozen_of_row _ _ 0 _ _ rc_3
      have f1_rc_3 := frozen_of_row _ _ 1 _ _ rc_3
      have f2_rc_3 := frozen_of_row _ _ 2 _ _ rc_3
      simp at r0_rc_3 r1_rc_3 r2_rc_3
      clear rc_3
      clear r0_rs_2 f0_rs_2 r1_rs_2 f1_rs_2 r2_rs_2 f2_rs_2 r3_rs_2 f3_rs_2 r4_rs_2 f4_rs_2 r5_rs_2 f5_rs_2
      go_wp2_with fail
      have hb4 : Below w3.heap.size w3 (w3.alloc (.cells #[.int .i64 0, .string ⟨#[]⟩, .bool false] 39)) := (by repeat (first | with_reducible exact Below.refl _ _ | with_reducible assumption | with_reducible refine Below.drew ?_ | with_reducible refine Below.alloc ?_ (by first | exact Nat.le_refl _ | omega | (simp; done) | (simp; omega)) _ | with_reducible refine Below.setCell ?_ (by first | exact Nat.le_refl _ | omega | (simp; done) | (simp; omega)) _ | (with_reducible refine ext_trans ?_ (by with_reducible assumption))))
      have rd_4 : (w3.alloc (.cells #[.int .i64 0, .string ⟨#[]⟩, .bool false] 39)).heap[w3.heap.size]? = some (.cells #[.int .i64 0, .string ⟨#[]⟩, .bool false] 39 (0, 0)) := (by repeat (first | exact heap_new _ _ _ (by first | rfl | (simp; done) | (simp; omega)) | refine (Below.heap_alloc _ _ _ (by first | omega | (simp; done) | (simp; omega))).trans ?_))
      have lNd_4 : w3.heap.size < (w3.alloc (.cells #[.int .i64 0, .string ⟨#[]⟩, .bool false] 39)).heap.size := by simp
      generalize (w3.alloc (.cells #[.int .i64 0, .string ⟨#[]⟩, .bool false] 39)) = w4 at *
      have hz4 := hb4.size
      (try simp at hz4)
      have rs_4 := (hb4.block _ (by first | omega | (simp; done) | (simp; omega))).trans Rs_3.out
      have rc_4 := (hb4.block _ (by first | omega | (simp; done) | (simp; omega))).trans Rc_3.out
      have hw4 : Below w.heap.size w w4 := (by repeat (first | with_reducible exact Below.refl _ _ | with_reducible assumption | with_reducible refine Below.drew ?_ | with_reducible refine Below.alloc ?_ (by first | exact Nat.le_refl _ | omega | (simp; done) | (simp; omega)) _ | with_reducible refine Below.setCell ?_ (by first | exact Nat.le_refl _ | omega | (simp; done) | (simp; omega)) _ | (with_reducible refine ext_trans ?_ (by with_reducible assumption))))
      have lRs_4 : w1.heap.size < w4.heap.size := by omega
      have lRc_4 : w2.heap.size < w4.heap.size := by omega
      have lRd_4 : w3.heap.size < w4.heap.size := by omega
      have Rs_4 := Lib.hid rs_4
      have r0_rs_4 := cell_of_row _ _ 0 _ _ _ rs_4
      have r1_rs_4 := cell_of_row _ _ 1 _ _ _ rs_4
      have r2_rs_4 := cell_of_row _ _ 2 _ _ _ rs_4
      have r3_rs_4 := cell_of_row _ _ 3 _ _ _ rs_4
      have r4_rs_4 := cell_of_row _ _ 4 _ _ _ rs_4
      have r5_rs_4 := cell_of_row _ _ 5 _ _ _ rs_4
      have f0_rs_4 := frozen_of_row _ _ 0 _ _ rs_4
      have f1_rs_4 := frozen_of_row _ _ 1 _ _ rs_4
      have f2_rs_4 := frozen_of_row _ _ 2 _ _ rs_4
      have f3_rs_4 := frozen_of_row _ _ 3 _ _ rs_4
      have f4_rs_4 := frozen_of_row _ _ 4 _ _ rs_4
      have f5_rs_4 := frozen_of_row _ _ 5 _ _ rs_4
      simp at r0_rs_4 r1_rs_4 r2_rs_4 r3_rs_4 r4_rs_4 r5_rs_4
      clear rs_4
      have Rc_4 := Lib.hid rc_4
      have r0_rc_4 := cell_of_row _ _ 0 _ _ _ rc_4
      have r1_rc_4 := cell_of_row _ _ 1 _ _ _ rc_4
      have r2_rc_4 := cell_of_row _ _ 2 _ _ _ rc_4
      have f0_rc_4 := frozen_of_row _ _ 0 _ _ rc_4
      have f1_rc_4 := frozen_of_row _ _ 1 _ _ rc_4
      have f2_rc_4 := frozen_of_row _ _ 2 _ _ rc_4
      simp at r0_rc_4 r1_rc_4 r2_rc_4
      clear rc_4
      have Rd_4 := Lib.hid rd_4
      have r0_rd_4 := cell_of_row _ _ 0 _ _ _ rd_4
      have r1_rd_4 := cell_of_row _ _ 1 _ _ _ rd_4
      have r2_rd_4 := cell_of_row _ _ 2 _ _ _ rd_4
      have f0_rd_4 := frozen_of_row _ _ 0 _ _ rd_4
      have f1_rd_4 := frozen_of_row _ _ 1 _ _ rd_4
      have f2_rd_4 := frozen_of_row _ _ 2 _ _ rd_4
      simp at r0_rd_4 r1_rd_4 r2_rd_4
      clear rd_4
      clear r0_rs_3 f0_rs_3 r1_rs_3 f1_rs_3 r2_rs_3 f2_rs_3 r3_rs_3 f3_rs_3 r4_rs_3 f4_rs_3 r5_rs_3 f5_rs_3
      clear r0_rc_3 f0_rc_3 r1_rc_3 f1_rc_3 r2_rc_3 f2_rc_3
      go_wp2_with fail
      go_ret
      exact ⟨rfl, hw4⟩
    case neg =>
      obtain ⟨rfl, rfl, c3, -, c5, c6, c7, c8⟩ := chunk_facts hk hWW hm ho
      have hs2x : (k : Int) ≤ 9223372036854775807 := by omega
      have C5 := Lib.hid c5
      have C7 := Lib.hid c7
      clear c5 c7
      have hr : ∀ q T, chRes q T m (chFin f false false (d.size - k) m WW) = .tuple #[.agg #[.int .i64 q, .string T, .bool (chFin f false false (d.size - k) m WW)], .bool true] := fun q T => by unfold chRes; rw [if_neg ho]
      rw [hr, ext_ext d k m c3] at y1 y2
      obtain ⟨fin, hfin⟩ : ∃ X, chFin f false false (d.size - k) m WW = X := ⟨_, rfl⟩
      rw [hfin] at y1 y2 c6 C7
      obtain ⟨T, hT⟩ : ∃ X, d.extract k (k + m) = X := ⟨_, rfl⟩
      have hTz : T.size = m := by rw [← hT]; simp; omega
      subst hTz
      rw [hT] at y1 y2
      rw [show fly (k : Int) false = (k : Int) from rfl] at y1 y2
      have hT48 : (T.size : Int) ≤ 48 := by omega
      have hff : (fin && (!f || false)) = false := by
        cases fin with
        | false => rfl
        | true =>
          have := ((sndB_iff.1 c6).2.2.2.1 rfl).1
          simp [this]
      have hwz : wrap64 ((k : Int) + (T.size : Int)) = ((k + T.size : Nat) : Int) := by unfold wrap64; omega
      have hTm : T.size ≤ maxLen := by unfold maxLen; omega
      have y3 := fun W => SentOff_yes u d k f false false (seqAdd u k) T fin HDM.out hTm hk (by rw [hwz]; exact c6) hff W
      have y4 := fun W => sSentOff_yes u d k f false false (seqAdd u k) T fin HDM.out hTm hk (by rw [hwz]; exact c6) hff W
      rw [hwz] at y3 y4
      simp only [Bool.false_or] at y3 y4
      have y5 := fun W => SenderOk_any u d ((k + T.size : Nat) : Int) f fin false HDM.out W
      rw [c6] at y5
      have y6 := fun W => sNextOf_any u d k f false false hu1 hu2 (Int.le_trans (by decide) hs1) hs2x W
      rw [show fly (k : Int) false = (k : Int) from rfl] at y6
      have hcz : ((k + T.size : Nat) : Int) = (k : Int) + (T.size : Int) := Int.natCast_add _ _
      have hnt : ((k : Int) + (T.size : Int)).toNat = k + T.size := nt_add _ _
      have hkz : (k : Int) + (T.size : Int) ≤ (d.size : Int) := kz_add c3
      have hkt0 : (0 : Int) ≤ (k : Int) + (T.size : Int) := kt_0 _ _
      have hkt1 : (k : Int) ≤ (k : Int) + (T.size : Int) := kt_1 _ _
      have hwk : IntKind.i64.wrap ((k : Int) + (T.size : Int)) = (k : Int) + (T.size : Int) := wrap_add c3 hd49
      cases fin
      case false =>
        have hfl : fly ((k + T.size : Nat) : Int) false = (k : Int) + (T.size : Int) := fly_f c3 hd49
        have y7 := fun W => NextOf_any u d ((k + T.size : Nat) : Int) f false false W
        rw [hfl] at y7
        have hsd : seqDiff (seqAdd u ((k : Int) + (T.size : Int))) u = (k : Int) + (T.size : Int) := seqDiff_add hv1 hv2 (bd_f c3 hd49).1 (bd_f c3 hd49).2
        have y8 := fun W => SeqDiff_any (seqAdd u ((k : Int) + (T.size : Int))) u W
        rw [hsd] at y8
        have hsa : seqAdd (seqAdd u k) ((T.size : Int)) = seqAdd u ((k : Int) + (T.size : Int)) := (seqAdd_add _ _ _).trans (congrArg (seqAdd u) (as_f _ _))
        have y9 := fun W => SeqAdd_any (seqAdd u k) ((T.size : Int)) W
        rw [hsa] at y9
        have hwin : (k : Int) + (T.size : Int) ≤ win := by exact cast_f c8
        rw [hcz] at y3 y4 y5 y7
        have Y1 := Lib.hid y1
        have Y2 := Lib.hid y2
        have Y3 := Lib.hid y3
        have Y4 := Lib.hid y4
        have Y5 := Lib.hid y5
        have Y6 := Lib.hid y6
        have Y7 := Lib.hid y7
        have Y8 := Lib.hid y8
        have Y9 := Lib.hid y9
        have HT := Lib.hid hT
        obtain ⟨NX, hNX⟩ : ∃ X, seqAdd u ((k : Int) + (T.size : Int)) = X := ⟨_, rfl⟩
        obtain ⟨QQ, hQQ⟩ : ∃ X, seqAdd u k = X := ⟨_, rfl⟩
        rw [hNX] at Y7 Y8 Y9
        rw [hQQ] at Y1 Y2 Y3 Y4 Y6 Y9
        clear y1 y2 y3 y4 y5 y6 y7 y8 y9 hr ho hm hWW hk hfin hfl hsd hsa hNX hQQ hcz hwz hff c6 C7 c8 hT
        by_cases hms : (T.size : Int) ≤ mss
        case pos =>
          go_wp2_with fail
          refine (Y2.out _).mono ?_
          rintro e w2 ⟨rfl, hb2⟩
          have hz2 := hb2.size
          (try simp at hz2)
          have rs_2 : w2.heap[w1.heap.size]? = some (.cells #[.int .i64 u, .string d, .int .i64 (k : Int), .bool f, .bool false, .bool false] 26 (0, 0)) := (hb2.block _ (by first | (simp; done) | (simp; omega))).trans (by repeat (first | exact heap_new _ _ _ (by first | rfl | (simp; done) | (simp; omega)) | refine (Below.heap_alloc _ _ _ (by first | omega | (simp; done) | (simp; omega))).trans ?_))
          have hw2 : Below w.heap.size w w2 := (by repeat (first | with_reducible exact Below.refl _ _ | with_reducible assumption | with_reducible refine Below.drew ?_ | with_reducible refine Below.alloc ?_ (by first | exact Nat.le_refl _ | omega | (simp; done) | (simp; omega)) _ | with_reducible refine Below.setCell ?_ (by first | exact Nat.le_refl _ | omega | (simp; done) | (simp; omega)) _ | (with_reducible refine ext_trans ?_ (by with_reducible assumption))))
          have lRs_2 : w1.heap.size < w2.heap.size := by omega
          have Rs_2 := Lib.hid rs_2
          have r0_rs_2 := cell_of_row _ _ 0 _ _ _ rs_2
          have r1_rs_2 := cell_of_row _ _ 1 _ _ _ rs_2
          have r2_rs_2 := cell_of_row _ _ 2 _ _ _ rs_2
          have r3_rs_2 := cell_of_row _ _ 3 _ _ _ rs_2
          have r4_rs_2 := cell_of_row _ _ 4 _ _ _ rs_2
          have r5_rs_2 := cell_of_row _ _ 5 _ _ _ rs_2
          have f0_rs_2 := frozen_of_row _ _ 0 _ _ rs_2
          have f1_rs_2 := frozen_of_row _ _ 1 _ _ rs_2
          have f2_rs_2 := frozen_of_row _ _ 2 _ _ rs_2
          have f3_rs_2 := frozen_of_row _ _ 3 _ _ rs_2
          have f4_rs_2 := frozen_of_row _ _ 4 _ _ rs_2
          have f5_rs_2 := frozen_of_row _ _ 5 _ _ rs_2
          simp at r0_rs_2 r1_rs_2 r2_rs_2 r3_rs_2 r4_rs_2 r5_rs_2
          clear rs_2
          go_wp2_with fail
          refine (Y1.out _).mono ?_
          rintro e w3 ⟨rfl, hb3⟩
          have hz3 := hb3.size
          (try simp at hz3)
          have rs_3 := (hb3.block _ (by first | omega | (simp; done) | (simp; omega))).trans ((Below.heap_alloc _ _ _ (by first | exact lRs_2 | (simp; omega))).trans Rs_2.out)
          have rc_3 : w3.heap[w2.heap.size]? = some (.cells #[.int .i64 QQ, .string T, .bool false] 39 (0, 0)) := (hb3.block _ (by first | (simp; done) | (simp; omega))).trans (by repeat (first | exact heap_new _ _ _ (by first | rfl | (simp; done) | (simp; omega)) | refine (Below.heap_alloc _ _ _ (by first | omega | (simp; done) | (simp; omega))).trans ?_))
          have hw3 : Below w.heap.size w w3 := (by repeat (first | with_reducible exact Below.refl _ _ | with_reducible assumption | with_reducible refine Below.drew ?_ | with_reducible refine Below.alloc ?_ (by first | exact Nat.le_refl _ | omega | (simp; done) | (simp; omega)) _ | with_reducible refine Below.setCell ?_ (by first | exact Nat.le_refl _ | omega | (simp; done) | (simp; omega)) _ | (with_reducible refine ext_trans ?_ (by with_reducible assumption))))
          have lRs_3 : w1.heap.size < w3.heap.size := by omega
          have lRc_3 : w2.heap.size < w3.heap.size := by omega
          have Rs_3 := Lib.hid rs_3
          have r0_rs_3 := cell_of_row _ _ 0 _ _ _ rs_3
          have r1_rs_3 := cell_of_row _ _ 1 _ _ _ rs_3
          have r2_rs_3 := cell_of_row _ _ 2 _ _ _ rs_3
          have r3_rs_3 := cell_of_row _ _ 3 _ _ _ rs_3
          have r4_rs_3 := cell_of_row _ _ 4 _ _ _ rs_3
          have r5_rs_3 := cell_of_row _ _ 5 _ _ _ rs_3
          have f0_rs_3 := frozen_of_row _ _ 0 _ _ rs_3
          have f1_rs_3 := frozen_of_row _ _ 1 _ _ rs_3
          have f2_rs_3 := frozen_of_row _ _ 2 _ _ rs_3
          have f3_rs_3 := frozen_of_row _ _ 3 _ _ rs_3
          have f4_rs_3 := frozen_of_row _ _ 4 _ _ rs_3
          have f5_rs_3 := frozen_of_row _ _ 5 _ _ rs_3
          simp at r0_rs_3 r1_rs_3 r2_rs_3 r3_rs_3 r4_rs_3 r5_rs_3
          clear rs_3
          have Rc_3 := Lib.hid rc_3
          have r0_rc_3 := cell_of_row _ _ 0 _ _ _ rc_3
          have r1_rc_3 := cell_of_row _ _ 1 _ _ _ rc_3
          have r2_rc_3 := cell_of_row _ _ 2 _ _ _ rc_3
          have f0_rc_3 := frozen_of_row _ _ 0 _ _ rc_3
          have f1_rc_3 := frozen_of_row _ _ 1 _ _ rc_3
          have f2_rc_3 := frozen_of_row _ _ 2 _ _ rc_3
          simp at r0_rc_3 r1_rc_3 r2_rc_3
          clear rc_3
          clear r0_rs_2 f0_rs_2 r1_rs_2 f1_rs_2 r2_rs_2 f2_rs_2 r3_rs_2 f3_rs_2 r4_rs_2 f4_rs_2 r5_rs_2 f5_rs_2
          go_wp2_with fail
          refine (Y3.out _).mono ?_
          rintro e w4 ⟨rfl, hb4⟩
          have hz4 := hb4.size
          (try simp at hz4)
          have rs_4 := (hb4.block _ (by first | omega | (simp; done) | (simp; omega))).trans ((Below.heap_alloc _ _ _ (by first | exact lRs_3 | (simp; omega))).trans Rs_3.out)
          have rc_4 := (hb4.block _ (by first | omega | (simp; done) | (simp; omega))).trans ((Below.heap_alloc _ _ _ (by first | exact lRc_3 | (simp; omega))).trans Rc_3.out)
          have rd_4 : w4.heap[w3.heap.size]? = some (.cells #[.int .i64 QQ, .string T, .bool false] 39 (0, 0)) := (hb4.block _ (by first | (simp; done) | (simp; omega))).trans (by repeat (first | exact heap_new _ _ _ (by first | rfl | (simp; done) | (simp; omega)) | refine (Below.heap_alloc _ _ _ (by first | omega | (simp; done) | (simp; omega))).trans ?_))
          have hw4 : Below w.heap.size w w4 := (by repeat (first | with_reducible exact Below.refl _ _ | with_reducible assumption | with_reducible refine Below.drew ?_ | with_reducible refine Below.alloc ?_ (by first | exact Nat.le_refl _ | omega | (simp; done) | (simp; omega)) _ | with_reducible refine Below.setCell ?_ (by first | exact Nat.le_refl _ | omega | (simp; done) | (simp; omega)) _ | (with_reducible refine ext_trans ?_ (by with_reducible assumption))))
          have lRs_4 : w1.heap.size < w4.heap.size := by omega
          have lRc_4 : w2.heap.size < w4.heap.size := by omega
          have lRd_4 : w3.heap.size < w4.heap.size := by omega
          have Rs_4 := Lib.hid rs_4
          have r0_rs_4 := cell_of_row _ _ 0 _ _ _ rs_4
          have r1_rs_4 := cell_of_row _ _ 1 _ _ _ rs_4
          have r2_rs_4 := cell_of_row _ _ 2 _ _ _ rs_4
          have r3_rs_4 := cell_of_row _ _ 3 _ _ _ rs_4
          have r4_rs_4 := cell_of_row _ _ 4 _ _ _ rs_4
          have r5_rs_4 := cell_of_row _ _ 5 _ _ _ rs_4
          have f0_rs_4 := frozen_of_row _ _ 0 _ _ rs_4
          have f1_rs_4 := frozen_of_row _ _ 1 _ _ rs_4
          have f2_rs_4 := frozen_of_row _ _ 2 _ _ rs_4
          have f3_rs_4 := frozen_of_row _ _ 3 _ _ rs_4
          have f4_rs_4 := frozen_of_row _ _ 4 _ _ rs_4
          have f5_rs_4 := frozen_of_row _ _ 5 _ _ rs_4
          simp at r0_rs_4 r1_rs_4 r2_rs_4 r3_rs_4 r4_rs_4 r5_rs_4
          clear rs_4
          have Rc_4 := Lib.hid rc_4
          have r0_rc_4 := cell_of_row _ _ 0 _ _ _ rc_4
          have r1_rc_4 := cell_of_row _ _ 1 _ _ _ rc_4
          have r2_rc_4 := cell_of_row _ _ 2 _ _ _ rc_4
          have f0_rc_4 := frozen_of_row _ _ 0 _ _ rc_4
          have f1_rc_4 := frozen_of_row _ _ 1 _ _ rc_4
          have f2_rc_4 := frozen_of_row _ _ 2 _ _ rc_4
          simp at r0_rc_4 r1_rc_4 r2_rc_4
          clear rc_4
          have Rd_4 := Lib.hid rd_4
          have r0_rd_4 := cell_of_row _ _ 0 _ _ _ rd_4
          have r1_rd_4 := cell_of_row _ _ 1 _ _ _ rd_4
          have r2_rd_4 := cell_of_row _ _ 2 _ _ _ rd_4
          have f0_rd_4 := frozen_of_row _ _ 0 _ _ rd_4
          have f1_rd_4 := frozen_of_row _ _ 1 _ _ rd_4
          have f2_rd_4 := frozen_of_row _ _ 2 _ _ rd_4
          simp at r0_rd_4 r1_rd_4 r2_rd_4
          clear rd_4
          clear r0_rs_3 f0_rs_3 r1_rs_3 f1_rs_3 r2_rs_3 f2_rs_3 r3_rs_3 f3_rs_3 r4_rs_3 f4_rs_3 r5_rs_3 f5_rs_3
          clear r0_rc_3 f0_rc_3 r1_rc_3 f1_rc_3 r2_rc_3 f2_rc_3
          go_wp2_with fail
          have hb5 : Below w4.heap.size w4 (w4.alloc (.cells #[.int .i64 u, .string d, .int .i64 ((k : Int) + (T.size : Int)), .bool f, .bool false, .bool false] 26)) := (by repeat (first | with_reducible exact Below.refl _ _ | with_reducible assumption | with_reducible refine Below.drew ?_ | with_reducible refine Below.alloc ?_ (by first | exact Nat.le_refl _ | omega | (simp; done) | (simp; omega)) _ | with_reducible refine Below.setCell ?_ (by first | exact Nat.le_refl _ | omega | (simp; done) | (simp; omega)) _ | (with_reducible refine ext_trans ?_ (by with_reducible assumption))))
          have rx_5 : (w4.alloc (.cells #[.int .i64 u, .string d, .int .i64 ((k : Int) + (T.size : Int)), .bool f, .bool false, .bool false] 26)).heap[w4.heap.size]? = some (.cells #[.int .i64 u, .string d, .int .i64 ((k : Int) + (T.size : Int)), .bool f, .bool false, .bool false] 26 (0, 0)) := (by repeat (first | exact heap_new _ _ _ (by first | rfl | (simp; done) | (simp; omega)) | refine (Below.heap_alloc _ _ _ (by first | omega | (simp; done) | (simp; omega))).trans ?_))
          have lNx_5 : w4.heap.size < (w4.alloc (.cells #[.int .i64 u, .string d, .int .i64 ((k : Int) + (T.size : Int)), .bool f, .bool false, .bool false] 26)).heap.size := by simp
          generalize (w4.alloc (.cells #[.int .i64 u, .string d, .int .i64 ((k : Int) + (T.size : Int)), .bool f, .bool false, .bool false] 26)) = w5 at *
          have hz5 := hb5.size
          (try simp at hz5)
          have rs_5 := (hb5.block _ (by first | omega | (simp; done) | (simp; omega))).trans Rs_4.out
          have rc_5 := (hb5.block _ (by first | omega | (simp; done) | (simp; omega))).trans Rc_4.out
          have rd_5 := (hb5.block _ (by first | omega | (simp; done) | (simp; omega))).trans Rd_4.out
          have hw5 : Below w.heap.size w w5 := (by repeat (first | with_reducible exact Below.refl _ _ | with_reducible assumption | with_reducible refine Below.drew ?_ | with_reducible refine Below.alloc ?_ (by first | exact Nat.le_refl _ | omega | (simp; done) | (simp; omega)) _ | with_reducible refine Below.setCell ?_ (by first | exact Nat.le_refl _ | omega | (simp; done) | (simp; omega)) _ | (with_reducible refine ext_trans ?_ (by with_reducible assumption))))
          have lRs_5 : w1.heap.size < w5.heap.size := by omega
          have lRc_5 : w2.heap.size < w5.heap.size := by omega
          have lRd_5 : w3.heap.size < w5.heap.size := by omega
          have lRx_5 : w4.heap.size < w5.heap.size := by omega
          have Rs_5 := Lib.hid rs_5
          have r0_rs_5 := cell_of_row _ _ 0 _ _ _ rs_5
          have r1_rs_5 := cell_of_row _ _ 1 _ _ _ rs_5
          have r2_rs_5 := cell_of_row _ _ 2 _ _ _ rs_5
          have r3_rs_5 := cell_of_row _ _ 3 _ _ _ rs_5
          have r4_rs_5 := cell_of_row _ _ 4 _ _ _ rs_5
          have r5_rs_5 := cell_of_row _ _ 5 _ _ _ rs_5
          have f0_rs_5 := frozen_of_row _ _ 0 _ _ rs_5
          have f1_rs_5 := frozen_of_row _ _ 1 _ _ rs_5
          have f2_rs_5 := frozen_of_row _ _ 2 _ _ rs_5
          have f3_rs_5 := frozen_of_row _ _ 3 _ _ rs_5
          have f4_rs_5 := frozen_of_row _ _ 4 _ _ rs_5
          have f5_rs_5 := frozen_of_row _ _ 5 _ _ rs_5
          simp at r0_rs_5 r1_rs_5 r2_rs_5 r3_rs_5 r4_rs_5 r5_rs_5
          clear rs_5
          have Rc_5 := Lib.hid rc_5
          have r0_rc_5 := cell_of_row _ _ 0 _ _ _ rc_5
          have r1_rc_5 := cell_of_row _ _ 1 _ _ _ rc_5
          have r2_rc_5 := cell_of_row _ _ 2 _ _ _ rc_5
          have f0_rc_5 := frozen_of_row _ _ 0 _ _ rc_5
          have f1_rc_5 := frozen_of_row _ _ 1 _ _ rc_5
          have f2_rc_5 := frozen_of_row _ _ 2 _ _ rc_5
          simp at r0_rc_5 r1_rc_5 r2_rc_5
          clear rc_5
          have Rd_5 := Lib.hid rd_5
          have r0_rd_5 := cell_of_row _ _ 0 _ _ _ rd_5
          have r1_rd_5 := cell_of_row _ _ 1 _ _ _ rd_5
          have r2_rd_5 := cell_of_row _ _ 2 _ _ _ rd_5
          have f0_rd_5 := frozen_of_row _ _ 0 _ _ rd_5
          have f1_rd_5 := frozen_of_row _ _ 1 _ _ rd_5
          have f2_rd_5 := frozen_of_row _ _ 2 _ _ rd_5
          simp at r0_rd_5 r1_rd_5 r2_rd_5
          clear rd_5
          have Rx_5 := Lib.hid rx_5
          have r0_rx_5 := cell_of_row _ _ 0 _ _ _ rx_5
          have r1_rx_5 := cell_of_row _ _ 1 _ _ _ rx_5
          have r2_rx_5 := cell_of_row _ _ 2 _ _ _ rx_5
          have r3_rx_5 := cell_of_row _ _ 3 _ _ _ rx_5
          have r4_rx_5 := cell_of_row _ _ 4 _ _ _ rx_5
          have r5_rx_5 := cell_of_row _ _ 5 _ _ _ rx_5
          have f0_rx_5 := frozen_of_row _ _ 0 _ _ rx_5
          have f1_rx_5 := frozen_of_row _ _ 1 _ _ rx_5
          have f2_rx_5 := frozen_of_row _ _ 2 _ _ rx_5
          have f3_rx_5 := frozen_of_row _ _ 3 _ _ rx_5
          have f4_rx_5 := frozen_of_row _ _ 4 _ _ rx_5
          have f5_rx_5 := frozen_of_row _ _ 5 _ _ rx_5
          simp at r0_rx_5 r1_rx_5 r2_rx_5 r3_rx_5 r4_rx_5 r5_rx_5
          clear rx_5
          clear r0_rs_4 f0_rs_4 r1_rs_4 f1_rs_4 r2_rs_4 f2_rs_4 r3_rs_4 f3_rs_4 r4_rs_4 f4_rs_4 r5_rs_4 f5_rs_4
          clear r0_rc_4 f0_rc_4 r1_rc_4 f1_rc_4 r2_rc_4 f2_rc_4
          clear r0_rd_4 f0_rd_4 r1_rd_4 f1_rd_4 r2_rd_4 f2_rd_4
          go_wp2_with fail
          go_cut [63] (fun z wx => z = .bool false ∧ Below w5.heap.size w5 wx)
          case first =>
            first | go_region_held3 (fun w' => (∀ b' o, b' < (w5).heap.size → w'.cell? ⟨b', o, none⟩ = (w5).cell? ⟨b', o, none⟩) ∧ Below (w5).heap.size (w5) w') (first | with_reducible assumption | (with_reducible apply rg_keep; rotate_left; with_reducible assumption; with_reducible assumption) | with_reducible exact rg_start _ | with_reducible exact rg_alloc (KeptS.out (by with_reducible assumption)) _ | with_reducible exact rg_alloc (by with_reducible assumption) _ | with_reducible exact rg_start_alloc _ _ | ((repeat (with_reducible refine rg_set ?_ _ (by first | exact Nat.le_refl _ | omega | (simp; done) | (simp; omega)) _)); first | with_reducible exact KeptS.out (by with_reducible assumption) | with_reducible assumption | with_reducible exact rg_alloc (KeptS.out (by with_reducible assumption)) _)) (first | (go_at_call 19; ((with_reducible refine (Y5.out _).mono ?_); (rintro e wA ⟨rfl, hbA⟩; have hSA := rg_keepK (by first | with_reducible assumption | exact KeptS.out (by with_reducible assumption)) hbA))) | (go_at_call 26; ((with_reducible refine (Y4.out _).mono ?_); (rintro e wB ⟨rfl, hbB⟩; have hSB := rg_keepK (by first | with_reducible assumption | exact KeptS.out (by with_reducible assumption)) hbB))) | (go_at_call 15; ((with_reducible refine (Y6.out _).mono ?_); (rintro e wC ⟨rfl, hbC⟩; have hSC := rg_keepK (by first | with_reducible assumption | exact KeptS.out (by with_reducible assumption)) hbC)))) | fail
            all_goals (go_wp2_with fail; go_meet; exact ⟨rfl, (by assumption : _ ∧ Below w5.heap.size w5 wC).2⟩)
          case rest =>
          obtain ⟨rfl, hb6⟩ := hcut
          rename World => w6
          have hz6 := hb6.size
          (try simp at hz6)
          have rs_6 := (hb6.block _ (by first | omega | (simp; done) | (simp; omega))).trans Rs_5.out
          have rc_6 := (hb6.block _ (by first | omega | (simp; done) | (simp; omega))).trans Rc_5.out
          have rd_6 := (hb6.block _ (by first | omega | (simp; done) | (simp; omega))).trans Rd_5.out
          have rx_6 := (hb6.block _ (by first | omega | (simp; done) | (simp; omega))).trans Rx_5.out
          have hw6 : Below w.heap.size w w6 := (by repeat (first | with_reducible exact Below.refl _ _ | with_reducible assumption | with_reducible refine Below.drew ?_ | with_reducible refine Below.alloc ?_ (by first | exact Nat.le_refl _ | omega | (simp; done) | (simp; omega)) _ | with_reducible refine Below.setCell ?_ (by first | exact Nat.le_refl _ | omega | (simp; done) | (simp; omega)) _ | (with_reducible refine ext_trans ?_ (by with_reducible assumption))))
          have lRs_6 : w1.heap.size < w6.heap.size := by omega
          have lRc_6 : w2.heap.size < w6.heap.size := by omega
          have lRd_6 : w3.heap.size < w6.heap.size := by omega
          have lRx_6 : w4.heap.size < w6.heap.size := by omega
          have Rs_6 := Lib.hid rs_6
          have r0_rs_6 := cell_of_row _ _ 0 _ _ _ rs_6
          have r1_rs_6 := cell_of_row _ _ 1 _ _ _ rs_6
          have r2_rs_6 := cell_of_row _ _ 2 _ _ _ rs_6
          have r3_rs_6 := cell_of_row _ _ 3 _ _ _ rs_6
          have r4_rs_6 := cell_of_row _ _ 4 _ _ _ rs_6
          have r5_rs_6 := cell_of_row _ _ 5 _ _ _ rs_6
          have f0_rs_6 := frozen_of_row _ _ 0 _ _ rs_6
          have f1_rs_6 := frozen_of_row _ _ 1 _ _ rs_6
          have f2_rs_6 := frozen_of_row _ _ 2 _ _ rs_6
          have f3_rs_6 := frozen_of_row _ _ 3 _ _ rs_6
          have f4_rs_6 := frozen_of_row _ _ 4 _ _ rs_6
          have f5_rs_6 := frozen_of_row _ _ 5 _ _ rs_6
          simp at r0_rs_6 r1_rs_6 r2_rs_6 r3_rs_6 r4_rs_6 r5_rs_6
          clear rs_6
          have Rc_6 := Lib.hid rc_6
          have r0_rc_6 := cell_of_row _ _ 0 _ _ _ rc_6
          have r1_rc_6 := cell_of_row _ _ 1 _ _ _ rc_6
          have r2_rc_6 := cell_of_row _ _ 2 _ _ _ rc_6
          have f0_rc_6 := frozen_of_row _ _ 0 _ _ rc_6
          have f1_rc_6 := frozen_of_row _ _ 1 _ _ rc_6
          have f2_rc_6 := frozen_of_row _ _ 2 _ _ rc_6
          simp at r0_rc_6 r1_rc_6 r2_rc_6
          clear rc_6
          have Rd_6 := Lib.hid rd_6
          have r0_rd_6 := cell_of_row _ _ 0 _ _ _ rd_6
          have r1_rd_6 := cell_of_row _ _ 1 _ _ _ rd_6
          have r2_rd_6 := cell_of_row _ _ 2 _ _ _ rd_6
          have f0_rd_6 := frozen_of_row _ _ 0 _ _ rd_6
          have f1_rd_6 := frozen_of_row _ _ 1 _ _ rd_6
          have f2_rd_6 := frozen_of_row _ _ 2 _ _ rd_6
          simp at r0_rd_6 r1_rd_6 r2_rd_6
          clear rd_6
          have Rx_6 := Lib.hid rx_6
          have r0_rx_6 := cell_of_row _ _ 0 _ _ _ rx_6
          have r1_rx_6 := cell_of_row _ _ 1 _ _ _ rx_6
          have r2_rx_6 := cell_of_row _ _ 2 _ _ _ rx_6
          have r3_rx_6 := cell_of_row _ _ 3 _ _ _ rx_6
          have r4_rx_6 := cell_of_row _ _ 4 _ _ _ rx_6
          have r5_rx_6 := cell_of_row _ _ 5 _ _ _ rx_6
          have f0_rx_6 := frozen_of_row _ _ 0 _ _ rx_6
          have f1_rx_6 := frozen_of_row _ _ 1 _ _ rx_6
          have f2_rx_6 := frozen_of_row _ _ 2 _ _ rx_6
          have f3_rx_6 := frozen_of_row _ _ 3 _ _ rx_6
          have f4_rx_6 := frozen_of_row _ _ 4 _ _ rx_6
          have f5_rx_6 := frozen_of_row _ _ 5 _ _ rx_6
          simp at r0_rx_6 r1_rx_6 r2_rx_6 r3_rx_6 r4_rx_6 r5_rx_6
          clear rx_6
          clear r0_rs_5 f0_rs_5 r1_rs_5 f1_rs_5 r2_rs_5 f2_rs_5 r3_rs_5 f3_rs_5 r4_rs_5 f4_rs_5 r5_rs_5 f5_rs_5
          clear r0_rc_5 f0_rc_5 r1_rc_5 f1_rc_5 r2_rc_5 f2_rc_5
          clear r0_rd_5 f0_rd_5 r1_rd_5 f1_rd_5 r2_rd_5 f2_rd_5
          clear r0_rx_5 f0_rx_5 r1_rx_5 f1_rx_5 r2_rx_5 f2_rx_5 r3_rx_5 f3_rx_5 r4_rx_5 f4_rx_5 r5_rx_5 f5_rx_5
          have hTd := HT.out
          go_wp2_with fail
          go_cut [2] (fun z wx => z = .bool true ∧ Below w6.heap.size w6 wx)
          case rest =>
            obtain ⟨rfl, hbz⟩ := hcut
            go_wp2_with fail
            go_ret
            exact ⟨rfl, hw6.trans (hbz.mono hw6.size)⟩
          case first =>
            refine wp_region_noPanic ?_
            refine wp_region_held_drew (S := (fun w' => (∀ b' o, b' < w6.heap.size → w'.cell? ⟨b', o, none⟩ = w6.cell? ⟨b', o, none⟩) ∧ Below w6.heap.size w6 w')) (by kernel_rfl) (by first | exact rg_start _) (fun hHeld => ?_)
            refine wpAnyH_take (i := 0) (oi := _) (v := ?v0_1) rfl (by kernel_rfl) (by kernel_rfl) (by kernel_rfl) (fun _ _ _ h => h) (Or.inl ⟨by rfl, ?hy0_1⟩) (by with_reducible assumption) ?rest0_1
            case hy0_1 => ((intro w hSw; (try dsimp only at hSw); go_simp); (try with_reducible rfl))
            (try simp only [Act.put, List.getElem_toArray, List.getElem_cons_succ, List.getElem_cons_zero, List.setIfInBounds_toArray, List.set_cons_zero, List.set_cons_succ])
            refine wpAnyH_take (i := 1) (oi := _) (v := ?v1_2) rfl (by kernel_rfl) (by kernel_rfl) (by kernel_rfl) (fun _ _ _ h => h) (Or.inl ⟨by rfl, ?hy1_2⟩) (by with_reducible assumption) ?rest1_2
            case hy1_2 => ((intro w hSw; (try dsimp only at hSw); go_simp); (try with_reducible rfl))
            (try simp only [Act.put, List.getElem_toArray, List.getElem_cons_succ, List.getElem_cons_zero, List.setIfInBounds_toArray, List.set_cons_zero, List.set_cons_succ])
            refine wpAnyH_take (i := 2) (oi := _) (v := ?v2_3) rfl (by kernel_rfl) (by kernel_rfl) (by kernel_rfl) (fun _ _ _ h => h) (Or.inl ⟨by rfl, ?hy2_3⟩) (by with_reducible assumption) ?rest2_3
            case hy2_3 => ((intro w hSw; (try dsimp only at hSw); go_simp); (try with_reducible rfl))
            (try simp only [Act.put, List.getElem_toArray, List.getElem_cons_succ, List.getElem_cons_zero, List.setIfInBounds_toArray, List.set_cons_zero, List.set_cons_succ])
            refine wpAnyH_take (i := 3) (oi := _) (v := ?v3_4) rfl (by kernel_rfl) (by kernel_rfl) (by kernel_rfl) (fun _ _ _ h => h) (Or.inl ⟨by rfl, ?hy3_4⟩) (by with_reducible assumption) ?rest3_4
            case hy3_4 => ((intro w hSw; (try dsimp only at hSw); go_simp); (try with_reducible rfl))
            (try simp only [Act.put, List.getElem_toArray, List.getElem_cons_succ, List.getElem_cons_zero, List.setIfInBounds_toArray, List.set_cons_zero, List.set_cons_succ])
            refine wpAnyH_take (i := 4) (oi := _) (v := ?v4_5) rfl (by kernel_rfl) (by kernel_rfl) (by kernel_rfl) (fun _ _ _ h => h) (Or.inl ⟨by rfl, ?hy4_5⟩) (by with_reducible assumption) ?rest4_5
            case hy4_5 => ((intro w hSw; (try dsimp only at hSw); go_simp); (try with_reducible rfl))
            (try simp only [Act.put, List.getElem_toArray, List.getElem_cons_succ, List.getElem_cons_zero, List.setIfInBounds_toArray, List.set_cons_zero, List.set_cons_succ])
            refine wpAnyH_take (i := 5) (oi := _) (v := ?v5_6) rfl (by kernel_rfl) (by kernel_rfl) (by kernel_rfl) (fun _ _ _ h => h) (Or.inl ⟨by rfl, ?hy5_6⟩) (by with_reducible assumption) ?rest5_6
            case hy5_6 => ((intro w hSw; (try dsimp only at hSw); go_simp); (try with_reducible rfl))
            (try simp only [Act.put, List.getElem_toArray, List.getElem_cons_succ, List.getElem_cons_zero, List.setIfInBounds_toArray, List.set_cons_zero, List.set_cons_succ])
            refine wpAnyH_take (i := 6) (oi := _) (v := ?v6_7) rfl (by kernel_rfl) (by kernel_rfl) (by kernel_rfl) (fun _ _ _ h => h) (Or.inl ⟨by rfl, ?hy6_7⟩) (by with_reducible assumption) ?rest6_7
            case hy6_7 => ((intro w hSw; (try dsimp only at hSw); go_simp); (try with_reducible rfl))
            (try simp only [Act.put, List.getElem_toArray, List.getElem_cons_succ, List.getElem_cons_zero, List.setIfInBounds_toArray, List.set_cons_zero, List.set_cons_succ])
            refine wpAnyH_take (i := 7) (oi := _) (v := ?v7_8) rfl (by kernel_rfl) (by kernel_rfl) (by kernel_rfl) (fun _ _ _ h => h) (Or.inl ⟨by rfl, ?hy7_8⟩) (by with_reducible assumption) ?rest7_8
            case hy7_8 => ((intro w hSw; (try dsimp only at hSw); go_simp); (try with_reducible rfl))
            (try simp only [Act.put, List.getElem_toArray, List.getElem_cons_succ, List.getElem_cons_zero, List.setIfInBounds_toArray, List.set_cons_zero, List.set_cons_succ])
            refine wpAnyH_take (i := 8) (oi := _) (v := ?v8_9) rfl (by kernel_rfl) (by kernel_rfl) (by kernel_rfl) (fun _ _ _ h => h) (Or.inl ⟨by rfl, ?hy8_9⟩) (by with_reducible assumption) ?rest8_9
            case hy8_9 => ((intro w hSw; (try dsimp only at hSw); go_simp); (try with_reducible rfl))
            (try simp only [Act.put, List.getElem_toArray, List.getElem_cons_succ, List.getElem_cons_zero, List.setIfInBounds_toArray, List.set_cons_zero, List.set_cons_succ])
            refine wpAnyH_take (i := 9) (oi := _) (v := ?v9_10) rfl (by kernel_rfl) (by kernel_rfl) (by kernel_rfl) (fun _ _ _ h => h) (Or.inl ⟨by rfl, ?hy9_10⟩) (by with_reducible assumption) ?rest9_10
            case hy9_10 => ((intro w hSw; (try dsimp only at hSw); go_simp); (try with_reducible rfl))
            (try simp only [Act.put, List.getElem_toArray, List.getElem_cons_succ, List.getElem_cons_zero, List.setIfInBounds_toArray, List.set_cons_zero, List.set_cons_succ])
            refine wpAnyH_take (i := 10) (oi := _) (v := ?v10_11) rfl (by kernel_rfl) (by kernel_rfl) (by kernel_rfl) (fun _ _ _ h => h) (Or.inl ⟨by rfl, ?hy10_11⟩) (by with_reducible assumption) ?rest10_11
            case hy10_11 => ((intro w hSw; (try dsimp only at hSw); go_simp); (try with_reducible rfl))
            (try simp only [Act.put, List.getElem_toArray, List.getElem_cons_succ, List.getElem_cons_zero, List.setIfInBounds_toArray, List.set_cons_zero, List.set_cons_succ])
            refine wpAnyH_take (i := 11) (oi := _) (v := ?v11_12) rfl (by kernel_rfl) (by kernel_rfl) (by kernel_rfl) (fun _ _ _ h => h) (Or.inl ⟨by rfl, ?hy11_12⟩) (by with_reducible assumption) ?rest11_12
            case hy11_12 => ((intro w hSw; (try dsimp only at hSw); go_simp); (try with_reducible rfl))
            (try simp only [Act.put, List.getElem_toArray, List.getElem_cons_succ, List.getElem_cons_zero, List.setIfInBounds_toArray, List.set_cons_zero, List.set_cons_succ])
            refine wpAnyH_take (i := 12) (oi := _) (v := ?v12_13) rfl (by kernel_rfl) (by kernel_rfl) (by kernel_rfl) (fun _ _ _ h => h) (Or.inl ⟨by rfl, ?hy12_13⟩) (by with_reducible assumption) ?rest12_13
            case hy12_13 => ((intro w hSw; (try dsimp only at hSw); go_simp); (try with_reducible rfl))
            (try simp only [Act.put, List.getElem_toArray, List.getElem_cons_succ, List.getElem_cons_zero, List.setIfInBounds_toArray, List.set_cons_zero, List.set_cons_succ])
            refine wpAnyH_take (i := 13) (oi := _) (v := ?v13_14) rfl (by kernel_rfl) (by kernel_rfl) (by kernel_rfl) (fun _ _ _ h => h) (Or.inl ⟨by rfl, ?hy13_14⟩) (by with_reducible assumption) ?rest13_14
            case hy13_14 => ((intro w hSw; (try dsimp only at hSw); go_simp); (try with_reducible rfl))
            (try simp only [Act.put, List.getElem_toArray, List.getElem_cons_succ, List.getElem_cons_zero, List.setIfInBounds_toArray, List.set_cons_zero, List.set_cons_succ])
            refine wpAnyH_take (i := 14) (oi := _) (v := ?v14_15) rfl (by kernel_rfl) (by kernel_rfl) (by kernel_rfl) (fun _ _ _ h => h) (Or.inl ⟨by rfl, ?hy14_15⟩) (by with_reducible assumption) ?rest14_15
            case hy14_15 => ((intro w hSw; (try dsimp only at hSw); go_simp); (try with_reducible rfl))
            (try simp only [Act.put, List.getElem_toArray, List.getElem_cons_succ, List.getElem_cons_zero, List.setIfInBounds_toArray, List.set_cons_zero, List.set_cons_succ])
            refine wpAnyH_take (i := 15) (oi := _) (v := ?v15_16) rfl (by kernel_rfl) (by kernel_rfl) (by kernel_rfl) (fun _ _ _ h => h) (Or.inl ⟨by rfl, ?hy15_16⟩) (by with_reducible assumption) ?rest15_16
            case hy15_16 => ((intro w hSw; (try dsimp only at hSw); go_simp); (try with_reducible rfl))
            (try simp only [Act.put, List.getElem_toArray, List.getElem_cons_succ, List.getElem_cons_zero, List.setIfInBounds_toArray, List.set_cons_zero, List.set_cons_succ])
            refine wpAnyH_take (i := 16) (oi := _) (v := ?v16_17) rfl (by kernel_rfl) (by kernel_rfl) (by kernel_rfl) (fun _ _ _ h => h) (Or.inl ⟨by rfl, ?hy16_17⟩) (by with_reducible assumption) ?rest16_17
            case hy16_17 => ((intro w hSw; (try dsimp only at hSw); go_simp); (try with_reducible rfl))
            (try simp only [Act.put, List.getElem_toArray, List.getElem_cons_succ, List.getElem_cons_zero, List.setIfInBounds_toArray, List.set_cons_zero, List.set_cons_succ])
            refine wpAnyH_take (i := 17) (oi := _) (v := ?v17_18) rfl (by kernel_rfl) (by kernel_rfl) (by kernel_rfl) (fun _ _ _ h => h) (Or.inl ⟨by rfl, ?hy17_18⟩) (by with_reducible assumption) ?rest17_18
            case hy17_18 => ((intro w hSw; (try dsimp only at hSw); go_simp); (try with_reducible rfl))
            (try simp only [Act.put, List.getElem_toArray, List.getElem_cons_succ, List.getElem_cons_zero, List.setIfInBounds_toArray, List.set_cons_zero, List.set_cons_succ])
            refine wpAnyH_take (i := 18) (oi := _) (v := ?v18_19) rfl (by kernel_rfl) (by kernel_rfl) (by kernel_rfl) (fun _ _ _ h => h) (Or.inl ⟨by rfl, ?hy18_19⟩) (by with_reducible assumption) ?rest18_19
            case hy18_19 => ((intro w hSw; (try dsimp only at hSw); go_simp); (try with_reducible rfl))
            (try simp only [Act.put, List.getElem_toArray, List.getElem_cons_succ, List.getElem_cons_zero, List.setIfInBounds_toArray, List.set_cons_zero, List.set_cons_succ])
            refine wpAnyH_take (i := 19) (oi := _) (v := ?v19_20) rfl (by kernel_rfl) (by kernel_rfl) (by kernel_rfl) (fun _ _ _ h => h) (Or.inl ⟨by rfl, ?hy19_20⟩) (by with_reducible assumption) ?rest19_20
            case hy19_20 => ((intro w hSw; (try dsimp only at hSw); go_simp); (try with_reducible rfl))
            (try simp only [Act.put, List.getElem_toArray, List.getElem_cons_succ, List.getElem_cons_zero, List.setIfInBounds_toArray, List.set_cons_zero, List.set_cons_succ])
            refine wpAnyH_take (i := 20) (oi := _) (v := ?v20_21) rfl (by kernel_rfl) (by kernel_rfl) (by kernel_rfl) (fun _ _ _ h => h) (Or.inl ⟨by rfl, ?hy20_21⟩) (by with_reducible assumption) ?rest20_21
            case hy20_21 => ((intro w hSw; (try dsimp only at hSw); go_simp); (try with_reducible rfl))
            (try simp only [Act.put, List.getElem_toArray, List.getElem_cons_succ, List.getElem_cons_zero, List.setIfInBounds_toArray, List.set_cons_zero, List.set_cons_succ])
            refine wpAnyH_take (i := 21) (oi := _) (v := ?v21_22) rfl (by kernel_rfl) (by kernel_rfl) (by kernel_rfl) (fun _ _ _ h => h) (Or.inl ⟨by rfl, ?hy21_22⟩) (by with_reducible assumption) ?rest21_22
            case hy21_22 => ((intro w hSw; (try dsimp only at hSw); go_simp); (try with_reducible rfl))
            (try simp only [Act.put, List.getElem_toArray, List.getElem_cons_succ, List.getElem_cons_zero, List.setIfInBounds_toArray, List.set_cons_zero, List.set_cons_succ])
            refine wpAnyH_take (i := 22) (oi := _) (v := ?v22_23) rfl (by kernel_rfl) (by kernel_rfl) (by kernel_rfl) (fun _ _ _ h => h) (Or.inl ⟨by rfl, ?hy22_23⟩) (by with_reducible assumption) ?rest22_23
            case hy22_23 => ((intro w hSw; (try dsimp only at hSw); go_simp); (try with_reducible rfl))
            (try simp only [Act.put, List.getElem_toArray, List.getElem_cons_succ, List.getElem_cons_zero, List.setIfInBounds_toArray, List.set_cons_zero, List.set_cons_succ])
            refine wpAnyH_take (i := 23) (oi := _) (v := ?v23_24) rfl (by kernel_rfl) (by kernel_rfl) (by kernel_rfl) (fun _ _ _ h => h) (Or.inl ⟨by rfl, ?hy23_24⟩) (by with_reducible assumption) ?rest23_24
            case hy23_24 => ((intro w hSw; (try dsimp only at hSw); go_simp); (try with_reducible rfl))
            (try simp only [Act.put, List.getElem_toArray, List.getElem_cons_succ, List.getElem_cons_zero, List.setIfInBounds_toArray, List.set_cons_zero, List.set_cons_succ])
            refine wpAnyH_take (i := 24) (oi := _) (v := ?v24_25) rfl (by kernel_rfl) (by kernel_rfl) (by kernel_rfl) (fun _ _ _ h => h) (Or.inl ⟨by rfl, ?hy24_25⟩) (by with_reducible assumption) ?rest24_25
            case hy24_25 => ((intro w hSw; (try dsimp only at hSw); go_simp); (try with_reducible rfl))
            (try simp only [Act.put, List.getElem_toArray, List.getElem_cons_succ, List.getElem_cons_zero, List.setIfInBounds_toArray, List.set_cons_zero, List.set_cons_succ])
            refine wpAnyH_take (i := 25) (oi := _) (v := ?v25_26) rfl (by kernel_rfl) (by kernel_rfl) (by kernel_rfl) (fun _ _ _ h => h) (Or.inl ⟨by rfl, ?hy25_26⟩) (by with_reducible assumption) ?rest25_26
            case hy25_26 => ((intro w hSw; (try dsimp only at hSw); go_simp); (try with_reducible rfl))
            (try simp only [Act.put, List.getElem_toArray, List.getElem_cons_succ, List.getElem_cons_zero, List.setIfInBounds_toArray, List.set_cons_zero, List.set_cons_succ])
            refine wpAnyH_take (i := 26) (oi := _) (v := ?v26_27) rfl (by kernel_rfl) (by kernel_rfl) (by kernel_rfl) (fun _ _ _ h => h) (Or.inl ⟨by rfl, ?hy26_27⟩) (by with_reducible assumption) ?rest26_27
            case hy26_27 => ((intro w hSw; (try dsimp only at hSw); go_simp); (try with_reducible rfl))
            (try simp only [Act.put, List.getElem_toArray, List.getElem_cons_succ, List.getElem_cons_zero, List.setIfInBounds_toArray, List.set_cons_zero, List.set_cons_succ])
            refine wpAnyH_take (i := 27) (oi := _) (v := ?v27_28) rfl (by kernel_rfl) (by kernel_rfl) (by kernel_rfl) (fun _ _ _ h => h) (Or.inl ⟨by rfl, ?hy27_28⟩) (by with_reducible assumption) ?rest27_28
            case hy27_28 => ((intro w hSw; (try dsimp only at hSw); go_simp); (try with_reducible rfl))
            (try simp only [Act.put, List.getElem_toArray, List.getElem_cons_succ, List.getElem_cons_zero, List.setIfInBounds_toArray, List.set_cons_zero, List.set_cons_succ])
            refine wpAnyH_take (i := 28) (oi := _) (v := ?v28_29) rfl (by kernel_rfl) (by kernel_rfl) (by kernel_rfl) (fun _ _ _ h => h) (Or.inl ⟨by rfl, ?hy28_29⟩) (by with_reducible assumption) ?rest28_29
            case hy28_29 => ((intro w hSw; (try dsimp only at hSw); go_simp); (try with_reducible rfl))
            (try simp only [Act.put, List.getElem_toArray, List.getElem_cons_succ, List.getElem_cons_zero, List.setIfInBounds_toArray, List.set_cons_zero, List.set_cons_succ])
            refine wpAnyH_take (i := 29) (oi := _) (v := ?v29_30) rfl (by kernel_rfl) (by kernel_rfl) (by kernel_rfl) (fun _ _ _ h => h) (Or.inl ⟨by rfl, ?hy29_30⟩) (by with_reducible assumption) ?rest29_30
            case hy29_30 => ((intro w hSw; (try dsimp only at hSw); go_simp); (try with_reducible rfl))
            (try simp only [Act.put, List.getElem_toArray, List.getElem_cons_succ, List.getElem_cons_zero, List.setIfInBounds_toArray, List.set_cons_zero, List.set_cons_succ])
            refine wpAnyH_take (i := 30) (oi := _) (v := ?v30_31) rfl (by kernel_rfl) (by kernel_rfl) (by kernel_rfl) (fun _ _ _ h => h) (Or.inl ⟨by rfl, ?hy30_31⟩) (by with_reducible assumption) ?rest30_31
            case hy30_31 => ((intro w hSw; (try dsimp only at hSw); go_simp); (try with_reducible rfl))
            (try simp only [Act.put, List.getElem_toArray, List.getElem_cons_succ, List.getElem_cons_zero, List.setIfInBounds_toArray, List.set_cons_zero, List.set_cons_succ])
            refine wpAnyH_take (i := 31) (oi := _) (v := ?v31_32) rfl (by kernel_rfl) (by kernel_rfl) (by kernel_rfl) (fun _ _ _ h => h) (Or.inl ⟨by rfl, ?hy31_32⟩) (by with_reducible assumption) ?rest31_32
            case hy31_32 => ((intro w hSw; (try dsimp only at hSw); go_simp); (try with_reducible rfl))
            (try simp only [Act.put, List.getElem_toArray, List.getElem_cons_succ, List.getElem_cons_zero, List.setIfInBounds_toArray, List.set_cons_zero, List.set_cons_succ])
            refine wpAnyH_take (i := 32) (oi := _) (v := ?v32_33) rfl (by kernel_rfl) (by kernel_rfl) (by kernel_rfl) (fun _ _ _ h => h) (Or.inl ⟨by rfl, ?hy32_33⟩) (by with_reducible assumption) ?rest32_33
            case hy32_33 => ((intro w hSw; (try dsimp only at hSw); go_simp); (try with_reducible rfl))
            (try simp only [Act.put, List.getElem_toArray, List.getElem_cons_succ, List.getElem_cons_zero, List.setIfInBounds_toArray, List.set_cons_zero, List.set_cons_succ])
            refine wpAnyH_take (i := 33) (oi := _) (v := ?v33_34) rfl (by kernel_rfl) (by kernel_rfl) (by kernel_rfl) (fun _ _ _ h => h) (Or.inl ⟨by rfl, ?hy33_34⟩) (by with_reducible assumption) ?rest33_34
            case hy33_34 => ((intro w hSw; (try dsimp only at hSw); go_simp); (try with_reducible rfl))
            (try simp only [Act.put, List.getElem_toArray, List.getElem_cons_succ, List.getElem_cons_zero, List.setIfInBounds_toArray, List.set_cons_zero, List.set_cons_succ])
            refine wpAnyH_take (i := 34) (oi := _) (v := undef) rfl (by kernel_rfl) (by kernel_rfl) (by kernel_rfl) (fun _ _ _ h => h) (Or.inr ⟨by rfl, rfl⟩) (by with_reducible assumption) ?rest34_35
            (try simp only [Act.put, List.getElem_toArray, List.getElem_cons_succ, List.getElem_cons_zero, List.setIfInBounds_toArray, List.set_cons_zero, List.set_cons_succ])
            refine wpAnyH_take (i := 35) (oi := _) (v := undef) rfl (by kernel_rfl) (by kernel_rfl) (by kernel_rfl) (fun _ _ _ h => h) (Or.inr ⟨by rfl, rfl⟩) (by with_reducible assumption) ?rest35_36
            (try simp only [Act.put, List.getElem_toArray, List.getElem_cons_succ, List.getElem_cons_zero, List.setIfInBounds_toArray, List.set_cons_zero, List.set_cons_succ])
            refine wpAnyH_take (i := 36) (oi := _) (v := undef) rfl (by kernel_rfl) (by kernel_rfl) (by kernel_rfl) (fun _ _ _ h => h) (Or.inr ⟨by rfl, rfl⟩) (by with_reducible assumption) ?rest36_37
            (try simp only [Act.put, List.getElem_toArray, List.getElem_cons_succ, List.getElem_cons_zero, List.setIfInBounds_toArray, List.set_cons_zero, List.set_cons_succ])
            refine wpAnyH_take (i := 37) (oi := _) (v := ?v37_38) rfl (by kernel_rfl) (by kernel_rfl) (by kernel_rfl) (fun _ _ _ h => h) (Or.inl ⟨by rfl, ?hy37_38⟩) (by with_reducible assumption) ?rest37_38
            case hy37_38 => ((intro w hSw; (try dsimp only at hSw); go_simp); (try with_reducible rfl))
            (try simp only [Act.put, List.getElem_toArray, List.getElem_cons_succ, List.getElem_cons_zero, List.setIfInBounds_toArray, List.set_cons_zero, List.set_cons_succ])
            refine wpAnyH_take (i := 38) (oi := _) (v := ?v38_39) rfl (by kernel_rfl) (by kernel_rfl) (by kernel_rfl) (fun _ _ _ h => h) (Or.inl ⟨by rfl, ?hy38_39⟩) (by with_reducible assumption) ?rest38_39
            case hy38_39 => ((intro w hSw; (try dsimp only at hSw); go_simp); (try with_reducible rfl))
            (try simp only [Act.put, List.getElem_toArray, List.getElem_cons_succ, List.getElem_cons_zero, List.setIfInBounds_toArray, List.set_cons_zero, List.set_cons_succ])
            refine wpAnyH_take (i := 39) (oi := _) (v := ?v39_40) rfl (by kernel_rfl) (by kernel_rfl) (by kernel_rfl) (fun _ _ _ h => h) (Or.inl ⟨by rfl, ?hy39_40⟩) (by with_reducible assumption) ?rest39_40
            case hy39_40 => ((intro w hSw; (try dsimp only at hSw); go_simp); (try with_reducible rfl))
            (try simp only [Act.put, List.getElem_toArray, List.getElem_cons_succ, List.getElem_cons_zero, List.setIfInBounds_toArray, List.set_cons_zero, List.set_cons_succ])
            refine wpAnyH_take (i := 40) (oi := _) (v := ?v40_41) rfl (by kernel_rfl) (by kernel_rfl) (by kernel_rfl) (fun _ _ _ h => h) (Or.inl ⟨by rfl, ?hy40_41⟩) (by with_reducible assumption) ?rest40_41
            case hy40_41 => ((intro w hSw; (try dsimp only at hSw); go_simp); (try with_reducible rfl))
            (try simp only [Act.put, List.getElem_toArray, List.getElem_cons_succ, List.getElem_cons_zero, List.setIfInBounds_toArray, List.set_cons_zero, List.set_cons_succ])
            refine wpAnyH_take (i := 42) (oi := _) (v := ?v42_42) rfl (by kernel_rfl) (by kernel_rfl) (by kernel_rfl) (fun _ _ _ h => h) (Or.inl ⟨by rfl, ?hy42_42⟩) (by with_reducible assumption) ?rest42_42
            case hy42_42 => ((intro w hSw; (try dsimp only at hSw); go_simp); (try with_reducible rfl))
            (try simp only [Act.put, List.getElem_toArray, List.getElem_cons_succ, List.getElem_cons_zero, List.setIfInBounds_toArray, List.set_cons_zero, List.set_cons_succ])
            refine wpAnyH_take (i := 43) (oi := _) (v := ?v43_43) rfl (by kernel_rfl) (by kernel_rfl) (by kernel_rfl) (fun _ _ _ h => h) (Or.inl ⟨by rfl, ?hy43_43⟩) (by with_reducible assumption) ?rest43_43
            case hy43_43 => ((intro w hSw; (try dsimp only at hSw); go_simp); (try with_reducible rfl))
            (try simp only [Act.put, List.getElem_toArray, List.getElem_cons_succ, List.getElem_cons_zero, List.setIfInBounds_toArray, List.set_cons_zero, List.set_cons_succ])
            refine wpAnyH_take (i := 45) (oi := _) (v := ?v45_44) rfl (by kernel_rfl) (by kernel_rfl) (by kernel_rfl) (fun _ _ _ h => h) (Or.inl ⟨by rfl, ?hy45_44⟩) (by with_reducible assumption) ?rest45_44
            case hy45_44 => ((intro w hSw; (try dsimp only at hSw); go_simp); (try with_reducible rfl))
            (try simp only [Act.put, List.getElem_toArray, List.getElem_cons_succ, List.getElem_cons_zero, List.setIfInBounds_toArray, List.set_cons_zero, List.set_cons_succ])
            refine wpAnyH_ready (rs := [41]) (by kernel_rfl) (by simp) ?_
            refine AllReadyH.cons (o := _) rfl (fun K hK => ?_) AllReadyH.nil
            go_simp
            go_at_call 17; ((with_reducible refine (Y7.out _).mono ?_); (rintro e wq1 ⟨rfl, hbq1⟩; have hSq1 := rg_keepK (by with_reducible assumption) hbq1))
            go_wp2_with fail
            refine hK.out _ _ ?_ (fun hHeld => ?_)
            · (try dsimp only); (first | with_reducible assumption | (with_reducible apply rg_keep; rotate_left; with_reducible assumption; with_reducible assumption) | with_reducible exact rg_start _ | with_reducible exact rg_alloc (KeptS.out (by with_reducible assumption)) _ | with_reducible exact rg_alloc (by with_reducible assumption) _ | with_reducible exact rg_start_alloc _ _ | ((repeat (with_reducible refine rg_set ?_ _ (by first | exact Nat.le_refl _ | omega | (simp; done) | (simp; omega)) _)); first | with_reducible exact KeptS.out (by with_reducible assumption) | with_reducible assumption | with_reducible exact rg_alloc (KeptS.out (by with_reducible assumption)) _))
            clear hK K
            (try simp only [Act.put, List.getElem_toArray, List.getElem_cons_succ, List.getElem_cons_zero, List.setIfInBounds_toArray, List.set_cons_zero, List.set_cons_succ])
            refine wpAnyH_ready (rs := [44]) (by kernel_rfl) (by simp) ?_
            refine AllReadyH.cons (o := _) rfl (fun K hK => ?_) AllReadyH.nil
            go_simp
            go_at_call 37; ((with_reducible refine (Y8.out _).mono ?_); rintro e w' ⟨rfl, rfl⟩)
            go_wp2_with fail
            refine hK.out _ _ ?_ (fun hHeld => ?_)
            · (try dsimp only); (first | with_reducible assumption | (with_reducible apply rg_keep; rotate_left; with_reducible assumption; with_reducible assumption) | with_reducible exact rg_start _ | with_reducible exact rg_alloc (KeptS.out (by with_reducible assumption)) _ | with_reducible exact rg_alloc (by with_reducible assumption) _ | with_reducible exact rg_start_alloc _ _ | ((repeat (with_reducible refine rg_set ?_ _ (by first | exact Nat.le_refl _ | omega | (simp; done) | (simp; omega)) _)); first | with_reducible exact KeptS.out (by with_reducible assumption) | with_reducible assumption | with_reducible exact rg_alloc (KeptS.out (by with_reducible assumption)) _))
            clear hK K
            (try simp only [Act.put, List.getElem_toArray, List.getElem_cons_succ, List.getElem_cons_zero, List.setIfInBounds_toArray, List.set_cons_zero, List.set_cons_succ])
            refine wpAnyH_take (i := 46) (oi := _) (v := ?v46_45) rfl (by kernel_rfl) (by kernel_rfl) (by kernel_rfl) (fun _ _ _ h => h) (Or.inl ⟨by rfl, ?hy46_45⟩) (by with_reducible assumption) ?rest46_45
            case hy46_45 => ((intro w hSw; (try dsimp only at hSw); go_simp); (try with_reducible rfl))
            (try simp only [Act.put, List.getElem_toArray, List.getElem_cons_succ, List.getElem_cons_zero, List.setIfInBounds_toArray, List.set_cons_zero, List.set_cons_succ])
            refine wpAnyH_take (i := 47) (oi := _) (v := ?v47_46) rfl (by kernel_rfl) (by kernel_rfl) (by kernel_rfl) (fun _ _ _ h => h) (Or.inl ⟨by rfl, ?hy47_46⟩) (by with_reducible assumption) ?rest47_46
            case hy47_46 => ((intro w hSw; (try dsimp only at hSw); go_simp); (try with_reducible rfl))
            (try simp only [Act.put, List.getElem_toArray, List.getElem_cons_succ, List.getElem_cons_zero, List.setIfInBounds_toArray, List.set_cons_zero, List.set_cons_succ])
            refine wpAnyH_take (i := 48) (oi := _) (v := ?v48_47) rfl (by kernel_rfl) (by kernel_rfl) (by kernel_rfl) (fun _ _ _ h => h) (Or.inl ⟨by rfl, ?hy48_47⟩) (by with_reducible assumption) ?rest48_47
            case hy48_47 => ((intro w hSw; (try dsimp only at hSw); go_simp); (try with_reducible rfl))
            (try simp only [Act.put, List.getElem_toArray, List.getElem_cons_succ, List.getElem_cons_zero, List.setIfInBounds_toArray, List.set_cons_zero, List.set_cons_succ])
            refine wpAnyH_take (i := 49) (oi := _) (v := ?v49_48) rfl (by kernel_rfl) (by kernel_rfl) (by kernel_rfl) (fun _ _ _ h => h) (Or.inl ⟨by rfl, ?hy49_48⟩) (by with_reducible assumption) ?rest49_48
            case hy49_48 => ((intro w hSw; (try dsimp only at hSw); go_simp); (try with_reducible rfl))
            (try simp only [Act.put, List.getElem_toArray, List.getElem_cons_succ, List.getElem_cons_zero, List.setIfInBounds_toArray, List.set_cons_zero, List.set_cons_succ])
            refine wpAnyH_take (i := 51) (oi := _) (v := ?v51_49) rfl (by kernel_rfl) (by kernel_rfl) (by kernel_rfl) (fun _ _ _ h => h) (Or.inl ⟨by rfl, ?hy51_49⟩) (by with_reducible assumption) ?rest51_49
            case hy51_49 => ((intro w hSw; (try dsimp only at hSw); go_simp); (try with_reducible rfl))
            (try simp only [Act.put, List.getElem_toArray, List.getElem_cons_succ, List.getElem_cons_zero, List.setIfInBounds_toArray, List.set_cons_zero, List.set_cons_succ])
            refine wpAnyH_take (i := 52) (oi := _) (v := ?v52_50) rfl (by kernel_rfl) (by kernel_rfl) (by kernel_rfl) (fun _ _ _ h => h) (Or.inl ⟨by rfl, ?hy52_50⟩) (by with_reducible assumption) ?rest52_50
            case hy52_50 => ((intro w hSw; (try dsimp only at hSw); go_simp); (try with_reducible rfl))
            (try simp only [Act.put, List.getElem_toArray, List.getElem_cons_succ, List.getElem_cons_zero, List.setIfInBounds_toArray, List.set_cons_zero, List.set_cons_succ])
            refine wpAnyH_take (i := 53) (oi := _) (v := ?v53_51) rfl (by kernel_rfl) (by kernel_rfl) (by kernel_rfl) (fun _ _ _ h => h) (Or.inl ⟨by rfl, ?hy53_51⟩) (by with_reducible assumption) ?rest53_51
            case hy53_51 => ((intro w hSw; (try dsimp only at hSw); go_simp); (try with_reducible rfl))
            (try simp only [Act.put, List.getElem_toArray, List.getElem_cons_succ, List.getElem_cons_zero, List.setIfInBounds_toArray, List.set_cons_zero, List.set_cons_succ])
            refine wpAnyH_ready (rs := [50]) (by kernel_rfl) (by simp) ?_
            refine AllReadyH.cons (o := _) rfl (fun K hK => ?_) AllReadyH.nil
            go_simp
            go_at_call 17; ((with_reducible refine (Y7.out _).mono ?_); (rintro e wq3 ⟨rfl, hbq3⟩; have hSq3 := rg_keepK (by with_reducible assumption) hbq3))
            go_wp2_with fail
            refine hK.out _ _ ?_ (fun hHeld => ?_)
            · (try dsimp only); (first | with_reducible assumption | (with_reducible apply rg_keep; rotate_left; with_reducible assumption; with_reducible assumption) | with_reducible exact rg_start _ | with_reducible exact rg_alloc (KeptS.out (by with_reducible assumption)) _ | with_reducible exact rg_alloc (by with_reducible assumption) _ | with_reducible exact rg_start_alloc _ _ | ((repeat (with_reducible refine rg_set ?_ _ (by first | exact Nat.le_refl _ | omega | (simp; done) | (simp; omega)) _)); first | with_reducible exact KeptS.out (by with_reducible assumption) | with_reducible assumption | with_reducible exact rg_alloc (KeptS.out (by with_reducible assumption)) _))
            clear hK K
            (try simp only [Act.put, List.getElem_toArray, List.getElem_cons_succ, List.getElem_cons_zero, List.setIfInBounds_toArray, List.set_cons_zero, List.set_cons_succ])
            refine wpAnyH_ready (rs := [54]) (by kernel_rfl) (by simp) ?_
            refine AllReadyH.cons (o := _) rfl (fun K hK => ?_) AllReadyH.nil
            go_simp
            go_at_call 38; ((with_reducible refine (Y9.out _).mono ?_); rintro e w' ⟨rfl, rfl⟩)
            go_wp2_with fail
            refine hK.out _ _ ?_ (fun hHeld => ?_)
            · (try dsimp only); (first | with_reducible assumption | (with_reducible apply rg_keep; rotate_left; with_reducible assumption; with_reducible assumption) | with_reducible exact rg_start _ | with_reducible exact rg_alloc (KeptS.out (by with_reducible assumption)) _ | with_reducible exact rg_alloc (by with_reducible assumption) _ | with_reducible exact rg_start_alloc _ _ | ((repeat (with_reducible refine rg_set ?_ _ (by first | exact Nat.le_refl _ | omega | (simp; done) | (simp; omega)) _)); first | with_reducible exact KeptS.out (by with_reducible assumption) | with_reducible assumption | with_reducible exact rg_alloc (KeptS.out (by with_reducible assumption)) _))
            clear hK K
            (try simp only [Act.put, List.getElem_toArray, List.getElem_cons_succ, List.getElem_cons_zero, List.setIfInBounds_toArray, List.set_cons_zero, List.set_cons_succ])
            refine wpAnyH_take (i := 55) (oi := _) (v := ?v55_52) rfl (by kernel_rfl) (by kernel_rfl) (by kernel_rfl) (fun _ _ _ h => h) (Or.inl ⟨by rfl, ?hy55_52⟩) (by with_reducible assumption) ?rest55_52
            case hy55_52 => ((intro w hSw; (try dsimp only at hSw); go_simp); (try with_reducible rfl))
            (try simp only [Act.put, List.getElem_toArray, List.getElem_cons_succ, List.getElem_cons_zero, List.setIfInBounds_toArray, List.set_cons_zero, List.set_cons_succ])
            refine wpAnyH_take (i := 56) (oi := _) (v := ?v56_53) rfl (by kernel_rfl) (by kernel_rfl) (by kernel_rfl) (fun _ _ _ h => h) (Or.inl ⟨by rfl, ?hy56_53⟩) (by with_reducible assumption) ?rest56_53
            case hy56_53 => ((intro w hSw; (try dsimp only at hSw); go_simp); (try with_reducible rfl))
            (try simp only [Act.put, List.getElem_toArray, List.getElem_cons_succ, List.getElem_cons_zero, List.setIfInBounds_toArray, List.set_cons_zero, List.set_cons_succ])
            refine wpAnyH_take (i := 57) (oi := _) (v := ?v57_54) rfl (by kernel_rfl) (by kernel_rfl) (by kernel_rfl) (fun _ _ _ h => h) (Or.inl ⟨by rfl, ?hy57_54⟩) (by with_reducible assumption) ?rest57_54
            case hy57_54 => ((intro w hSw; (try dsimp only at hSw); go_simp); (try with_reducible rfl))
            (try simp only [Act.put, List.getElem_toArray, List.getElem_cons_succ, List.getElem_cons_zero, List.setIfInBounds_toArray, List.set_cons_zero, List.set_cons_succ])
            refine wpAnyH_done (by kernel_rfl) (NoPanic.normal ?_) _
            go_wp2_with fail
            go_meet
            exact ⟨by first | rfl | simp, (by assumption : _ ∧ Below w6.heap.size w6 _).2⟩
        case neg =>
          have hmsb : decide ((T.size : Int) ≤ mss) = false := decide_eq_false hms
          have hT0 : T.size = 0 := by have := C5.out; omega
          have hTe : T.toList.isEmpty = true := by rw [isEmpty_size, hT0]; rfl
          have hTe2 : T.toList = [] := by simpa using hTe
          clear hT0
          go_wp2_with fail
          refine (Y2.out _).mono ?_
          rintro e w2 ⟨rfl, hb2⟩
          have hz2 := hb2.size
          (try simp at hz2)
          have rs_2 : w2.heap[w1.heap.size]? = some (.cells #[.int .i64 u, .string d, .int .i64 (k : Int), .bool f, .bool false, .bool false] 26 (0, 0)) := (hb2.block _ (by first | (simp; done) | (simp; omega))).trans (by repeat (first | exact heap_new _ _ _ (by first | rfl | (simp; done) | (simp; omega)) | refine (Below.heap_alloc _ _ _ (by first | omega | (simp; done) | (simp; omega))).trans ?_))
          have hw2 : Below w.heap.size w w2 := (by repeat (first | with_reducible exact Below.refl _ _ | with_reducible assumption | with_reducible refine Below.drew ?_ | with_reducible refine Below.alloc ?_ (by first | exact Nat.le_refl _ | omega | (simp; done) | (simp; omega)) _ | with_reducible refine Below.setCell ?_ (by first | exact Nat.le_refl _ | omega | (simp; done) | (simp; omega)) _ | (with_reducible refine ext_trans ?_ (by with_reducible assumption))))
          have lRs_2 : w1.heap.size < w2.heap.size := by omega
          have Rs_2 := Lib.hid rs_2
          have r0_rs_2 := cell_of_row _ _ 0 _ _ _ rs_2
          have r1_rs_2 := cell_of_row _ _ 1 _ _ _ rs_2
          have r2_rs_2 := cell_of_row _ _ 2 _ _ _ rs_2
          have r3_rs_2 := cell_of_row _ _ 3 _ _ _ rs_2
          have r4_rs_2 := cell_of_row _ _ 4 _ _ _ rs_2
          have r5_rs_2 := cell_of_row _ _ 5 _ _ _ rs_2
          have f0_rs_2 := frozen_of_row _ _ 0 _ _ rs_2
          have f1_rs_2 := frozen_of_row _ _ 1 _ _ rs_2
          have f2_rs_2 := frozen_of_row _ _ 2 _ _ rs_2
          have f3_rs_2 := frozen_of_row _ _ 3 _ _ rs_2
          have f4_rs_2 := frozen_of_row _ _ 4 _ _ rs_2
          have f5_rs_2 := frozen_of_row _ _ 5 _ _ rs_2
          simp at r0_rs_2 r1_rs_2 r2_rs_2 r3_rs_2 r4_rs_2 r5_rs_2
          clear rs_2
          go_wp2_with fail
          refine (Y1.out _).mono ?_
          rintro e w3 ⟨rfl, hb3⟩
          have hz3 := hb3.size
          (try simp at hz3)
          have rs_3 := (hb3.block _ (by first | omega | (simp; done) | (simp; omega))).trans ((Below.heap_alloc _ _ _ (by first | exact lRs_2 | (simp; omega))).trans Rs_2.out)
          have rc_3 : w3.heap[w2.heap.size]? = some (.cells #[.int .i64 QQ, .string T, .bool false] 39 (0, 0)) := (hb3.block _ (by first | (simp; done) | (simp; omega))).trans (by repeat (first | exact heap_new _ _ _ (by first | rfl | (simp; done) | (simp; omega)) | refine (Below.heap_alloc _ _ _ (by first | omega | (simp; done) | (simp; omega))).trans ?_))
          have hw3 : Below w.heap.size w w3 := (by repeat (first | with_reducible exact Below.refl _ _ | with_reducible assumption | with_reducible refine Below.drew ?_ | with_reducible refine Below.alloc ?_ (by first | exact Nat.le_refl _ | omega | (simp; done) | (simp; omega)) _ | with_reducible refine Below.setCell ?_ (by first | exact Nat.le_refl _ | omega | (simp; done) | (simp; omega)) _ | (with_reducible refine ext_trans ?_ (by with_reducible assumption))))
          have lRs_3 : w1.heap.size < w3.heap.size := by omega
          have lRc_3 : w2.heap.size < w3.heap.size := by omega
          have Rs_3 := Lib.hid rs_3
          have r0_rs_3 := cell_of_row _ _ 0 _ _ _ rs_3
          have r1_rs_3 := cell_of_row _ _ 1 _ _ _ rs_3
          have r2_rs_3 := cell_of_row _ _ 2 _ _ _ rs_3
          have r3_rs_3 := cell_of_row _ _ 3 _ _ _ rs_3
          have r4_rs_3 := cell_of_row _ _ 4 _ _ _ rs_3
          have r5_rs_3 := cell_of_row _ _ 5 _ _ _ rs_3
          have f0_rs_3 := frozen_of_row _ _ 0 _ _ rs_3
          have f1_rs_3 := frozen_of_row _ _ 1 _ _ rs_3
          have f2_rs_3 := frozen_of_row _ _ 2 _ _ rs_3
          have f3_rs_3 := frozen_of_row _ _ 3 _ _ rs_3
          have f4_rs_3 := frozen_of_row _ _ 4 _ _ rs_3
          have f5_rs_3 := frozen_of_row _ _ 5 _ _ rs_3
          simp at r0_rs_3 r1_rs_3 r2_rs_3 r3_rs_3 r4_rs_3 r5_rs_3
          clear rs_3
          have Rc_3 := Lib.hid rc_3
          have r0_rc_3 := cell_of_row _ _ 0 _ _ _ rc_3
          have r1_rc_3 := cell_of_row _ _ 1 _ _ _ rc_3
          have r2_rc_3 := cell_of_row _ _ 2 _ _ _ rc_3
          have f0_rc_3 := frozen_of_row _ _ 0 _ _ rc_3
          have f1_rc_3 := frozen_of_row _ _ 1 _ _ rc_3
          have f2_rc_3 := frozen_of_row _ _ 2 _ _ rc_3
          simp at r0_rc_3 r1_rc_3 r2_rc_3
          clear rc_3
          clear r0_rs_2 f0_rs_2 r1_rs_2 f1_rs_2 r2_rs_2 f2_rs_2 r3_rs_2 f3_rs_2 r4_rs_2 f4_rs_2 r5_rs_2 f5_rs_2
          go_wp2_with fail
          refine (Y3.out _).mono ?_
          rintro e w4 ⟨rfl, hb4⟩
          have hz4 := hb4.size
          (try simp at hz4)
          have rs_4 := (hb4.block _ (by first | omega | (simp; done) | (simp; omega))).trans ((Below.heap_alloc _ _ _ (by first | exact lRs_3 | (simp; omega))).trans Rs_3.out)
          have rc_4 := (hb4.block _ (by first | omega | (simp; done) | (simp; omega))).trans ((Below.heap_alloc _ _ _ (by first | exact lRc_3 | (simp; omega))).trans Rc_3.out)
          have rd_4 : w4.heap[w3.heap.size]? = some (.cells #[.int .i64 QQ, .string T, .bool false] 39 (0, 0)) := (hb4.block _ (by first | (simp; done) | (simp; omega))).trans (by repeat (first | exact heap_new _ _ _ (by first | rfl | (simp; done) | (simp; omega)) | refine (Below.heap_alloc _ _ _ (by first | omega | (simp; done) | (simp; omega))).trans ?_))
          have hw4 : Below w.heap.size w w4 := (by repeat (first | with_reducible exact Below.refl _ _ | with_reducible assumption | with_reducible refine Below.drew ?_ | with_reducible refine Below.alloc ?_ (by first | exact Nat.le_refl _ | omega | (simp; done) | (simp; omega)) _ | with_reducible refine Below.setCell ?_ (by first | exact Nat.le_refl _ | omega | (simp; done) | (simp; omega)) _ | (with_reducible refine ext_trans ?_ (by with_reducible assumption))))
          have lRs_4 : w1.heap.size < w4.heap.size := by omega
          have lRc_4 : w2.heap.size < w4.heap.size := by omega
          have lRd_4 : w3.heap.size < w4.heap.size := by omega
          have Rs_4 := Lib.hid rs_4
          have r0_rs_4 := cell_of_row _ _ 0 _ _ _ rs_4
          have r1_rs_4 := cell_of_row _ _ 1 _ _ _ rs_4
          have r2_rs_4 := cell_of_row _ _ 2 _ _ _ rs_4
          have r3_rs_4 := cell_of_row _ _ 3 _ _ _ rs_4
          have r4_rs_4 := cell_of_row _ _ 4 _ _ _ rs_4
          have r5_rs_4 := cell_of_row _ _ 5 _ _ _ rs_4
          have f0_rs_4 := frozen_of_row _ _ 0 _ _ rs_4
          have f1_rs_4 := frozen_of_row _ _ 1 _ _ rs_4
          have f2_rs_4 := frozen_of_row _ _ 2 _ _ rs_4
          have f3_rs_4 := frozen_of_row _ _ 3 _ _ rs_4
          have f4_rs_4 := frozen_of_row _ _ 4 _ _ rs_4
          have f5_rs_4 := frozen_of_row _ _ 5 _ _ rs_4
          simp at r0_rs_4 r1_rs_4 r2_rs_4 r3_rs_4 r4_rs_4 r5_rs_4
          clear rs_4
          have Rc_4 := Lib.hid rc_4
          have r0_rc_4 := cell_of_row _ _ 0 _ _ _ rc_4
          have r1_rc_4 := cell_of_row _ _ 1 _ _ _ rc_4
          have r2_rc_4 := cell_of_row _ _ 2 _ _ _ rc_4
          have f0_rc_4 := frozen_of_row _ _ 0 _ _ rc_4
          have f1_rc_4 := frozen_of_row _ _ 1 _ _ rc_4
          have f2_rc_4 := frozen_of_row _ _ 2 _ _ rc_4
          simp at r0_rc_4 r1_rc_4 r2_rc_4
          clear rc_4
          have Rd_4 := Lib.hid rd_4
          have r0_rd_4 := cell_of_row _ _ 0 _ _ _ rd_4
          have r1_rd_4 := cell_of_row _ _ 1 _ _ _ rd_4
          have r2_rd_4 := cell_of_row _ _ 2 _ _ _ rd_4
          have f0_rd_4 := frozen_of_row _ _ 0 _ _ rd_4
          have f1_rd_4 := frozen_of_row _ _ 1 _ _ rd_4
          have f2_rd_4 := frozen_of_row _ _ 2 _ _ rd_4
          simp at r0_rd_4 r1_rd_4 r2_rd_4
          clear rd_4
          clear r0_rs_3 f0_rs_3 r1_rs_3 f1_rs_3 r2_rs_3 f2_rs_3 r3_rs_3 f3_rs_3 r4_rs_3 f4_rs_3 r5_rs_3 f5_rs_3
          clear r0_rc_3 f0_rc_3 r1_rc_3 f1_rc_3 r2_rc_3 f2_rc_3
          go_wp2_with fail
          have hb5 : Below w4.heap.size w4 (w4.alloc (.cells #[.int .i64 u, .string d, .int .i64 ((k : Int) + (T.size : Int)), .bool f, .bool false, .bool false] 26)) := (by repeat (first | with_reducible exact Below.refl _ _ | with_reducible assumption | with_reducible refine Below.drew ?_ | with_reducible refine Below.alloc ?_ (by first | exact Nat.le_refl _ | omega | (simp; done) | (simp; omega)) _ | with_reducible refine Below.setCell ?_ (by first | exact Nat.le_refl _ | omega | (simp; done) | (simp; omega)) _ | (with_reducible refine ext_trans ?_ (by with_reducible assumption))))
          have rx_5 : (w4.alloc (.cells #[.int .i64 u, .string d, .int .i64 ((k : Int) + (T.size : Int)), .bool f, .bool false, .bool false] 26)).heap[w4.heap.size]? = some (.cells #[.int .i64 u, .string d, .int .i64 ((k : Int) + (T.size : Int)), .bool f, .bool false, .bool false] 26 (0, 0)) := (by repeat (first | exact heap_new _ _ _ (by first | rfl | (simp; done) | (simp; omega)) | refine (Below.heap_alloc _ _ _ (by first | omega | (simp; done) | (simp; omega))).trans ?_))
          have lNx_5 : w4.heap.size < (w4.alloc (.cells #[.int .i64 u, .string d, .int .i64 ((k : Int) + (T.size : Int)), .bool f, .bool false, .bool false] 26)).heap.size := by simp
          generalize (w4.alloc (.cells #[.int .i64 u, .string d, .int .i64 ((k : Int) + (T.size : Int)), .bool f, .bool false, .bool false] 26)) = w5 at *
          have hz5 := hb5.size
          (try simp at hz5)
          have rs_5 := (hb5.block _ (by first | omega | (simp; done) | (simp; omega))).trans Rs_4.out
          have rc_5 := (hb5.block _ (by first | omega | (simp; done) | (simp; omega))).trans Rc_4.out
          have rd_5 := (hb5.block _ (by first | omega | (simp; done) | (simp; omega))).trans Rd_4.out
          have hw5 : Below w.heap.size w w5 := (by repeat (first | with_reducible exact Below.refl _ _ | with_reducible assumption | with_reducible refine Below.drew ?_ | with_reducible refine Below.alloc ?_ (by first | exact Nat.le_refl _ | omega | (simp; done) | (simp; omega)) _ | with_reducible refine Below.setCell ?_ (by first | exact Nat.le_refl _ | omega | (simp; done) | (simp; omega)) _ | (with_reducible refine ext_trans ?_ (by with_reducible assumption))))
          have lRs_5 : w1.heap.size < w5.heap.size := by omega
          have lRc_5 : w2.heap.size < w5.heap.size := by omega
          have lRd_5 : w3.heap.size < w5.heap.size := by omega
          have lRx_5 : w4.heap.size < w5.heap.size := by omega
          have Rs_5 := Lib.hid rs_5
          have r0_rs_5 := cell_of_row _ _ 0 _ _ _ rs_5
          have r1_rs_5 := cell_of_row _ _ 1 _ _ _ rs_5
          have r2_rs_5 := cell_of_row _ _ 2 _ _ _ rs_5
          have r3_rs_5 := cell_of_row _ _ 3 _ _ _ rs_5
          have r4_rs_5 := cell_of_row _ _ 4 _ _ _ rs_5
          have r5_rs_5 := cell_of_row _ _ 5 _ _ _ rs_5
          have f0_rs_5 := frozen_of_row _ _ 0 _ _ rs_5
          have f1_rs_5 := frozen_of_row _ _ 1 _ _ rs_5
          have f2_rs_5 := frozen_of_row _ _ 2 _ _ rs_5
          have f3_rs_5 := frozen_of_row _ _ 3 _ _ rs_5
          have f4_rs_5 := frozen_of_row _ _ 4 _ _ rs_5
          have f5_rs_5 := frozen_of_row _ _ 5 _ _ rs_5
          simp at r0_rs_5 r1_rs_5 r2_rs_5 r3_rs_5 r4_rs_5 r5_rs_5
          clear rs_5
          have Rc_5 := Lib.hid rc_5
          have r0_rc_5 := cell_of_row _ _ 0 _ _ _ rc_5
          have r1_rc_5 := cell_of_row _ _ 1 _ _ _ rc_5
          have r2_rc_5 := cell_of_row _ _ 2 _ _ _ rc_5
          have f0_rc_5 := frozen_of_row _ _ 0 _ _ rc_5
          have f1_rc_5 := frozen_of_row _ _ 1 _ _ rc_5
          have f2_rc_5 := frozen_of_row _ _ 2 _ _ rc_5
          simp at r0_rc_5 r1_rc_5 r2_rc_5
          clear rc_5
          have Rd_5 := Lib.hid rd_5
          have r0_rd_5 := cell_of_row _ _ 0 _ _ _ rd_5
          have r1_rd_5 := cell_of_row _ _ 1 _ _ _ rd_5
          have r2_rd_5 := cell_of_row _ _ 2 _ _ _ rd_5
          have f0_rd_5 := frozen_of_row _ _ 0 _ _ rd_5
          have f1_rd_5 := frozen_of_row _ _ 1 _ _ rd_5
          have f2_rd_5 := frozen_of_row _ _ 2 _ _ rd_5
          simp at r0_rd_5 r1_rd_5 r2_rd_5
          clear rd_5
          have Rx_5 := Lib.hid rx_5
          have r0_rx_5 := cell_of_row _ _ 0 _ _ _ rx_5
          have r1_rx_5 := cell_of_row _ _ 1 _ _ _ rx_5
          have r2_rx_5 := cell_of_row _ _ 2 _ _ _ rx_5
          have r3_rx_5 := cell_of_row _ _ 3 _ _ _ rx_5
          have r4_rx_5 := cell_of_row _ _ 4 _ _ _ rx_5
          have r5_rx_5 := cell_of_row _ _ 5 _ _ _ rx_5
          have f0_rx_5 := frozen_of_row _ _ 0 _ _ rx_5
          have f1_rx_5 := frozen_of_row _ _ 1 _ _ rx_5
          have f2_rx_5 := frozen_of_row _ _ 2 _ _ rx_5
          have f3_rx_5 := frozen_of_row _ _ 3 _ _ rx_5
          have f4_rx_5 := frozen_of_row _ _ 4 _ _ rx_5
          have f5_rx_5 := frozen_of_row _ _ 5 _ _ rx_5
          simp at r0_rx_5 r1_rx_5 r2_rx_5 r3_rx_5 r4_rx_5 r5_rx_5
          clear rx_5
          clear r0_rs_4 f0_rs_4 r1_rs_4 f1_rs_4 r2_rs_4 f2_rs_4 r3_rs_4 f3_rs_4 r4_rs_4 f4_rs_4 r5_rs_4 f5_rs_4
          clear r0_rc_4 f0_rc_4 r1_rc_4 f1_rc_4 r2_rc_4 f2_rc_4
          clear r0_rd_4 f0_rd_4 r1_rd_4 f1_rd_4 r2_rd_4 f2_rd_4
          go_wp2_with fail
          go_cut [63] (fun z wx => z = .bool false ∧ Below w5.heap.size w5 wx)
          case first =>
            first | go_region_held3 (fun w' => (∀ b' o, b' < (w5).heap.size → w'.cell? ⟨b', o, none⟩ = (w5).cell? ⟨b', o, none⟩) ∧ Below (w5).heap.size (w5) w') (first | with_reducible assumption | (with_reducible apply rg_keep; rotate_left; with_reducible assumption; with_reducible assumption) | with_reducible exact rg_start _ | with_reducible exact rg_alloc (KeptS.out (by with_reducible assumption)) _ | with_reducible exact rg_alloc (by with_reducible assumption) _ | with_reducible exact rg_start_alloc _ _ | ((repeat (with_reducible refine rg_set ?_ _ (by first | exact Nat.le_refl _ | omega | (simp; done) | (simp; omega)) _)); first | with_reducible exact KeptS.out (by with_reducible assumption) | with_reducible assumption | with_reducible exact rg_alloc (KeptS.out (by with_reducible assumption)) _)) (first | (go_at_call 19; ((with_reducible refine (Y5.out _).mono ?_); (rintro e wA ⟨rfl, hbA⟩; have hSA := rg_keepK (by first | with_reducible assumption | exact KeptS.out (by with_reducible assumption)) hbA))) | (go_at_call 26; ((with_reducible refine (Y4.out _).mono ?_); (rintro e wB ⟨rfl, hbB⟩; have hSB := rg_keepK (by first | with_reducible assumption | exact KeptS.out (by with_reducible assumption)) hbB))) | (go_at_call 15; ((with_reducible refine (Y6.out _).mono ?_); (rintro e wC ⟨rfl, hbC⟩; have hSC := rg_keepK (by first | with_reducible assumption | exact KeptS.out (by with_reducible assumption)) hbC)))) | fail
            all_goals (go_wp2_with fail; go_meet; exact ⟨rfl, (by assumption : _ ∧ Below w5.heap.size w5 wC).2⟩)
          case rest =>
          obtain ⟨rfl, hb6⟩ := hcut
          rename World => w6
          have hz6 := hb6.size
          (try simp at hz6)
          have rs_6 := (hb6.block _ (by first | omega | (simp; done) | (simp; omega))).trans Rs_5.out
          have rc_6 := (hb6.block _ (by first | omega | (simp; done) | (simp; omega))).trans Rc_5.out
          have rd_6 := (hb6.block _ (by first | omega | (simp; done) | (simp; omega))).trans Rd_5.out
          have rx_6 := (hb6.block _ (by first | omega | (simp; done) | (simp; omega))).trans Rx_5.out
          have hw6 : Below w.heap.size w w6 := (by repeat (first | with_reducible exact Below.refl _ _ | with_reducible assumption | with_reducible refine Below.drew ?_ | with_reducible refine Below.alloc ?_ (by first | exact Nat.le_refl _ | omega | (simp; done) | (simp; omega)) _ | with_reducible refine Below.setCell ?_ (by first | exact Nat.le_refl _ | omega | (simp; done) | (simp; omega)) _ | (with_reducible refine ext_trans ?_ (by with_reducible assumption))))
          have lRs_6 : w1.heap.size < w6.heap.size := by omega
          have lRc_6 : w2.heap.size < w6.heap.size := by omega
          have lRd_6 : w3.heap.size < w6.heap.size := by omega
          have lRx_6 : w4.heap.size < w6.heap.size := by omega
          have Rs_6 := Lib.hid rs_6
          have r0_rs_6 := cell_of_row _ _ 0 _ _ _ rs_6
          have r1_rs_6 := cell_of_row _ _ 1 _ _ _ rs_6
          have r2_rs_6 := cell_of_row _ _ 2 _ _ _ rs_6
          have r3_rs_6 := cell_of_row _ _ 3 _ _ _ rs_6
          have r4_rs_6 := cell_of_row _ _ 4 _ _ _ rs_6
          have r5_rs_6 := cell_of_row _ _ 5 _ _ _ rs_6
          have f0_rs_6 := frozen_of_row _ _ 0 _ _ rs_6
          have f1_rs_6 := frozen_of_row _ _ 1 _ _ rs_6
          have f2_rs_6 := frozen_of_row _ _ 2 _ _ rs_6
          have f3_rs_6 := frozen_of_row _ _ 3 _ _ rs_6
          have f4_rs_6 := frozen_of_row _ _ 4 _ _ rs_6
          have f5_rs_6 := frozen_of_row _ _ 5 _ _ rs_6
          simp at r0_rs_6 r1_rs_6 r2_rs_6 r3_rs_6 r4_rs_6 r5_rs_6
          clear rs_6
          have Rc_6 := Lib.hid rc_6
          have r0_rc_6 := cell_of_row _ _ 0 _ _ _ rc_6
          have r1_rc_6 := cell_of_row _ _ 1 _ _ _ rc_6
          have r2_rc_6 := cell_of_row _ _ 2 _ _ _ rc_6
          have f0_rc_6 := frozen_of_row _ _ 0 _ _ rc_6
          have f1_rc_6 := frozen_of_row _ _ 1 _ _ rc_6
          have f2_rc_6 := frozen_of_row _ _ 2 _ _ rc_6
          simp at r0_rc_6 r1_rc_6 r2_rc_6
          clear rc_6
          have Rd_6 := Lib.hid rd_6
          have r0_rd_6 := cell_of_row _ _ 0 _ _ _ rd_6
          have r1_rd_6 := cell_of_row _ _ 1 _ _ _ rd_6
          have r2_rd_6 := cell_of_row _ _ 2 _ _ _ rd_6
          have f0_rd_6 := frozen_of_row _ _ 0 _ _ rd_6
          have f1_rd_6 := frozen_of_row _ _ 1 _ _ rd_6
          have f2_rd_6 := frozen_of_row _ _ 2 _ _ rd_6
          simp at r0_rd_6 r1_rd_6 r2_rd_6
          clear rd_6
          have Rx_6 := Lib.hid rx_6
          have r0_rx_6 := cell_of_row _ _ 0 _ _ _ rx_6
          have r1_rx_6 := cell_of_row _ _ 1 _ _ _ rx_6
          have r2_rx_6 := cell_of_row _ _ 2 _ _ _ rx_6
          have r3_rx_6 := cell_of_row _ _ 3 _ _ _ rx_6
          have r4_rx_6 := cell_of_row _ _ 4 _ _ _ rx_6
          have r5_rx_6 := cell_of_row _ _ 5 _ _ _ rx_6
          have f0_rx_6 := frozen_of_row _ _ 0 _ _ rx_6
          have f1_rx_6 := frozen_of_row _ _ 1 _ _ rx_6
          have f2_rx_6 := frozen_of_row _ _ 2 _ _ rx_6
          have f3_rx_6 := frozen_of_row _ _ 3 _ _ rx_6
          have f4_rx_6 := frozen_of_row _ _ 4 _ _ rx_6
          have f5_rx_6 := frozen_of_row _ _ 5 _ _ rx_6
          simp at r0_rx_6 r1_rx_6 r2_rx_6 r3_rx_6 r4_rx_6 r5_rx_6
          clear rx_6
          clear r0_rs_5 f0_rs_5 r1_rs_5 f1_rs_5 r2_rs_5 f2_rs_5 r3_rs_5 f3_rs_5 r4_rs_5 f4_rs_5 r5_rs_5 f5_rs_5
          clear r0_rc_5 f0_rc_5 r1_rc_5 f1_rc_5 r2_rc_5 f2_rc_5
          clear r0_rd_5 f0_rd_5 r1_rd_5 f1_rd_5 r2_rd_5 f2_rd_5
          clear r0_rx_5 f0_rx_5 r1_rx_5 f1_rx_5 r2_rx_5 f2_rx_5 r3_rx_5 f3_rx_5 r4_rx_5 f4_rx_5 r5_rx_5 f5_rx_5
          have hTd := HT.out
          go_wp2_with fail
          go_cut [2] (fun z wx => z = .bool true ∧ Below w6.heap.size w6 wx)
          case rest =>
            obtain ⟨rfl, hbz⟩ := hcut
            go_wp2_with fail
            go_ret
            exact ⟨rfl, hw6.trans (hbz.mono hw6.size)⟩
          case first =>
            refine wp_region_noPanic ?_
            refine wp_region_held_drew (S := (fun w' => (∀ b' o, b' < w6.heap.size → w'.cell? ⟨b', o, none⟩ = w6.cell? ⟨b', o, none⟩) ∧ Below w6.heap.size w6 w')) (by kernel_rfl) (by first | exact rg_start _) (fun hHeld => ?_)
            refine wpAnyH_take (i := 0) (oi := _) (v := ?v0_55) rfl (by kernel_rfl) (by kernel_rfl) (by kernel_rfl) (fun _ _ _ h => h) (Or.inl ⟨by rfl, ?hy0_55⟩) (by with_reducible assumption) ?rest0_55
            case hy0_55 => ((intro w hSw; (try dsimp only at hSw); go_simp); (try with_reducible rfl))
            (try simp only [Act.put, List.getElem_toArray, List.getElem_cons_succ, List.getElem_cons_zero, List.setIfInBounds_toArray, List.set_cons_zero, List.set_cons_succ])
            refine wpAnyH_take (i := 1) (oi := _) (v := ?v1_56) rfl (by kernel_rfl) (by kernel_rfl) (by kernel_rfl) (fun _ _ _ h => h) (Or.inl ⟨by rfl, ?hy1_56⟩) (by with_reducible assumption) ?rest1_56
            case hy1_56 => ((intro w hSw; (try dsimp only at hSw); go_simp); (try with_reducible rfl))
            (try simp only [Act.put, List.getElem_toArray, List.getElem_cons_succ, List.getElem_cons_zero, List.setIfInBounds_toArray, List.set_cons_zero, List.set_cons_succ])
            refine wpAnyH_take (i := 2) (oi := _) (v := ?v2_57) rfl (by kernel_rfl) (by kernel_rfl) (by kernel_rfl) (fun _ _ _ h => h) (Or.inl ⟨by rfl, ?hy2_57⟩) (by with_reducible assumption) ?rest2_57
            case hy2_57 => ((intro w hSw; (try dsimp only at hSw); go_simp); (try with_reducible rfl))
            (try simp only [Act.put, List.getElem_toArray, List.getElem_cons_succ, List.getElem_cons_zero, List.setIfInBounds_toArray, List.set_cons_zero, List.set_cons_succ])
            refine wpAnyH_take (i := 3) (oi := _) (v := ?v3_58) rfl (by kernel_rfl) (by kernel_rfl) (by kernel_rfl) (fun _ _ _ h => h) (Or.inl ⟨by rfl, ?hy3_58⟩) (by with_reducible assumption) ?rest3_58
            case hy3_58 => ((intro w hSw; (try dsimp only at hSw); go_simp); (try with_reducible rfl))
            (try simp only [Act.put, List.getElem_toArray, List.getElem_cons_succ, List.getElem_cons_zero, List.setIfInBounds_toArray, List.set_cons_zero, List.set_cons_succ])
            refine wpAnyH_take (i := 4) (oi := _) (v := ?v4_59) rfl (by kernel_rfl) (by kernel_rfl) (by kernel_rfl) (fun _ _ _ h => h) (Or.inl ⟨by rfl, ?hy4_59⟩) (by with_reducible assumption) ?rest4_59
            case hy4_59 => ((intro w hSw; (try dsimp only at hSw); go_simp); (try with_reducible rfl))
            (try simp only [Act.put, List.getElem_toArray, List.getElem_cons_succ, List.getElem_cons_zero, List.setIfInBounds_toArray, List.set_cons_zero, List.set_cons_succ])
            refine wpAnyH_take (i := 5) (oi := _) (v := ?v5_60) rfl (by kernel_rfl) (by kernel_rfl) (by kernel_rfl) (fun _ _ _ h => h) (Or.inl ⟨by rfl, ?hy5_60⟩) (by with_reducible assumption) ?rest5_60
            case hy5_60 => ((intro w hSw; (try dsimp only at hSw); go_simp); (try with_reducible rfl))
            (try simp only [Act.put, List.getElem_toArray, List.getElem_cons_succ, List.getElem_cons_zero, List.setIfInBounds_toArray, List.set_cons_zero, List.set_cons_succ])
            refine wpAnyH_take (i := 6) (oi := _) (v := ?v6_61) rfl (by kernel_rfl) (by kernel_rfl) (by kernel_rfl) (fun _ _ _ h => h) (Or.inl ⟨by rfl, ?hy6_61⟩) (by with_reducible assumption) ?rest6_61
            case hy6_61 => ((intro w hSw; (try dsimp only at hSw); go_simp); (try with_reducible rfl))
            (try simp only [Act.put, List.getElem_toArray, List.getElem_cons_succ, List.getElem_cons_zero, List.setIfInBounds_toArray, List.set_cons_zero, List.set_cons_succ])
            refine wpAnyH_take (i := 7) (oi := _) (v := ?v7_62) rfl (by kernel_rfl) (by kernel_rfl) (by kernel_rfl) (fun _ _ _ h => h) (Or.inl ⟨by rfl, ?hy7_62⟩) (by with_reducible assumption) ?rest7_62
            case hy7_62 => ((intro w hSw; (try dsimp only at hSw); go_simp); (try with_reducible rfl))
            (try simp only [Act.put, List.getElem_toArray, List.getElem_cons_succ, List.getElem_cons_zero, List.setIfInBounds_toArray, List.set_cons_zero, List.set_cons_succ])
            refine wpAnyH_take (i := 8) (oi := _) (v := ?v8_63) rfl (by kernel_rfl) (by kernel_rfl) (by kernel_rfl) (fun _ _ _ h => h) (Or.inl ⟨by rfl, ?hy8_63⟩) (by with_reducible assumption) ?rest8_63
            case hy8_63 => ((intro w hSw; (try dsimp only at hSw); go_simp); (try with_reducible rfl))
            (try simp only [Act.put, List.getElem_toArray, List.getElem_cons_succ, List.getElem_cons_zero, List.setIfInBounds_toArray, List.set_cons_zero, List.set_cons_succ])
            refine wpAnyH_take (i := 9) (oi := _) (v := ?v9_64) rfl (by kernel_rfl) (by kernel_rfl) (by kernel_rfl) (fun _ _ _ h => h) (Or.inl ⟨by rfl, ?hy9_64⟩) (by with_reducible assumption) ?rest9_64
            case hy9_64 => ((intro w hSw; (try dsimp only at hSw); go_simp); (try with_reducible rfl))
            (try simp only [Act.put, List.getElem_toArray, List.getElem_cons_succ, List.getElem_cons_zero, List.setIfInBounds_toArray, List.set_cons_zero, List.set_cons_succ])
            refine wpAnyH_take (i := 10) (oi := _) (v := ?v10_65) rfl (by kernel_rfl) (by kernel_rfl) (by kernel_rfl) (fun _ _ _ h => h) (Or.inl ⟨by rfl, ?hy10_65⟩) (by with_reducible assumption) ?rest10_65
            case hy10_65 => ((intro w hSw; (try dsimp only at hSw); go_simp); (try with_reducible rfl))
            (try simp only [Act.put, List.getElem_toArray, List.getElem_cons_succ, List.getElem_cons_zero, List.setIfInBounds_toArray, List.set_cons_zero, List.set_cons_succ])
            refine wpAnyH_take (i := 11) (oi := _) (v := ?v11_66) rfl (by kernel_rfl) (by kernel_rfl) (by kernel_rfl) (fun _ _ _ h => h) (Or.inl ⟨by rfl, ?hy11_66⟩) (by with_reducible assumption) ?rest11_66
            case hy11_66 => ((intro w hSw; (try dsimp only at hSw); go_simp); (try with_reducible rfl))
            (try simp only [Act.put, List.getElem_toArray, List.getElem_cons_succ, List.getElem_cons_zero, List.setIfInBounds_toArray, List.set_cons_zero, List.set_cons_succ])
            refine wpAnyH_take (i := 12) (oi := _) (v := ?v12_67) rfl (by kernel_rfl) (by kernel_rfl) (by kernel_rfl) (fun _ _ _ h => h) (Or.inl ⟨by rfl, ?hy12_67⟩) (by with_reducible assumption) ?rest12_67
            case hy12_67 => ((intro w hSw; (try dsimp only at hSw); go_simp); (try with_reducible rfl))
            (try simp only [Act.put, List.getElem_toArray, List.getElem_cons_succ, List.getElem_cons_zero, List.setIfInBounds_toArray, List.set_cons_zero, List.set_cons_succ])
            refine wpAnyH_take (i := 13) (oi := _) (v := ?v13_68) rfl (by kernel_rfl) (by kernel_rfl) (by kernel_rfl) (fun _ _ _ h => h) (Or.inl ⟨by rfl, ?hy13_68⟩) (by with_reducible assumption) ?rest13_68
            case hy13_68 => ((intro w hSw; (try dsimp only at hSw); go_simp); (try with_reducible rfl))
            (try simp only [Act.put, List.getElem_toArray, List.getElem_cons_succ, List.getElem_cons_zero, List.setIfInBounds_toArray, List.set_cons_zero, List.set_cons_succ])
            refine wpAnyH_take (i := 14) (oi := _) (v := ?v14_69) rfl (by kernel_rfl) (by kernel_rfl) (by kernel_rfl) (fun _ _ _ h => h) (Or.inl ⟨by rfl, ?hy14_69⟩) (by with_reducible assumption) ?rest14_69
            case hy14_69 => ((intro w hSw; (try dsimp only at hSw); go_simp); (try with_reducible rfl))
            (try simp only [Act.put, List.getElem_toArray, List.getElem_cons_succ, List.getElem_cons_zero, List.setIfInBounds_toArray, List.set_cons_zero, List.set_cons_succ])
            refine wpAnyH_take (i := 15) (oi := _) (v := ?v15_70) rfl (by kernel_rfl) (by kernel_rfl) (by kernel_rfl) (fun _ _ _ h => h) (Or.inl ⟨by rfl, ?hy15_70⟩) (by with_reducible assumption) ?rest15_70
            case hy15_70 => ((intro w hSw; (try dsimp only at hSw); go_simp); (try with_reducible rfl))
            (try simp only [Act.put, List.getElem_toArray, List.getElem_cons_succ, List.getElem_cons_zero, List.setIfInBounds_toArray, List.set_cons_zero, List.set_cons_succ])
            refine wpAnyH_take (i := 16) (oi := _) (v := ?v16_71) rfl (by kernel_rfl) (by kernel_rfl) (by kernel_rfl) (fun _ _ _ h => h) (Or.inl ⟨by rfl, ?hy16_71⟩) (by with_reducible assumption) ?rest16_71
            case hy16_71 => ((intro w hSw; (try dsimp only at hSw); go_simp); (try with_reducible rfl))
            (try simp only [Act.put, List.getElem_toArray, List.getElem_cons_succ, List.getElem_cons_zero, List.setIfInBounds_toArray, List.set_cons_zero, List.set_cons_succ])
            refine wpAnyH_take (i := 17) (oi := _) (v := ?v17_72) rfl (by kernel_rfl) (by kernel_rfl) (by kernel_rfl) (fun _ _ _ h => h) (Or.inl ⟨by rfl, ?hy17_72⟩) (by with_reducible assumption) ?rest17_72
            case hy17_72 => ((intro w hSw; (try dsimp only at hSw); go_simp); (try with_reducible rfl))
            (try simp only [Act.put, List.getElem_toArray, List.getElem_cons_succ, List.getElem_cons_zero, List.setIfInBounds_toArray, List.set_cons_zero, List.set_cons_succ])
            refine wpAnyH_take (i := 18) (oi := _) (v := ?v18_73) rfl (by kernel_rfl) (by kernel_rfl) (by kernel_rfl) (fun _ _ _ h => h) (Or.inl ⟨by rfl, ?hy18_73⟩) (by with_reducible assumption) ?rest18_73
            case hy18_73 => ((intro w hSw; (try dsimp only at hSw); go_simp); (try with_reducible rfl))
            (try simp only [Act.put, List.getElem_toArray, List.getElem_cons_succ, List.getElem_cons_zero, List.setIfInBounds_toArray, List.set_cons_zero, List.set_cons_succ])
            refine wpAnyH_take (i := 19) (oi := _) (v := ?v19_74) rfl (by kernel_rfl) (by kernel_rfl) (by kernel_rfl) (fun _ _ _ h => h) (Or.inl ⟨by rfl, ?hy19_74⟩) (by with_reducible assumption) ?rest19_74
            case hy19_74 => ((intro w hSw; (try dsimp only at hSw); go_simp); (try with_reducible rfl))
            (try simp only [Act.put, List.getElem_toArray, List.getElem_cons_succ, List.getElem_cons_zero, List.setIfInBounds_toArray, List.set_cons_zero, List.set_cons_succ])
            refine wpAnyH_take (i := 20) (oi := _) (v := ?v20_75) rfl (by kernel_rfl) (by kernel_rfl) (by kernel_rfl) (fun _ _ _ h => h) (Or.inl ⟨by rfl, ?hy20_75⟩) (by with_reducible assumption) ?rest20_75
            case hy20_75 => ((intro w hSw; (try dsimp only at hSw); go_simp); (try with_reducible rfl))
            (try simp only [Act.put, List.getElem_toArray, List.getElem_cons_succ, List.getElem_cons_zero, List.setIfInBounds_toArray, List.set_cons_zero, List.set_cons_succ])
            refine wpAnyH_take (i := 21) (oi := _) (v := ?v21_76) rfl (by kernel_rfl) (by kernel_rfl) (by kernel_rfl) (fun _ _ _ h => h) (Or.inl ⟨by rfl, ?hy21_76⟩) (by with_reducible assumption) ?rest21_76
            case hy21_76 => ((intro w hSw; (try dsimp only at hSw); go_simp); (try with_reducible rfl))
            (try simp only [Act.put, List.getElem_toArray, List.getElem_cons_succ, List.getElem_cons_zero, List.setIfInBounds_toArray, List.set_cons_zero, List.set_cons_succ])
            refine wpAnyH_take (i := 22) (oi := _) (v := ?v22_77) rfl (by kernel_rfl) (by kernel_rfl) (by kernel_rfl) (fun _ _ _ h => h) (Or.inl ⟨by rfl, ?hy22_77⟩) (by with_reducible assumption) ?rest22_77
            case hy22_77 => ((intro w hSw; (try dsimp only at hSw); go_simp); (try with_reducible rfl))
            (try simp only [Act.put, List.getElem_toArray, List.getElem_cons_succ, List.getElem_cons_zero, List.setIfInBounds_toArray, List.set_cons_zero, List.set_cons_succ])
            refine wpAnyH_take (i := 23) (oi := _) (v := ?v23_78) rfl (by kernel_rfl) (by kernel_rfl) (by kernel_rfl) (fun _ _ _ h => h) (Or.inl ⟨by rfl, ?hy23_78⟩) (by with_reducible assumption) ?rest23_78
            case hy23_78 => ((intro w hSw; (try dsimp only at hSw); go_simp); (try with_reducible rfl))
            (try simp only [Act.put, List.getElem_toArray, List.getElem_cons_succ, List.getElem_cons_zero, List.setIfInBounds_toArray, List.set_cons_zero, List.set_cons_succ])
            refine wpAnyH_take (i := 24) (oi := _) (v := ?v24_79) rfl (by kernel_rfl) (by kernel_rfl) (by kernel_rfl) (fun _ _ _ h => h) (Or.inl ⟨by rfl, ?hy24_79⟩) (by with_reducible assumption) ?rest24_79
            case hy24_79 => ((intro w hSw; (try dsimp only at hSw); go_simp); (try with_reducible rfl))
            (try simp only [Act.put, List.getElem_toArray, List.getElem_cons_succ, List.getElem_cons_zero, List.setIfInBounds_toArray, List.set_cons_zero, List.set_cons_succ])
            refine wpAnyH_take (i := 25) (oi := _) (v := ?v25_80) rfl (by kernel_rfl) (by kernel_rfl) (by kernel_rfl) (fun _ _ _ h => h) (Or.inl ⟨by rfl, ?hy25_80⟩) (by with_reducible assumption) ?rest25_80
            case hy25_80 => ((intro w hSw; (try dsimp only at hSw); go_simp); (try with_reducible rfl))
            (try simp only [Act.put, List.getElem_toArray, List.getElem_cons_succ, List.getElem_cons_zero, List.setIfInBounds_toArray, List.set_cons_zero, List.set_cons_succ])
            refine wpAnyH_take (i := 26) (oi := _) (v := ?v26_81) rfl (by kernel_rfl) (by kernel_rfl) (by kernel_rfl) (fun _ _ _ h => h) (Or.inl ⟨by rfl, ?hy26_81⟩) (by with_reducible assumption) ?rest26_81
            case hy26_81 => ((intro w hSw; (try dsimp only at hSw); go_simp); (try with_reducible rfl))
            (try simp only [Act.put, List.getElem_toArray, List.getElem_cons_succ, List.getElem_cons_zero, List.setIfInBounds_toArray, List.set_cons_zero, List.set_cons_succ])
            refine wpAnyH_take (i := 27) (oi := _) (v := ?v27_82) rfl (by kernel_rfl) (by kernel_rfl) (by kernel_rfl) (fun _ _ _ h => h) (Or.inl ⟨by rfl, ?hy27_82⟩) (by with_reducible assumption) ?rest27_82
            case hy27_82 => ((intro w hSw; (try dsimp only at hSw); go_simp); (try with_reducible rfl))
            (try simp only [Act.put, List.getElem_toArray, List.getElem_cons_succ, List.getElem_cons_zero, List.setIfInBounds_toArray, List.set_cons_zero, List.set_cons_succ])
            refine wpAnyH_take (i := 28) (oi := _) (v := ?v28_83) rfl (by kernel_rfl) (by kernel_rfl) (by kernel_rfl) (fun _ _ _ h => h) (Or.inl ⟨by rfl, ?hy28_83⟩) (by with_reducible assumption) ?rest28_83
            case hy28_83 => ((intro w hSw; (try dsimp only at hSw); go_simp); (try with_reducible rfl))
            (try simp only [Act.put, List.getElem_toArray, List.getElem_cons_succ, List.getElem_cons_zero, List.setIfInBounds_toArray, List.set_cons_zero, List.set_cons_succ])
            refine wpAnyH_take (i := 29) (oi := _) (v := ?v29_84) rfl (by kernel_rfl) (by kernel_rfl) (by kernel_rfl) (fun _ _ _ h => h) (Or.inl ⟨by rfl, ?hy29_84⟩) (by with_reducible assumption) ?rest29_84
            case hy29_84 => ((intro w hSw; (try dsimp only at hSw); go_simp); (try with_reducible rfl))
            (try simp only [Act.put, List.getElem_toArray, List.getElem_cons_succ, List.getElem_cons_zero, List.setIfInBounds_toArray, List.set_cons_zero, List.set_cons_succ])
            refine wpAnyH_take (i := 30) (oi := _) (v := ?v30_85) rfl (by kernel_rfl) (by kernel_rfl) (by kernel_rfl) (fun _ _ _ h => h) (Or.inl ⟨by rfl, ?hy30_85⟩) (by with_reducible assumption) ?rest30_85
            case hy30_85 => ((intro w hSw; (try dsimp only at hSw); go_simp); (try with_reducible rfl))
            (try simp only [Act.put, List.getElem_toArray, List.getElem_cons_succ, List.getElem_cons_zero, List.setIfInBounds_toArray, List.set_cons_zero, List.set_cons_succ])
            refine wpAnyH_take (i := 31) (oi := _) (v := ?v31_86) rfl (by kernel_rfl) (by kernel_rfl) (by kernel_rfl) (fun _ _ _ h => h) (Or.inl ⟨by rfl, ?hy31_86⟩) (by with_reducible assumption) ?rest31_86
            case hy31_86 => ((intro w hSw; (try dsimp only at hSw); go_simp); (try with_reducible rfl))
            (try simp only [Act.put, List.getElem_toArray, List.getElem_cons_succ, List.getElem_cons_zero, List.setIfInBounds_toArray, List.set_cons_zero, List.set_cons_succ])
            refine wpAnyH_take (i := 32) (oi := _) (v := ?v32_87) rfl (by kernel_rfl) (by kernel_rfl) (by kernel_rfl) (fun _ _ _ h => h) (Or.inl ⟨by rfl, ?hy32_87⟩) (by with_reducible assumption) ?rest32_87
            case hy32_87 => ((intro w hSw; (try dsimp only at hSw); go_simp); (try with_reducible rfl))
            (try simp only [Act.put, List.getElem_toArray, List.getElem_cons_succ, List.getElem_cons_zero, List.setIfInBounds_toArray, List.set_cons_zero, List.set_cons_succ])
            refine wpAnyH_take (i := 33) (oi := _) (v := ?v33_88) rfl (by kernel_rfl) (by kernel_rfl) (by kernel_rfl) (fun _ _ _ h => h) (Or.inl ⟨by rfl, ?hy33_88⟩) (by with_reducible assumption) ?rest33_88
            case hy33_88 => ((intro w hSw; (try dsimp only at hSw); go_simp); (try with_reducible rfl))
            (try simp only [Act.put, List.getElem_toArray, List.getElem_cons_succ, List.getElem_cons_zero, List.setIfInBounds_toArray, List.set_cons_zero, List.set_cons_succ])
            refine wpAnyH_take (i := 34) (oi := _) (v := ?v34_89) rfl (by kernel_rfl) (by kernel_rfl) (by kernel_rfl) (fun _ _ _ h => h) (Or.inl ⟨by rfl, ?hy34_89⟩) (by with_reducible assumption) ?rest34_89
            case hy34_89 => ((intro w hSw; (try dsimp only at hSw); go_simp); (try with_reducible rfl))
            (try simp only [Act.put, List.getElem_toArray, List.getElem_cons_succ, List.getElem_cons_zero, List.setIfInBounds_toArray, List.set_cons_zero, List.set_cons_succ])
            refine wpAnyH_take (i := 35) (oi := _) (v := ?v35_90) rfl (by kernel_rfl) (by kernel_rfl) (by kernel_rfl) (fun _ _ _ h => h) (Or.inl ⟨by rfl, ?hy35_90⟩) (by with_reducible assumption) ?rest35_90
            case hy35_90 => ((intro w hSw; (try dsimp only at hSw); go_simp); (try with_reducible rfl))
            (try simp only [Act.put, List.getElem_toArray, List.getElem_cons_succ, List.getElem_cons_zero, List.setIfInBounds_toArray, List.set_cons_zero, List.set_cons_succ])
            refine wpAnyH_take (i := 36) (oi := _) (v := ?v36_91) rfl (by kernel_rfl) (by kernel_rfl) (by kernel_rfl) (fun _ _ _ h => h) (Or.inl ⟨by rfl, ?hy36_91⟩) (by with_reducible assumption) ?rest36_91
            case hy36_91 => ((intro w hSw; (try dsimp only at hSw); go_simp); (try with_reducible rfl))
            (try simp only [Act.put, List.getElem_toArray, List.getElem_cons_succ, List.getElem_cons_zero, List.setIfInBounds_toArray, List.set_cons_zero, List.set_cons_succ])
            refine wpAnyH_take (i := 37) (oi := _) (v := ?v37_92) rfl (by kernel_rfl) (by kernel_rfl) (by kernel_rfl) (fun _ _ _ h => h) (Or.inl ⟨by rfl, ?hy37_92⟩) (by with_reducible assumption) ?rest37_92
            case hy37_92 => ((intro w hSw; (try dsimp only at hSw); go_simp); (try with_reducible rfl))
            (try simp only [Act.put, List.getElem_toArray, List.getElem_cons_succ, List.getElem_cons_zero, List.setIfInBounds_toArray, List.set_cons_zero, List.set_cons_succ])
            refine wpAnyH_take (i := 38) (oi := _) (v := ?v38_93) rfl (by kernel_rfl) (by kernel_rfl) (by kernel_rfl) (fun _ _ _ h => h) (Or.inl ⟨by rfl, ?hy38_93⟩) (by with_reducible assumption) ?rest38_93
            case hy38_93 => ((intro w hSw; (try dsimp only at hSw); go_simp); (try with_reducible rfl))
            (try simp only [Act.put, List.getElem_toArray, List.getElem_cons_succ, List.getElem_cons_zero, List.setIfInBounds_toArray, List.set_cons_zero, List.set_cons_succ])
            refine wpAnyH_take (i := 39) (oi := _) (v := ?v39_94) rfl (by kernel_rfl) (by kernel_rfl) (by kernel_rfl) (fun _ _ _ h => h) (Or.inl ⟨by rfl, ?hy39_94⟩) (by with_reducible assumption) ?rest39_94
            case hy39_94 => ((intro w hSw; (try dsimp only at hSw); go_simp); (try with_reducible rfl))
            (try simp only [Act.put, List.getElem_toArray, List.getElem_cons_succ, List.getElem_cons_zero, List.setIfInBounds_toArray, List.set_cons_zero, List.set_cons_succ])
            refine wpAnyH_take (i := 40) (oi := _) (v := ?v40_95) rfl (by kernel_rfl) (by kernel_rfl) (by kernel_rfl) (fun _ _ _ h => h) (Or.inl ⟨by rfl, ?hy40_95⟩) (by with_reducible assumption) ?rest40_95
            case hy40_95 => ((intro w hSw; (try dsimp only at hSw); go_simp); (try with_reducible rfl))
            (try simp only [Act.put, List.getElem_toArray, List.getElem_cons_succ, List.getElem_cons_zero, List.setIfInBounds_toArray, List.set_cons_zero, List.set_cons_succ])
            refine wpAnyH_take (i := 42) (oi := _) (v := ?v42_96) rfl (by kernel_rfl) (by kernel_rfl) (by kernel_rfl) (fun _ _ _ h => h) (Or.inl ⟨by rfl, ?hy42_96⟩) (by with_reducible assumption) ?rest42_96
            case hy42_96 => ((intro w hSw; (try dsimp only at hSw); go_simp); (try with_reducible rfl))
            (try simp only [Act.put, List.getElem_toArray, List.getElem_cons_succ, List.getElem_cons_zero, List.setIfInBounds_toArray, List.set_cons_zero, List.set_cons_succ])
            refine wpAnyH_take (i := 43) (oi := _) (v := ?v43_97) rfl (by kernel_rfl) (by kernel_rfl) (by kernel_rfl) (fun _ _ _ h => h) (Or.inl ⟨by rfl, ?hy43_97⟩) (by with_reducible assumption) ?rest43_97
            case hy43_97 => ((intro w hSw; (try dsimp only at hSw); go_simp); (try with_reducible rfl))
            (try simp only [Act.put, List.getElem_toArray, List.getElem_cons_succ, List.getElem_cons_zero, List.setIfInBounds_toArray, List.set_cons_zero, List.set_cons_succ])
            refine wpAnyH_take (i := 45) (oi := _) (v := ?v45_98) rfl (by kernel_rfl) (by kernel_rfl) (by kernel_rfl) (fun _ _ _ h => h) (Or.inl ⟨by rfl, ?hy45_98⟩) (by with_reducible assumption) ?rest45_98
            case hy45_98 => ((intro w hSw; (try dsimp only at hSw); go_simp); (try with_reducible rfl))
            (try simp only [Act.put, List.getElem_toArray, List.getElem_cons_succ, List.getElem_cons_zero, List.setIfInBounds_toArray, List.set_cons_zero, List.set_cons_succ])
            refine wpAnyH_ready (rs := [41]) (by kernel_rfl) (by simp) ?_
            refine AllReadyH.cons (o := _) rfl (fun K hK => ?_) AllReadyH.nil
            go_simp
            go_at_call 17; ((with_reducible refine (Y7.out _).mono ?_); (rintro e wq5 ⟨rfl, hbq5⟩; have hSq5 := rg_keepK (by with_reducible assumption) hbq5))
            go_wp2_with fail
            refine hK.out _ _ ?_ (fun hHeld => ?_)
            · (try dsimp only); (first | with_reducible assumption | (with_reducible apply rg_keep; rotate_left; with_reducible assumption; with_reducible assumption) | with_reducible exact rg_start _ | with_reducible exact rg_alloc (KeptS.out (by with_reducible assumption)) _ | with_reducible exact rg_alloc (by with_reducible assumption) _ | with_reducible exact rg_start_alloc _ _ | ((repeat (with_reducible refine rg_set ?_ _ (by first | exact Nat.le_refl _ | omega | (simp; done) | (simp; omega)) _)); first | with_reducible exact KeptS.out (by with_reducible assumption) | with_reducible assumption | with_reducible exact rg_alloc (KeptS.out (by with_reducible assumption)) _))
            clear hK K
            (try simp only [Act.put, List.getElem_toArray, List.getElem_cons_succ, List.getElem_cons_zero, List.setIfInBounds_toArray, List.set_cons_zero, List.set_cons_succ])
            refine wpAnyH_ready (rs := [44]) (by kernel_rfl) (by simp) ?_
            refine AllReadyH.cons (o := _) rfl (fun K hK => ?_) AllReadyH.nil
            go_simp
            go_at_call 37; ((with_reducible refine (Y8.out _).mono ?_); rintro e w' ⟨rfl, rfl⟩)
            go_wp2_with fail
            refine hK.out _ _ ?_ (fun hHeld => ?_)
            · (try dsimp only); (first | with_reducible assumption | (with_reducible apply rg_keep; rotate_left; with_reducible assumption; with_reducible assumption) | with_reducible exact rg_start _ | with_reducible exact rg_alloc (KeptS.out (by with_reducible assumption)) _ | with_reducible exact rg_alloc (by with_reducible assumption) _ | with_reducible exact rg_start_alloc _ _ | ((repeat (with_reducible refine rg_set ?_ _ (by first | exact Nat.le_refl _ | omega | (simp; done) | (simp; omega)) _)); first | with_reducible exact KeptS.out (by with_reducible assumption) | with_reducible assumption | with_reducible exact rg_alloc (KeptS.out (by with_reducible assumption)) _))
            clear hK K
            (try simp only [Act.put, List.getElem_toArray, List.getElem_cons_succ, List.getElem_cons_zero, List.setIfInBounds_toArray, List.set_cons_zero, List.set_cons_succ])
            refine wpAnyH_take (i := 46) (oi := _) (v := ?v46_99) rfl (by kernel_rfl) (by kernel_rfl) (by kernel_rfl) (fun _ _ _ h => h) (Or.inl ⟨by rfl, ?hy46_99⟩) (by with_reducible assumption) ?rest46_99
            case hy46_99 => ((intro w hSw; (try dsimp only at hSw); go_simp); (try with_reducible rfl))
            (try simp only [Act.put, List.getElem_toArray, List.getElem_cons_succ, List.getElem_cons_zero, List.setIfInBounds_toArray, List.set_cons_zero, List.set_cons_succ])
            refine wpAnyH_take (i := 47) (oi := _) (v := ?v47_100) rfl (by kernel_rfl) (by kernel_rfl) (by kernel_rfl) (fun _ _ _ h => h) (Or.inl ⟨by rfl, ?hy47_100⟩) (by with_reducible assumption) ?rest47_100
            case hy47_100 => ((intro w hSw; (try dsimp only at hSw); go_simp); (try with_reducible rfl))
            (try simp only [Act.put, List.getElem_toArray, List.getElem_cons_succ, List.getElem_cons_zero, List.setIfInBounds_toArray, List.set_cons_zero, List.set_cons_succ])
            refine wpAnyH_take (i := 48) (oi := _) (v := ?v48_101) rfl (by kernel_rfl) (by kernel_rfl) (by kernel_rfl) (fun _ _ _ h => h) (Or.inl ⟨by rfl, ?hy48_101⟩) (by with_reducible assumption) ?rest48_101
            case hy48_101 => ((intro w hSw; (try dsimp only at hSw); go_simp); (try with_reducible rfl))
            (try simp only [Act.put, List.getElem_toArray, List.getElem_cons_succ, List.getElem_cons_zero, List.setIfInBounds_toArray, List.set_cons_zero, List.set_cons_succ])
            refine wpAnyH_take (i := 49) (oi := _) (v := ?v49_102) rfl (by kernel_rfl) (by kernel_rfl) (by kernel_rfl) (fun _ _ _ h => h) (Or.inl ⟨by rfl, ?hy49_102⟩) (by with_reducible assumption) ?rest49_102
            case hy49_102 => ((intro w hSw; (try dsimp only at hSw); go_simp); (try with_reducible rfl))
            (try simp only [Act.put, List.getElem_toArray, List.getElem_cons_succ, List.getElem_cons_zero, List.setIfInBounds_toArray, List.set_cons_zero, List.set_cons_succ])
            refine wpAnyH_take (i := 51) (oi := _) (v := ?v51_103) rfl (by kernel_rfl) (by kernel_rfl) (by kernel_rfl) (fun _ _ _ h => h) (Or.inl ⟨by rfl, ?hy51_103⟩) (by with_reducible assumption) ?rest51_103
            case hy51_103 => ((intro w hSw; (try dsimp only at hSw); go_simp); (try with_reducible rfl))
            (try simp only [Act.put, List.getElem_toArray, List.getElem_cons_succ, List.getElem_cons_zero, List.setIfInBounds_toArray, List.set_cons_zero, List.set_cons_succ])
            refine wpAnyH_take (i := 52) (oi := _) (v := ?v52_104) rfl (by kernel_rfl) (by kernel_rfl) (by kernel_rfl) (fun _ _ _ h => h) (Or.inl ⟨by rfl, ?hy52_104⟩) (by with_reducible assumption) ?rest52_104
            case hy52_104 => ((intro w hSw; (try dsimp only at hSw); go_simp); (try with_reducible rfl))
            (try simp only [Act.put, List.getElem_toArray, List.getElem_cons_succ, List.getElem_cons_zero, List.setIfInBounds_toArray, List.set_cons_zero, List.set_cons_succ])
            refine wpAnyH_take (i := 53) (oi := _) (v := ?v53_105) rfl (by kernel_rfl) (by kernel_rfl) (by kernel_rfl) (fun _ _ _ h => h) (Or.inl ⟨by rfl, ?hy53_105⟩) (by with_reducible assumption) ?rest53_105
            case hy53_105 => ((intro w hSw; (try dsimp only at hSw); go_simp); (try with_reducible rfl))
            (try simp only [Act.put, List.getElem_toArray, List.getElem_cons_succ, List.getElem_cons_zero, List.setIfInBounds_toArray, List.set_cons_zero, List.set_cons_succ])
            refine wpAnyH_ready (rs := [50]) (by kernel_rfl) (by simp) ?_
            refine AllReadyH.cons (o := _) rfl (fun K hK => ?_) AllReadyH.nil
            go_simp
            go_at_call 17; ((with_reducible refine (Y7.out _).mono ?_); (rintro e wq7 ⟨rfl, hbq7⟩; have hSq7 := rg_keepK (by with_reducible assumption) hbq7))
            go_wp2_with fail
            refine hK.out _ _ ?_ (fun hHeld => ?_)
            · (try dsimp only); (first | with_reducible assumption | (with_reducible apply rg_keep; rotate_left; with_reducible assumption; with_reducible assumption) | with_reducible exact rg_start _ | with_reducible exact rg_alloc (KeptS.out (by with_reducible assumption)) _ | with_reducible exact rg_alloc (by with_reducible assumption) _ | with_reducible exact rg_start_alloc _ _ | ((repeat (with_reducible refine rg_set ?_ _ (by first | exact Nat.le_refl _ | omega | (simp; done) | (simp; omega)) _)); first | with_reducible exact KeptS.out (by with_reducible assumption) | with_reducible assumption | with_reducible exact rg_alloc (KeptS.out (by with_reducible assumption)) _))
            clear hK K
            (try simp only [Act.put, List.getElem_toArray, List.getElem_cons_succ, List.getElem_cons_zero, List.setIfInBounds_toArray, List.set_cons_zero, List.set_cons_succ])
            refine wpAnyH_ready (rs := [54]) (by kernel_rfl) (by simp) ?_
            refine AllReadyH.cons (o := _) rfl (fun K hK => ?_) AllReadyH.nil
            go_simp
            go_at_call 38; ((with_reducible refine (Y9.out _).mono ?_); rintro e w' ⟨rfl, rfl⟩)
            go_wp2_with fail
            refine hK.out _ _ ?_ (fun hHeld => ?_)
            · (try dsimp only); (first | with_reducible assumption | (with_reducible apply rg_keep; rotate_left; with_reducible assumption; with_reducible assumption) | with_reducible exact rg_start _ | with_reducible exact rg_alloc (KeptS.out (by with_reducible assumption)) _ | with_reducible exact rg_alloc (by with_reducible assumption) _ | with_reducible exact rg_start_alloc _ _ | ((repeat (with_reducible refine rg_set ?_ _ (by first | exact Nat.le_refl _ | omega | (simp; done) | (simp; omega)) _)); first | with_reducible exact KeptS.out (by with_reducible assumption) | with_reducible assumption | with_reducible exact rg_alloc (KeptS.out (by with_reducible assumption)) _))
            clear hK K
            (try simp only [Act.put, List.getElem_toArray, List.getElem_cons_succ, List.getElem_cons_zero, List.setIfInBounds_toArray, List.set_cons_zero, List.set_cons_succ])
            refine wpAnyH_take (i := 55) (oi := _) (v := ?v55_106) rfl (by kernel_rfl) (by kernel_rfl) (by kernel_rfl) (fun _ _ _ h => h) (Or.inl ⟨by rfl, ?hy55_106⟩) (by with_reducible assumption) ?rest55_106
            case hy55_106 => ((intro w hSw; (try dsimp only at hSw); go_simp); (try with_reducible rfl))
            (try simp only [Act.put, List.getElem_toArray, List.getElem_cons_succ, List.getElem_cons_zero, List.setIfInBounds_toArray, List.set_cons_zero, List.set_cons_succ])
            refine wpAnyH_take (i := 56) (oi := _) (v := ?v56_107) rfl (by kernel_rfl) (by kernel_rfl) (by kernel_rfl) (fun _ _ _ h => h) (Or.inl ⟨by rfl, ?hy56_107⟩) (by with_reducible assumption) ?rest56_107
            case hy56_107 => ((intro w hSw; (try dsimp only at hSw); go_simp); (try with_reducible rfl))
            (try simp only [Act.put, List.getElem_toArray, List.getElem_cons_succ, List.getElem_cons_zero, List.setIfInBounds_toArray, List.set_cons_zero, List.set_cons_succ])
            refine wpAnyH_take (i := 57) (oi := _) (v := ?v57_108) rfl (by kernel_rfl) (by kernel_rfl) (by kernel_rfl) (fun _ _ _ h => h) (Or.inl ⟨by rfl, ?hy57_108⟩) (by with_reducible assumption) ?rest57_108
            case hy57_108 => ((intro w hSw; (try dsimp only at hSw); go_simp); (try with_reducible rfl))
            (try simp only [Act.put, List.getElem_toArray, List.getElem_cons_succ, List.getElem_cons_zero, List.setIfInBounds_toArray, List.set_cons_zero, List.set_cons_succ])
            refine wpAnyH_done (by kernel_rfl) (NoPanic.normal ?_) _
            go_wp2_with fail
            go_meet
            exact ⟨by first | rfl | simp, (by assumption : _ ∧ Below w6.heap.size w6 _).2⟩
      case true =>
        have hfl : fly ((k + T.size : Nat) : Int) true = (k : Int) + (T.size : Int) + 1 := fly_t c3 hd49
        have y7 := fun W => NextOf_any u d ((k + T.size : Nat) : Int) f true false W
        rw [hfl] at y7
        have hsd : seqDiff (seqAdd u ((k : Int) + (T.size : Int) + 1)) u = (k : Int) + (T.size : Int) + 1 := seqDiff_add hv1 hv2 (bd_t c3 hd49).1 (bd_t c3 hd49).2
        have y8 := fun W => SeqDiff_any (seqAdd u ((k : Int) + (T.size : Int) + 1)) u W
        rw [hsd] at y8
        have hsa : seqAdd (seqAdd u k) ((T.size : Int) + 1) = seqAdd u ((k : Int) + (T.size : Int) + 1) := (seqAdd_add _ _ _).trans (congrArg (seqAdd u) (as_t _ _))
        have y9 := fun W => SeqAdd_any (seqAdd u k) ((T.size : Int) + 1) W
        rw [hsa] at y9
        have hwin : (k : Int) + (T.size : Int) + 1 ≤ win := by exact cast_t (C7.out rfl)
        rw [hcz] at y3 y4 y5 y7
        have Y1 := Lib.hid y1
        have Y2 := Lib.hid y2
        have Y3 := Lib.hid y3
        have Y4 := Lib.hid y4
        have Y5 := Lib.hid y5
        have Y6 := Lib.hid y6
        have Y7 := Lib.hid y7
        have Y8 := Lib.hid y8
        have Y9 := Lib.hid y9
        have HT := Lib.hid hT
        obtain ⟨NX, hNX⟩ : ∃ X, seqAdd u ((k : Int) + (T.size : Int) + 1) = X := ⟨_, rfl⟩
        obtain ⟨QQ, hQQ⟩ : ∃ X, seqAdd u k = X := ⟨_, rfl⟩
        rw [hNX] at Y7 Y8 Y9
        rw [hQQ] at Y1 Y2 Y3 Y4 Y6 Y9
        clear y1 y2 y3 y4 y5 y6 y7 y8 y9 hr ho hm hWW hk hfin hfl hsd hsa hNX hQQ hcz hwz hff c6 C7 c8 hT
        by_cases hms : (T.size : Int) ≤ mss
        case pos =>
          go_wp2_with fail
          refine (Y2.out _).mono ?_
          rintro e w2 ⟨rfl, hb2⟩
          have hz2 := hb2.size
          (try simp at hz2)
          have rs_2 : w2.heap[w1.heap.size]? = some (.cells #[.int .i64 u, .string d, .int .i64 (k : Int), .bool f, .bool false, .bool false] 26 (0, 0)) := (hb2.block _ (by first | (simp; done) | (simp; omega))).trans (by repeat (first | exact heap_new _ _ _ (by first | rfl | (simp; done) | (simp; omega)) | refine (Below.heap_alloc _ _ _ (by first | omega | (simp; done) | (simp; omega))).trans ?_))
          have hw2 : Below w.heap.size w w2 := (by repeat (first | with_reducible exact Below.refl _ _ | with_reducible assumption | with_reducible refine Below.drew ?_ | with_reducible refine Below.alloc ?_ (by first | exact Nat.le_refl _ | omega | (simp; done) | (simp; omega)) _ | with_reducible refine Below.setCell ?_ (by first | exact Nat.le_refl _ | omega | (simp; done) | (simp; omega)) _ | (with_reducible refine ext_trans ?_ (by with_reducible assumption))))
          have lRs_2 : w1.heap.size < w2.heap.size := by omega
          have Rs_2 := Lib.hid rs_2
          have r0_rs_2 := cell_of_row _ _ 0 _ _ _ rs_2
          have r1_rs_2 := cell_of_row _ _ 1 _ _ _ rs_2
          have r2_rs_2 := cell_of_row _ _ 2 _ _ _ rs_2
          have r3_rs_2 := cell_of_row _ _ 3 _ _ _ rs_2
          have r4_rs_2 := cell_of_row _ _ 4 _ _ _ rs_2
          have r5_rs_2 := cell_of_row _ _ 5 _ _ _ rs_2
          have f0_rs_2 := frozen_of_row _ _ 0 _ _ rs_2
          have f1_rs_2 := frozen_of_row _ _ 1 _ _ rs_2
          have f2_rs_2 := frozen_of_row _ _ 2 _ _ rs_2
          have f3_rs_2 := frozen_of_row _ _ 3 _ _ rs_2
          have f4_rs_2 := frozen_of_row _ _ 4 _ _ rs_2
          have f5_rs_2 := frozen_of_row _ _ 5 _ _ rs_2
          simp at r0_rs_2 r1_rs_2 r2_rs_2 r3_rs_2 r4_rs_2 r5_rs_2
          clear rs_2
          go_wp2_with fail
          refine (Y1.out _).mono ?_
          rintro e w3 ⟨rfl, hb3⟩
          have hz3 := hb3.size
          (try simp at hz3)
          have rs_3 := (hb3.block _ (by first | omega | (simp; done) | (simp; omega))).trans ((Below.heap_alloc _ _ _ (by first | exact lRs_2 | (simp; omega))).trans Rs_2.out)
          have rc_3 : w3.heap[w2.heap.size]? = some (.cells #[.int .i64 QQ, .string T, .bool true] 39 (0, 0)) := (hb3.block _ (by first | (simp; done) | (simp; omega))).trans (by repeat (first | exact heap_new _ _ _ (by first | rfl | (simp; done) | (simp; omega)) | refine (Below.heap_alloc _ _ _ (by first | omega | (simp; done) | (simp; omega))).trans ?_))
          have hw3 : Below w.heap.size w w3 := (by repeat (first | with_reducible exact Below.refl _ _ | with_reducible assumption | with_reducible refine Below.drew ?_ | with_reducible refine Below.alloc ?_ (by first | exact Nat.le_refl _ | omega | (simp; done) | (simp; omega)) _ | with_reducible refine Below.setCell ?_ (by first | exact Nat.le_refl _ | omega | (simp; done) | (simp; omega)) _ | (with_reducible refine ext_trans ?_ (by with_reducible assumption))))
          have lRs_3 : w1.heap.size < w3.heap.size := by omega
          have lRc_3 : w2.heap.size < w3.heap.size := by omega
          have Rs_3 := Lib.hid rs_3
          have r0_rs_3 := cell_of_row _ _ 0 _ _ _ rs_3
          have r1_rs_3 := cell_of_row _ _ 1 _ _ _ rs_3
          have r2_rs_3 := cell_of_row _ _ 2 _ _ _ rs_3
          have r3_rs_3 := cell_of_row _ _ 3 _ _ _ rs_3
          have r4_rs_3 := cell_of_row _ _ 4 _ _ _ rs_3
          have r5_rs_3 := cell_of_row _ _ 5 _ _ _ rs_3
          have f0_rs_3 := frozen_of_row _ _ 0 _ _ rs_3
          have f1_rs_3 := frozen_of_row _ _ 1 _ _ rs_3
          have f2_rs_3 := frozen_of_row _ _ 2 _ _ rs_3
          have f3_rs_3 := frozen_of_row _ _ 3 _ _ rs_3
          have f4_rs_3 := frozen_of_row _ _ 4 _ _ rs_3
          have f5_rs_3 := frozen_of_row _ _ 5 _ _ rs_3
          simp at r0_rs_3 r1_rs_3 r2_rs_3 r3_rs_3 r4_rs_3 r5_rs_3
          clear rs_3
          have Rc_3 := Lib.hid rc_3
          have r0_rc_3 := cell_of_row _ _ 0 _ _ _ rc_3
          have r1_rc_3 := cell_of_row _ _ 1 _ _ _ rc_3
          have r2_rc_3 := cell_of_row _ _ 2 _ _ _ rc_3
          have f0_rc_3 := frozen_of_row _ _ 0 _ _ rc_3
          have f1_rc_3 := frozen_of_row _ _ 1 _ _ rc_3
          have f2_rc_3 := frozen_of_row _ _ 2 _ _ rc_3
          simp at r0_rc_3 r1_rc_3 r2_rc_3
          clear rc_3
          clear r0_rs_2 f0_rs_2 r1_rs_2 f1_rs_2 r2_rs_2 f2_rs_2 r3_rs_2 f3_rs_2 r4_rs_2 f4_rs_2 r5_rs_2 f5_rs_2
          go_wp2_with fail
          refine (Y3.out _).mono ?_
          rintro e w4 ⟨rfl, hb4⟩
          have hz4 := hb4.size
          (try simp at hz4)
          have rs_4 := (hb4.block _ (by first | omega | (simp; done) | (simp; omega))).trans ((Below.heap_alloc _ _ _ (by first | exact lRs_3 | (simp; omega))).trans Rs_3.out)
          have rc_4 := (hb4.block _ (by first | omega | (simp; done) | (simp; omega))).trans ((Below.heap_alloc _ _ _ (by first | exact lRc_3 | (simp; omega))).trans Rc_3.out)
          have rd_4 : w4.heap[w3.heap.size]? = some (.cells #[.int .i64 QQ, .string T, .bool true] 39 (0, 0)) := (hb4.block _ (by first | (simp; done) | (simp; omega))).trans (by repeat (first | exact heap_new _ _ _ (by first | rfl | (simp; done) | (simp; omega)) | refine (Below.heap_alloc _ _ _ (by first | omega | (simp; done) | (simp; omega))).trans ?_))
          have hw4 : Below w.heap.size w w4 := (by repeat (first | with_reducible exact Below.refl _ _ | with_reducible assumption | with_reducible refine Below.drew ?_ | with_reducible refine Below.alloc ?_ (by first | exact Nat.le_refl _ | omega | (simp; done) | (simp; omega)) _ | with_reducible refine Below.setCell ?_ (by first | exact Nat.le_refl _ | omega | (simp; done) | (simp; omega)) _ | (with_reducible refine ext_trans ?_ (by with_reducible assumption))))
          have lRs_4 : w1.heap.size < w4.heap.size := by omega
          have lRc_4 : w2.heap.size < w4.heap.size := by omega
          have lRd_4 : w3.heap.size < w4.heap.size := by omega
          have Rs_4 := Lib.hid rs_4
          have r0_rs_4 := cell_of_row _ _ 0 _ _ _ rs_4
          have r1_rs_4 := cell_of_row _ _ 1 _ _ _ rs_4
          have r2_rs_4 := cell_of_row _ _ 2 _ _ _ rs_4
          have r3_rs_4 := cell_of_row _ _ 3 _ _ _ rs_4
          have r4_rs_4 := cell_of_row _ _ 4 _ _ _ rs_4
          have r5_rs_4 := cell_of_row _ _ 5 _ _ _ rs_4
          have f0_rs_4 := frozen_of_row _ _ 0 _ _ rs_4
          have f1_rs_4 := frozen_of_row _ _ 1 _ _ rs_4
          have f2_rs_4 := frozen_of_row _ _ 2 _ _ rs_4
          have f3_rs_4 := frozen_of_row _ _ 3 _ _ rs_4
          have f4_rs_4 := frozen_of_row _ _ 4 _ _ rs_4
          have f5_rs_4 := frozen_of_row _ _ 5 _ _ rs_4
          simp at r0_rs_4 r1_rs_4 r2_rs_4 r3_rs_4 r4_rs_4 r5_rs_4
          clear rs_4
          have Rc_4 := Lib.hid rc_4
          have r0_rc_4 := cell_of_row _ _ 0 _ _ _ rc_4
          have r1_rc_4 := cell_of_row _ _ 1 _ _ _ rc_4
          have r2_rc_4 := cell_of_row _ _ 2 _ _ _ rc_4
          have f0_rc_4 := frozen_of_row _ _ 0 _ _ rc_4
          have f1_rc_4 := frozen_of_row _ _ 1 _ _ rc_4
          have f2_rc_4 := frozen_of_row _ _ 2 _ _ rc_4
          simp at r0_rc_4 r1_rc_4 r2_rc_4
          clear rc_4
          have Rd_4 := Lib.hid rd_4
          have r0_rd_4 := cell_of_row _ _ 0 _ _ _ rd_4
          have r1_rd_4 := cell_of_row _ _ 1 _ _ _ rd_4
          have r2_rd_4 := cell_of_row _ _ 2 _ _ _ rd_4
          have f0_rd_4 := frozen_of_row _ _ 0 _ _ rd_4
          have f1_rd_4 := frozen_of_row _ _ 1 _ _ rd_4
          have f2_rd_4 := frozen_of_row _ _ 2 _ _ rd_4
          simp at r0_rd_4 r1_rd_4 r2_rd_4
          clear rd_4
          clear r0_rs_3 f0_rs_3 r1_rs_3 f1_rs_3 r2_rs_3 f2_rs_3 r3_rs_3 f3_rs_3 r4_rs_3 f4_rs_3 r5_rs_3 f5_rs_3
          clear r0_rc_3 f0_rc_3 r1_rc_3 f1_rc_3 r2_rc_3 f2_rc_3
          go_wp2_with fail
          have hb5 : Below w4.heap.size w4 (w4.alloc (.cells #[.int .i64 u, .string d, .int .i64 ((k : Int) + (T.size : Int)), .bool f, .bool true, .bool false] 26)) := (by repeat (first | with_reducible exact Below.refl _ _ | with_reducible assumption | with_reducible refine Below.drew ?_ | with_reducible refine Below.alloc ?_ (by first | exact Nat.le_refl _ | omega | (simp; done) | (simp; omega)) _ | with_reducible refine Below.setCell ?_ (by first | exact Nat.le_refl _ | omega | (simp; done) | (simp; omega)) _ | (with_reducible refine ext_trans ?_ (by with_reducible assumption))))
          have rx_5 : (w4.alloc (.cells #[.int .i64 u, .string d, .int .i64 ((k : Int) + (T.size : Int)), .bool f, .bool true, .bool false] 26)).heap[w4.heap.size]? = some (.cells #[.int .i64 u, .string d, .int .i64 ((k : Int) + (T.size : Int)), .bool f, .bool true, .bool false] 26 (0, 0)) := (by repeat (first | exact heap_new _ _ _ (by first | rfl | (simp; done) | (simp; omega)) | refine (Below.heap_alloc _ _ _ (by first | omega | (simp; done) | (simp; omega))).trans ?_))
          have lNx_5 : w4.heap.size < (w4.alloc (.cells #[.int .i64 u, .string d, .int .i64 ((k : Int) + (T.size : Int)), .bool f, .bool true, .bool false] 26)).heap.size := by simp
          generalize (w4.alloc (.cells #[.int .i64 u, .string d, .int .i64 ((k : Int) + (T.size : Int)), .bool f, .bool true, .bool false] 26)) = w5 at *
          have hz5 := hb5.size
          (try simp at hz5)
          have rs_5 := (hb5.block _ (by first | omega | (simp; done) | (simp; omega))).trans Rs_4.out
          have rc_5 := (hb5.block _ (by first | omega | (simp; done) | (simp; omega))).trans Rc_4.out
          have rd_5 := (hb5.block _ (by first | omega | (simp; done) | (simp; omega))).trans Rd_4.out
          have hw5 : Below w.heap.size w w5 := (by repeat (first | with_reducible exact Below.refl _ _ | with_reducible assumption | with_reducible refine Below.drew ?_ | with_reducible refine Below.alloc ?_ (by first | exact Nat.le_refl _ | omega | (simp; done) | (simp; omega)) _ | with_reducible refine Below.setCell ?_ (by first | exact Nat.le_refl _ | omega | (simp; done) | (simp; omega)) _ | (with_reducible refine ext_trans ?_ (by with_reducible assumption))))
          have lRs_5 : w1.heap.size < w5.heap.size := by omega
          have lRc_5 : w2.heap.size < w5.heap.size := by omega
          have lRd_5 : w3.heap.size < w5.heap.size := by omega
          have lRx_5 : w4.heap.size < w5.heap.size := by omega
          have Rs_5 := Lib.hid rs_5
          have r0_rs_5 := cell_of_row _ _ 0 _ _ _ rs_5
          have r1_rs_5 := cell_of_row _ _ 1 _ _ _ rs_5
          have r2_rs_5 := cell_of_row _ _ 2 _ _ _ rs_5
          have r3_rs_5 := cell_of_row _ _ 3 _ _ _ rs_5
          have r4_rs_5 := cell_of_row _ _ 4 _ _ _ rs_5
          have r5_rs_5 := cell_of_row _ _ 5 _ _ _ rs_5
          have f0_rs_5 := frozen_of_row _ _ 0 _ _ rs_5
          have f1_rs_5 := frozen_of_row _ _ 1 _ _ rs_5
          have f2_rs_5 := frozen_of_row _ _ 2 _ _ rs_5
          have f3_rs_5 := frozen_of_row _ _ 3 _ _ rs_5
          have f4_rs_5 := frozen_of_row _ _ 4 _ _ rs_5
          have f5_rs_5 := frozen_of_row _ _ 5 _ _ rs_5
          simp at r0_rs_5 r1_rs_5 r2_rs_5 r3_rs_5 r4_rs_5 r5_rs_5
          clear rs_5
          have Rc_5 := Lib.hid rc_5
          have r0_rc_5 := cell_of_row _ _ 0 _ _ _ rc_5
          have r1_rc_5 := cell_of_row _ _ 1 _ _ _ rc_5
          have r2_rc_5 := cell_of_row _ _ 2 _ _ _ rc_5
          have f0_rc_5 := frozen_of_row _ _ 0 _ _ rc_5
          have f1_rc_5 := frozen_of_row _ _ 1 _ _ rc_5
          have f2_rc_5 := frozen_of_row _ _ 2 _ _ rc_5
          simp at r0_rc_5 r1_rc_5 r2_rc_5
          clear rc_5
          have Rd_5 := Lib.hid rd_5
          have r0_rd_5 := cell_of_row _ _ 0 _ _ _ rd_5
          have r1_rd_5 := cell_of_row _ _ 1 _ _ _ rd_5
          have r2_rd_5 := cell_of_row _ _ 2 _ _ _ rd_5
          have f0_rd_5 := frozen_of_row _ _ 0 _ _ rd_5
          have f1_rd_5 := frozen_of_row _ _ 1 _ _ rd_5
          have f2_rd_5 := frozen_of_row _ _ 2 _ _ rd_5
          simp at r0_rd_5 r1_rd_5 r2_rd_5
          clear rd_5
          have Rx_5 := Lib.hid rx_5
          have r0_rx_5 := cell_of_row _ _ 0 _ _ _ rx_5
          have r1_rx_5 := cell_of_row _ _ 1 _ _ _ rx_5
          have r2_rx_5 := cell_of_row _ _ 2 _ _ _ rx_5
          have r3_rx_5 := cell_of_row _ _ 3 _ _ _ rx_5
          have r4_rx_5 := cell_of_row _ _ 4 _ _ _ rx_5
          have r5_rx_5 := cell_of_row _ _ 5 _ _ _ rx_5
          have f0_rx_5 := frozen_of_row _ _ 0 _ _ rx_5
          have f1_rx_5 := frozen_of_row _ _ 1 _ _ rx_5
          have f2_rx_5 := frozen_of_row _ _ 2 _ _ rx_5
          have f3_rx_5 := frozen_of_row _ _ 3 _ _ rx_5
          have f4_rx_5 := frozen_of_row _ _ 4 _ _ rx_5
          have f5_rx_5 := frozen_of_row _ _ 5 _ _ rx_5
          simp at r0_rx_5 r1_rx_5 r2_rx_5 r3_rx_5 r4_rx_5 r5_rx_5
          clear rx_5
          clear r0_rs_4 f0_rs_4 r1_rs_4 f1_rs_4 r2_rs_4 f2_rs_4 r3_rs_4 f3_rs_4 r4_rs_4 f4_rs_4 r5_rs_4 f5_rs_4
          clear r0_rc_4 f0_rc_4 r1_rc_4 f1_rc_4 r2_rc_4 f2_rc_4
          clear r0_rd_4 f0_rd_4 r1_rd_4 f1_rd_4 r2_rd_4 f2_rd_4
          go_wp2_with fail
          go_cut [63] (fun z wx => z = .bool false ∧ Below w5.heap.size w5 wx)
          case first =>
            first | go_region_held3 (fun w' => (∀ b' o, b' < (w5).heap.size → w'.cell? ⟨b', o, none⟩ = (w5).cell? ⟨b', o, none⟩) ∧ Below (w5).heap.size (w5) w') (first | with_reducible assumption | (with_reducible apply rg_keep; rotate_left; with_reducible assumption; with_reducible assumption) | with_reducible exact rg_start _ | with_reducible exact rg_alloc (KeptS.out (by with_reducible assumption)) _ | with_reducible exact rg_alloc (by with_reducible assumption) _ | with_reducible exact rg_start_alloc _ _ | ((repeat (with_reducible refine rg_set ?_ _ (by first | exact Nat.le_refl _ | omega | (simp; done) | (simp; omega)) _)); first | with_reducible exact KeptS.out (by with_reducible assumption) | with_reducible assumption | with_reducible exact rg_alloc (KeptS.out (by with_reducible assumption)) _)) (first | (go_at_call 19; ((with_reducible refine (Y5.out _).mono ?_); (rintro e wA ⟨rfl, hbA⟩; have hSA := rg_keepK (by first | with_reducible assumption | exact KeptS.out (by with_reducible assumption)) hbA))) | (go_at_call 26; ((with_reducible refine (Y4.out _).mono ?_); (rintro e wB ⟨rfl, hbB⟩; have hSB := rg_keepK (by first | with_reducible assumption | exact KeptS.out (by with_reducible assumption)) hbB))) | (go_at_call 15; ((with_reducible refine (Y6.out _).mono ?_); (rintro e wC ⟨rfl, hbC⟩; have hSC := rg_keepK (by first | with_reducible assumption | exact KeptS.out (by with_reducible assumption)) hbC)))) | fail
            all_goals (go_wp2_with fail; go_meet; exact ⟨rfl, (by assumption : _ ∧ Below w5.heap.size w5 wC).2⟩)
          case rest =>
          obtain ⟨rfl, hb6⟩ := hcut
          rename World => w6
          have hz6 := hb6.size
          (try simp at hz6)
          have rs_6 := (hb6.block _ (by first | omega | (simp; done) | (simp; omega))).trans Rs_5.out
          have rc_6 := (hb6.block _ (by first | omega | (simp; done) | (simp; omega))).trans Rc_5.out
          have rd_6 := (hb6.block _ (by first | omega | (simp; done) | (simp; omega))).trans Rd_5.out
          have rx_6 := (hb6.block _ (by first | omega | (simp; done) | (simp; omega))).trans Rx_5.out
          have hw6 : Below w.heap.size w w6 := (by repeat (first | with_reducible exact Below.refl _ _ | with_reducible assumption | with_reducible refine Below.drew ?_ | with_reducible refine Below.alloc ?_ (by first | exact Nat.le_refl _ | omega | (simp; done) | (simp; omega)) _ | with_reducible refine Below.setCell ?_ (by first | exact Nat.le_refl _ | omega | (simp; done) | (simp; omega)) _ | (with_reducible refine ext_trans ?_ (by with_reducible assumption))))
          have lRs_6 : w1.heap.size < w6.heap.size := by omega
          have lRc_6 : w2.heap.size < w6.heap.size := by omega
          have lRd_6 : w3.heap.size < w6.heap.size := by omega
          have lRx_6 : w4.heap.size < w6.heap.size := by omega
          have Rs_6 := Lib.hid rs_6
          have r0_rs_6 := cell_of_row _ _ 0 _ _ _ rs_6
          have r1_rs_6 := cell_of_row _ _ 1 _ _ _ rs_6
          have r2_rs_6 := cell_of_row _ _ 2 _ _ _ rs_6
          have r3_rs_6 := cell_of_row _ _ 3 _ _ _ rs_6
          have r4_rs_6 := cell_of_row _ _ 4 _ _ _ rs_6
          have r5_rs_6 := cell_of_row _ _ 5 _ _ _ rs_6
          have f0_rs_6 := frozen_of_row _ _ 0 _ _ rs_6
          have f1_rs_6 := frozen_of_row _ _ 1 _ _ rs_6
          have f2_rs_6 := frozen_of_row _ _ 2 _ _ rs_6
          have f3_rs_6 := frozen_of_row _ _ 3 _ _ rs_6
          have f4_rs_6 := frozen_of_row _ _ 4 _ _ rs_6
          have f5_rs_6 := frozen_of_row _ _ 5 _ _ rs_6
          simp at r0_rs_6 r1_rs_6 r2_rs_6 r3_rs_6 r4_rs_6 r5_rs_6
          clear rs_6
          have Rc_6 := Lib.hid rc_6
          have r0_rc_6 := cell_of_row _ _ 0 _ _ _ rc_6
          have r1_rc_6 := cell_of_row _ _ 1 _ _ _ rc_6
          have r2_rc_6 := cell_of_row _ _ 2 _ _ _ rc_6
          have f0_rc_6 := frozen_of_row _ _ 0 _ _ rc_6
          have f1_rc_6 := frozen_of_row _ _ 1 _ _ rc_6
          have f2_rc_6 := frozen_of_row _ _ 2 _ _ rc_6
          simp at r0_rc_6 r1_rc_6 r2_rc_6
          clear rc_6
          have Rd_6 := Lib.hid rd_6
          have r0_rd_6 := cell_of_row _ _ 0 _ _ _ rd_6
          have r1_rd_6 := cell_of_row _ _ 1 _ _ _ rd_6
          have r2_rd_6 := cell_of_row _ _ 2 _ _ _ rd_6
          have f0_rd_6 := frozen_of_row _ _ 0 _ _ rd_6
          have f1_rd_6 := frozen_of_row _ _ 1 _ _ rd_6
          have f2_rd_6 := frozen_of_row _ _ 2 _ _ rd_6
          simp at r0_rd_6 r1_rd_6 r2_rd_6
          clear rd_6
          have Rx_6 := Lib.hid rx_6
          have r0_rx_6 := cell_of_row _ _ 0 _ _ _ rx_6
          have r1_rx_6 := cell_of_row _ _ 1 _ _ _ rx_6
          have r2_rx_6 := cell_of_row _ _ 2 _ _ _ rx_6
          have r3_rx_6 := cell_of_row _ _ 3 _ _ _ rx_6
          have r4_rx_6 := cell_of_row _ _ 4 _ _ _ rx_6
          have r5_rx_6 := cell_of_row _ _ 5 _ _ _ rx_6
          have f0_rx_6 := frozen_of_row _ _ 0 _ _ rx_6
          have f1_rx_6 := frozen_of_row _ _ 1 _ _ rx_6
          have f2_rx_6 := frozen_of_row _ _ 2 _ _ rx_6
          have f3_rx_6 := frozen_of_row _ _ 3 _ _ rx_6
          have f4_rx_6 := frozen_of_row _ _ 4 _ _ rx_6
          have f5_rx_6 := frozen_of_row _ _ 5 _ _ rx_6
          simp at r0_rx_6 r1_rx_6 r2_rx_6 r3_rx_6 r4_rx_6 r5_rx_6
          clear rx_6
          clear r0_rs_5 f0_rs_5 r1_rs_5 f1_rs_5 r2_rs_5 f2_rs_5 r3_rs_5 f3_rs_5 r4_rs_5 f4_rs_5 r5_rs_5 f5_rs_5
          clear r0_rc_5 f0_rc_5 r1_rc_5 f1_rc_5 r2_rc_5 f2_rc_5
          clear r0_rd_5 f0_rd_5 r1_rd_5 f1_rd_5 r2_rd_5 f2_rd_5
          clear r0_rx_5 f0_rx_5 r1_rx_5 f1_rx_5 r2_rx_5 f2_rx_5 r3_rx_5 f3_rx_5 r4_rx_5 f4_rx_5 r5_rx_5 f5_rx_5
          have hTd := HT.out
          go_wp2_with fail
          go_cut [2] (fun z wx => z = .bool true ∧ Below w6.heap.size w6 wx)
          case rest =>
            obtain ⟨rfl, hbz⟩ := hcut
            go_wp2_with fail
            go_ret
            exact ⟨rfl, hw6.trans (hbz.mono hw6.size)⟩
          case first =>
            refine wp_region_noPanic ?_
            refine wp_region_held_drew (S := (fun w' => (∀ b' o, b' < w6.heap.size → w'.cell? ⟨b', o, none⟩ = w6.cell? ⟨b', o, none⟩) ∧ Below w6.heap.size w6 w')) (by kernel_rfl) (by first | exact rg_start _) (fun hHeld => ?_)
            refine wpAnyH_take (i := 0) (oi := _) (v := ?v0_109) rfl (by kernel_rfl) (by kernel_rfl) (by kernel_rfl) (fun _ _ _ h => h) (Or.inl ⟨by rfl, ?hy0_109⟩) (by with_reducible assumption) ?rest0_109
            case hy0_109 => ((intro w hSw; (try dsimp only at hSw); go_simp); (try with_reducible rfl))
            (try simp only [Act.put, List.getElem_toArray, List.getElem_cons_succ, List.getElem_cons_zero, List.setIfInBounds_toArray, List.set_cons_zero, List.set_cons_succ])
            refine wpAnyH_take (i := 1) (oi := _) (v := ?v1_110) rfl (by kernel_rfl) (by kernel_rfl) (by kernel_rfl) (fun _ _ _ h => h) (Or.inl ⟨by rfl, ?hy1_110⟩) (by with_reducible assumption) ?rest1_110
            case hy1_110 => ((intro w hSw; (try dsimp only at hSw); go_simp); (try with_reducible rfl))
            (try simp only [Act.put, List.getElem_toArray, List.getElem_cons_succ, List.getElem_cons_zero, List.setIfInBounds_toArray, List.set_cons_zero, List.set_cons_succ])
            refine wpAnyH_take (i := 2) (oi := _) (v := ?v2_111) rfl (by kernel_rfl) (by kernel_rfl) (by kernel_rfl) (fun _ _ _ h => h) (Or.inl ⟨by rfl, ?hy2_111⟩) (by with_reducible assumption) ?rest2_111
            case hy2_111 => ((intro w hSw; (try dsimp only at hSw); go_simp); (try with_reducible rfl))
            (try simp only [Act.put, List.getElem_toArray, List.getElem_cons_succ, List.getElem_cons_zero, List.setIfInBounds_toArray, List.set_cons_zero, List.set_cons_succ])
            refine wpAnyH_take (i := 3) (oi := _) (v := ?v3_112) rfl (by kernel_rfl) (by kernel_rfl) (by kernel_rfl) (fun _ _ _ h => h) (Or.inl ⟨by rfl, ?hy3_112⟩) (by with_reducible assumption) ?rest3_112
            case hy3_112 => ((intro w hSw; (try dsimp only at hSw); go_simp); (try with_reducible rfl))
            (try simp only [Act.put, List.getElem_toArray, List.getElem_cons_succ, List.getElem_cons_zero, List.setIfInBounds_toArray, List.set_cons_zero, List.set_cons_succ])
            refine wpAnyH_take (i := 4) (oi := _) (v := ?v4_113) rfl (by kernel_rfl) (by kernel_rfl) (by kernel_rfl) (fun _ _ _ h => h) (Or.inl ⟨by rfl, ?hy4_113⟩) (by with_reducible assumption) ?rest4_113
            case hy4_113 => ((intro w hSw; (try dsimp only at hSw); go_simp); (try with_reducible rfl))
            (try simp only [Act.put, List.getElem_toArray, List.getElem_cons_succ, List.getElem_cons_zero, List.setIfInBounds_toArray, List.set_cons_zero, List.set_cons_succ])
            refine wpAnyH_take (i := 5) (oi := _) (v := ?v5_114) rfl (by kernel_rfl) (by kernel_rfl) (by kernel_rfl) (fun _ _ _ h => h) (Or.inl ⟨by rfl, ?hy5_114⟩) (by with_reducible assumption) ?rest5_114
            case hy5_114 => ((intro w hSw; (try dsimp only at hSw); go_simp); (try with_reducible rfl))
            (try simp only [Act.put, List.getElem_toArray, List.getElem_cons_succ, List.getElem_cons_zero, List.setIfInBounds_toArray, List.set_cons_zero, List.set_cons_succ])
            refine wpAnyH_take (i := 6) (oi := _) (v := ?v6_115) rfl (by kernel_rfl) (by kernel_rfl) (by kernel_rfl) (fun _ _ _ h => h) (Or.inl ⟨by rfl, ?hy6_115⟩) (by with_reducible assumption) ?rest6_115
            case hy6_115 => ((intro w hSw; (try dsimp only at hSw); go_simp); (try with_reducible rfl))
            (try simp only [Act.put, List.getElem_toArray, List.getElem_cons_succ, List.getElem_cons_zero, List.setIfInBounds_toArray, List.set_cons_zero, List.set_cons_succ])
            refine wpAnyH_take (i := 7) (oi := _) (v := ?v7_116) rfl (by kernel_rfl) (by kernel_rfl) (by kernel_rfl) (fun _ _ _ h => h) (Or.inl ⟨by rfl, ?hy7_116⟩) (by with_reducible assumption) ?rest7_116
            case hy7_116 => ((intro w hSw; (try dsimp only at hSw); go_simp); (try with_reducible rfl))
            (try simp only [Act.put, List.getElem_toArray, List.getElem_cons_succ, List.getElem_cons_zero, List.setIfInBounds_toArray, List.set_cons_zero, List.set_cons_succ])
            refine wpAnyH_take (i := 8) (oi := _) (v := ?v8_117) rfl (by kernel_rfl) (by kernel_rfl) (by kernel_rfl) (fun _ _ _ h => h) (Or.inl ⟨by rfl, ?hy8_117⟩) (by with_reducible assumption) ?rest8_117
            case hy8_117 => ((intro w hSw; (try dsimp only at hSw); go_simp); (try with_reducible rfl))
            (try simp only [Act.put, List.getElem_toArray, List.getElem_cons_succ, List.getElem_cons_zero, List.setIfInBounds_toArray, List.set_cons_zero, List.set_cons_succ])
            refine wpAnyH_take (i := 9) (oi := _) (v := ?v9_118) rfl (by kernel_rfl) (by kernel_rfl) (by kernel_rfl) (fun _ _ _ h => h) (Or.inl ⟨by rfl, ?hy9_118⟩) (by with_reducible assumption) ?rest9_118
            case hy9_118 => ((intro w hSw; (try dsimp only at hSw); go_simp); (try with_reducible rfl))
            (try simp only [Act.put, List.getElem_toArray, List.getElem_cons_succ, List.getElem_cons_zero, List.setIfInBounds_toArray, List.set_cons_zero, List.set_cons_succ])
            refine wpAnyH_take (i := 10) (oi := _) (v := ?v10_119) rfl (by kernel_rfl) (by kernel_rfl) (by kernel_rfl) (fun _ _ _ h => h) (Or.inl ⟨by rfl, ?hy10_119⟩) (by with_reducible assumption) ?rest10_119
            case hy10_119 => ((intro w hSw; (try dsimp only at hSw); go_simp); (try with_reducible rfl))
            (try simp only [Act.put, List.getElem_toArray, List.getElem_cons_succ, List.getElem_cons_zero, List.setIfInBounds_toArray, List.set_cons_zero, List.set_cons_succ])
            refine wpAnyH_take (i := 11) (oi := _) (v := ?v11_120) rfl (by kernel_rfl) (by kernel_rfl) (by kernel_rfl) (fun _ _ _ h => h) (Or.inl ⟨by rfl, ?hy11_120⟩) (by with_reducible assumption) ?rest11_120
            case hy11_120 => ((intro w hSw; (try dsimp only at hSw); go_simp); (try with_reducible rfl))
            (try simp only [Act.put, List.getElem_toArray, List.getElem_cons_succ, List.getElem_cons_zero, List.setIfInBounds_toArray, List.set_cons_zero, List.set_cons_succ])
            refine wpAnyH_take (i := 12) (oi := _) (v := ?v12_121) rfl (by kernel_rfl) (by kernel_rfl) (by kernel_rfl) (fun _ _ _ h => h) (Or.inl ⟨by rfl, ?hy12_121⟩) (by with_reducible assumption) ?rest12_121
            case hy12_121 => ((intro w hSw; (try dsimp only at hSw); go_simp); (try with_reducible rfl))
            (try simp only [Act.put, List.getElem_toArray, List.getElem_cons_succ, List.getElem_cons_zero, List.setIfInBounds_toArray, List.set_cons_zero, List.set_cons_succ])
            refine wpAnyH_take (i := 13) (oi := _) (v := ?v13_122) rfl (by kernel_rfl) (by kernel_rfl) (by kernel_rfl) (fun _ _ _ h => h) (Or.inl ⟨by rfl, ?hy13_122⟩) (by with_reducible assumption) ?rest13_122
            case hy13_122 => ((intro w hSw; (try dsimp only at hSw); go_simp); (try with_reducible rfl))
            (try simp only [Act.put, List.getElem_toArray, List.getElem_cons_succ, List.getElem_cons_zero, List.setIfInBounds_toArray, List.set_cons_zero, List.set_cons_succ])
            refine wpAnyH_take (i := 14) (oi := _) (v := ?v14_123) rfl (by kernel_rfl) (by kernel_rfl) (by kernel_rfl) (fun _ _ _ h => h) (Or.inl ⟨by rfl, ?hy14_123⟩) (by with_reducible assumption) ?rest14_123
            case hy14_123 => ((intro w hSw; (try dsimp only at hSw); go_simp); (try with_reducible rfl))
            (try simp only [Act.put, List.getElem_toArray, List.getElem_cons_succ, List.getElem_cons_zero, List.setIfInBounds_toArray, List.set_cons_zero, List.set_cons_succ])
            refine wpAnyH_take (i := 15) (oi := _) (v := ?v15_124) rfl (by kernel_rfl) (by kernel_rfl) (by kernel_rfl) (fun _ _ _ h => h) (Or.inl ⟨by rfl, ?hy15_124⟩) (by with_reducible assumption) ?rest15_124
            case hy15_124 => ((intro w hSw; (try dsimp only at hSw); go_simp); (try with_reducible rfl))
            (try simp only [Act.put, List.getElem_toArray, List.getElem_cons_succ, List.getElem_cons_zero, List.setIfInBounds_toArray, List.set_cons_zero, List.set_cons_succ])
            refine wpAnyH_take (i := 16) (oi := _) (v := ?v16_125) rfl (by kernel_rfl) (by kernel_rfl) (by kernel_rfl) (fun _ _ _ h => h) (Or.inl ⟨by rfl, ?hy16_125⟩) (by with_reducible assumption) ?rest16_125
            case hy16_125 => ((intro w hSw; (try dsimp only at hSw); go_simp); (try with_reducible rfl))
            (try simp only [Act.put, List.getElem_toArray, List.getElem_cons_succ, List.getElem_cons_zero, List.setIfInBounds_toArray, List.set_cons_zero, List.set_cons_succ])
            refine wpAnyH_take (i := 17) (oi := _) (v := ?v17_126) rfl (by kernel_rfl) (by kernel_rfl) (by kernel_rfl) (fun _ _ _ h => h) (Or.inl ⟨by rfl, ?hy17_126⟩) (by with_reducible assumption) ?rest17_126
            case hy17_126 => ((intro w hSw; (try dsimp only at hSw); go_simp); (try with_reducible rfl))
            (try simp only [Act.put, List.getElem_toArray, List.getElem_cons_succ, List.getElem_cons_zero, List.setIfInBounds_toArray, List.set_cons_zero, List.set_cons_succ])
            refine wpAnyH_take (i := 18) (oi := _) (v := ?v18_127) rfl (by kernel_rfl) (by kernel_rfl) (by kernel_rfl) (fun _ _ _ h => h) (Or.inl ⟨by rfl, ?hy18_127⟩) (by with_reducible assumption) ?rest18_127
            case hy18_127 => ((intro w hSw; (try dsimp only at hSw); go_simp); (try with_reducible rfl))
            (try simp only [Act.put, List.getElem_toArray, List.getElem_cons_succ, List.getElem_cons_zero, List.setIfInBounds_toArray, List.set_cons_zero, List.set_cons_succ])
            refine wpAnyH_take (i := 19) (oi := _) (v := ?v19_128) rfl (by kernel_rfl) (by kernel_rfl) (by kernel_rfl) (fun _ _ _ h => h) (Or.inl ⟨by rfl, ?hy19_128⟩) (by with_reducible assumption) ?rest19_128
            case hy19_128 => ((intro w hSw; (try dsimp only at hSw); go_simp); (try with_reducible rfl))
            (try simp only [Act.put, List.getElem_toArray, List.getElem_cons_succ, List.getElem_cons_zero, List.setIfInBounds_toArray, List.set_cons_zero, List.set_cons_succ])
            refine wpAnyH_take (i := 20) (oi := _) (v := ?v20_129) rfl (by kernel_rfl) (by kernel_rfl) (by kernel_rfl) (fun _ _ _ h => h) (Or.inl ⟨by rfl, ?hy20_129⟩) (by with_reducible assumption) ?rest20_129
            case hy20_129 => ((intro w hSw; (try dsimp only at hSw); go_simp); (try with_reducible rfl))
            (try simp only [Act.put, List.getElem_toArray, List.getElem_cons_succ, List.getElem_cons_zero, List.setIfInBounds_toArray, List.set_cons_zero, List.set_cons_succ])
            refine wpAnyH_take (i := 21) (oi := _) (v := ?v21_130) rfl (by kernel_rfl) (by kernel_rfl) (by kernel_rfl) (fun _ _ _ h => h) (Or.inl ⟨by rfl, ?hy21_130⟩) (by with_reducible assumption) ?rest21_130
            case hy21_130 => ((intro w hSw; (try dsimp only at hSw); go_simp); (try with_reducible rfl))
            (try simp only [Act.put, List.getElem_toArray, List.getElem_cons_succ, List.getElem_cons_zero, List.setIfInBounds_toArray, List.set_cons_zero, List.set_cons_succ])
            refine wpAnyH_take (i := 22) (oi := _) (v := ?v22_131) rfl (by kernel_rfl) (by kernel_rfl) (by kernel_rfl) (fun _ _ _ h => h) (Or.inl ⟨by rfl, ?hy22_131⟩) (by with_reducible assumption) ?rest22_131
            case hy22_131 => ((intro w hSw; (try dsimp only at hSw); go_simp); (try with_reducible rfl))
            (try simp only [Act.put, List.getElem_toArray, List.getElem_cons_succ, List.getElem_cons_zero, List.setIfInBounds_toArray, List.set_cons_zero, List.set_cons_succ])
            refine wpAnyH_take (i := 23) (oi := _) (v := ?v23_132) rfl (by kernel_rfl) (by kernel_rfl) (by kernel_rfl) (fun _ _ _ h => h) (Or.inl ⟨by rfl, ?hy23_132⟩) (by with_reducible assumption) ?rest23_132
            case hy23_132 => ((intro w hSw; (try dsimp only at hSw); go_simp); (try with_reducible rfl))
            (try simp only [Act.put, List.getElem_toArray, List.getElem_cons_succ, List.getElem_cons_zero, List.setIfInBounds_toArray, List.set_cons_zero, List.set_cons_succ])
            refine wpAnyH_take (i := 24) (oi := _) (v := ?v24_133) rfl (by kernel_rfl) (by kernel_rfl) (by kernel_rfl) (fun _ _ _ h => h) (Or.inl ⟨by rfl, ?hy24_133⟩) (by with_reducible assumption) ?rest24_133
            case hy24_133 => ((intro w hSw; (try dsimp only at hSw); go_simp); (try with_reducible rfl))
            (try simp only [Act.put, List.getElem_toArray, List.getElem_cons_succ, List.getElem_cons_zero, List.setIfInBounds_toArray, List.set_cons_zero, List.set_cons_succ])
            refine wpAnyH_take (i := 25) (oi := _) (v := ?v25_134) rfl (by kernel_rfl) (by kernel_rfl) (by kernel_rfl) (fun _ _ _ h => h) (Or.inl ⟨by rfl, ?hy25_134⟩) (by with_reducible assumption) ?rest25_134
            case hy25_134 => ((intro w hSw; (try dsimp only at hSw); go_simp); (try with_reducible rfl))
            (try simp only [Act.put, List.getElem_toArray, List.getElem_cons_succ, List.getElem_cons_zero, List.setIfInBounds_toArray, List.set_cons_zero, List.set_cons_succ])
            refine wpAnyH_take (i := 26) (oi := _) (v := ?v26_135) rfl (by kernel_rfl) (by kernel_rfl) (by kernel_rfl) (fun _ _ _ h => h) (Or.inl ⟨by rfl, ?hy26_135⟩) (by with_reducible assumption) ?rest26_135
            case hy26_135 => ((intro w hSw; (try dsimp only at hSw); go_simp); (try with_reducible rfl))
            (try simp only [Act.put, List.getElem_toArray, List.getElem_cons_succ, List.getElem_cons_zero, List.setIfInBounds_toArray, List.set_cons_zero, List.set_cons_succ])
            refine wpAnyH_take (i := 27) (oi := _) (v := ?v27_136) rfl (by kernel_rfl) (by kernel_rfl) (by kernel_rfl) (fun _ _ _ h => h) (Or.inl ⟨by rfl, ?hy27_136⟩) (by with_reducible assumption) ?rest27_136
            case hy27_136 => ((intro w hSw; (try dsimp only at hSw); go_simp); (try with_reducible rfl))
            (try simp only [Act.put, List.getElem_toArray, List.getElem_cons_succ, List.getElem_cons_zero, List.setIfInBounds_toArray, List.set_cons_zero, List.set_cons_succ])
            refine wpAnyH_take (i := 28) (oi := _) (v := ?v28_137) rfl (by kernel_rfl) (by kernel_rfl) (by kernel_rfl) (fun _ _ _ h => h) (Or.inl ⟨by rfl, ?hy28_137⟩) (by with_reducible assumption) ?rest28_137
            case hy28_137 => ((intro w hSw; (try dsimp only at hSw); go_simp); (try with_reducible rfl))
            (try simp only [Act.put, List.getElem_toArray, List.getElem_cons_succ, List.getElem_cons_zero, List.setIfInBounds_toArray, List.set_cons_zero, List.set_cons_succ])
            refine wpAnyH_take (i := 29) (oi := _) (v := ?v29_138) rfl (by kernel_rfl) (by kernel_rfl) (by kernel_rfl) (fun _ _ _ h => h) (Or.inl ⟨by rfl, ?hy29_138⟩) (by with_reducible assumption) ?rest29_138
            case hy29_138 => ((intro w hSw; (try dsimp only at hSw); go_simp); (try with_reducible rfl))
            (try simp only [Act.put, List.getElem_toArray, List.getElem_cons_succ, List.getElem_cons_zero, List.setIfInBounds_toArray, List.set_cons_zero, List.set_cons_succ])
            refine wpAnyH_take (i := 30) (oi := _) (v := ?v30_139) rfl (by kernel_rfl) (by kernel_rfl) (by kernel_rfl) (fun _ _ _ h => h) (Or.inl ⟨by rfl, ?hy30_139⟩) (by with_reducible assumption) ?rest30_139
            case hy30_139 => ((intro w hSw; (try dsimp only at hSw); go_simp); (try with_reducible rfl))
            (try simp only [Act.put, List.getElem_toArray, List.getElem_cons_succ, List.getElem_cons_zero, List.setIfInBounds_toArray, List.set_cons_zero, List.set_cons_succ])
            refine wpAnyH_take (i := 31) (oi := _) (v := ?v31_140) rfl (by kernel_rfl) (by kernel_rfl) (by kernel_rfl) (fun _ _ _ h => h) (Or.inl ⟨by rfl, ?hy31_140⟩) (by with_reducible assumption) ?rest31_140
            case hy31_140 => ((intro w hSw; (try dsimp only at hSw); go_simp); (try with_reducible rfl))
            (try simp only [Act.put, List.getElem_toArray, List.getElem_cons_succ, List.getElem_cons_zero, List.setIfInBounds_toArray, List.set_cons_zero, List.set_cons_succ])
            refine wpAnyH_take (i := 32) (oi := _) (v := ?v32_141) rfl (by kernel_rfl) (by kernel_rfl) (by kernel_rfl) (fun _ _ _ h => h) (Or.inl ⟨by rfl, ?hy32_141⟩) (by with_reducible assumption) ?rest32_141
            case hy32_141 => ((intro w hSw; (try dsimp only at hSw); go_simp); (try with_reducible rfl))
            (try simp only [Act.put, List.getElem_toArray, List.getElem_cons_succ, List.getElem_cons_zero, List.setIfInBounds_toArray, List.set_cons_zero, List.set_cons_succ])
            refine wpAnyH_take (i := 33) (oi := _) (v := ?v33_142) rfl (by kernel_rfl) (by kernel_rfl) (by kernel_rfl) (fun _ _ _ h => h) (Or.inl ⟨by rfl, ?hy33_142⟩) (by with_reducible assumption) ?rest33_142
            case hy33_142 => ((intro w hSw; (try dsimp only at hSw); go_simp); (try with_reducible rfl))
            (try simp only [Act.put, List.getElem_toArray, List.getElem_cons_succ, List.getElem_cons_zero, List.setIfInBounds_toArray, List.set_cons_zero, List.set_cons_succ])
            refine wpAnyH_take (i := 34) (oi := _) (v := undef) rfl (by kernel_rfl) (by kernel_rfl) (by kernel_rfl) (fun _ _ _ h => h) (Or.inr ⟨by rfl, rfl⟩) (by with_reducible assumption) ?rest34_143
            (try simp only [Act.put, List.getElem_toArray, List.getElem_cons_succ, List.getElem_cons_zero, List.setIfInBounds_toArray, List.set_cons_zero, List.set_cons_succ])
            refine wpAnyH_take (i := 35) (oi := _) (v := undef) rfl (by kernel_rfl) (by kernel_rfl) (by kernel_rfl) (fun _ _ _ h => h) (Or.inr ⟨by rfl, rfl⟩) (by with_reducible assumption) ?rest35_144
            (try simp only [Act.put, List.getElem_toArray, List.getElem_cons_succ, List.getElem_cons_zero, List.setIfInBounds_toArray, List.set_cons_zero, List.set_cons_succ])
            refine wpAnyH_take (i := 36) (oi := _) (v := undef) rfl (by kernel_rfl) (by kernel_rfl) (by kernel_rfl) (fun _ _ _ h => h) (Or.inr ⟨by rfl, rfl⟩) (by with_reducible assumption) ?rest36_145
            (try simp only [Act.put, List.getElem_toArray, List.getElem_cons_succ, List.getElem_cons_zero, List.setIfInBounds_toArray, List.set_cons_zero, List.set_cons_succ])
            refine wpAnyH_take (i := 37) (oi := _) (v := ?v37_146) rfl (by kernel_rfl) (by kernel_rfl) (by kernel_rfl) (fun _ _ _ h => h) (Or.inl ⟨by rfl, ?hy37_146⟩) (by with_reducible assumption) ?rest37_146
            case hy37_146 => ((intro w hSw; (try dsimp only at hSw); go_simp); (try with_reducible rfl))
            (try simp only [Act.put, List.getElem_toArray, List.getElem_cons_succ, List.getElem_cons_zero, List.setIfInBounds_toArray, List.set_cons_zero, List.set_cons_succ])
            refine wpAnyH_take (i := 38) (oi := _) (v := ?v38_147) rfl (by kernel_rfl) (by kernel_rfl) (by kernel_rfl) (fun _ _ _ h => h) (Or.inl ⟨by rfl, ?hy38_147⟩) (by with_reducible assumption) ?rest38_147
            case hy38_147 => ((intro w hSw; (try dsimp only at hSw); go_simp); (try with_reducible rfl))
            (try simp only [Act.put, List.getElem_toArray, List.getElem_cons_succ, List.getElem_cons_zero, List.setIfInBounds_toArray, List.set_cons_zero, List.set_cons_succ])
            refine wpAnyH_take (i := 39) (oi := _) (v := ?v39_148) rfl (by kernel_rfl) (by kernel_rfl) (by kernel_rfl) (fun _ _ _ h => h) (Or.inl ⟨by rfl, ?hy39_148⟩) (by with_reducible assumption) ?rest39_148
            case hy39_148 => ((intro w hSw; (try dsimp only at hSw); go_simp); (try with_reducible rfl))
            (try simp only [Act.put, List.getElem_toArray, List.getElem_cons_succ, List.getElem_cons_zero, List.setIfInBounds_toArray, List.set_cons_zero, List.set_cons_succ])
            refine wpAnyH_take (i := 40) (oi := _) (v := ?v40_149) rfl (by kernel_rfl) (by kernel_rfl) (by kernel_rfl) (fun _ _ _ h => h) (Or.inl ⟨by rfl, ?hy40_149⟩) (by with_reducible assumption) ?rest40_149
            case hy40_149 => ((intro w hSw; (try dsimp only at hSw); go_simp); (try with_reducible rfl))
            (try simp only [Act.put, List.getElem_toArray, List.getElem_cons_succ, List.getElem_cons_zero, List.setIfInBounds_toArray, List.set_cons_zero, List.set_cons_succ])
            refine wpAnyH_take (i := 42) (oi := _) (v := ?v42_150) rfl (by kernel_rfl) (by kernel_rfl) (by kernel_rfl) (fun _ _ _ h => h) (Or.inl ⟨by rfl, ?hy42_150⟩) (by with_reducible assumption) ?rest42_150
            case hy42_150 => ((intro w hSw; (try dsimp only at hSw); go_simp); (try with_reducible rfl))
            (try simp only [Act.put, List.getElem_toArray, List.getElem_cons_succ, List.getElem_cons_zero, List.setIfInBounds_toArray, List.set_cons_zero, List.set_cons_succ])
            refine wpAnyH_take (i := 43) (oi := _) (v := ?v43_151) rfl (by kernel_rfl) (by kernel_rfl) (by kernel_rfl) (fun _ _ _ h => h) (Or.inl ⟨by rfl, ?hy43_151⟩) (by with_reducible assumption) ?rest43_151
            case hy43_151 => ((intro w hSw; (try dsimp only at hSw); go_simp); (try with_reducible rfl))
            (try simp only [Act.put, List.getElem_toArray, List.getElem_cons_succ, List.getElem_cons_zero, List.setIfInBounds_toArray, List.set_cons_zero, List.set_cons_succ])
            refine wpAnyH_take (i := 45) (oi := _) (v := ?v45_152) rfl (by kernel_rfl) (by kernel_rfl) (by kernel_rfl) (fun _ _ _ h => h) (Or.inl ⟨by rfl, ?hy45_152⟩) (by with_reducible assumption) ?rest45_152
            case hy45_152 => ((intro w hSw; (try dsimp only at hSw); go_simp); (try with_reducible rfl))
            (try simp only [Act.put, List.getElem_toArray, List.getElem_cons_succ, List.getElem_cons_zero, List.setIfInBounds_toArray, List.set_cons_zero, List.set_cons_succ])
            refine wpAnyH_ready (rs := [41]) (by kernel_rfl) (by simp) ?_
            refine AllReadyH.cons (o := _) rfl (fun K hK => ?_) AllReadyH.nil
            go_simp
            go_at_call 17; ((with_reducible refine (Y7.out _).mono ?_); (rintro e wq9 ⟨rfl, hbq9⟩; have hSq9 := rg_keepK (by with_reducible assumption) hbq9))
            go_wp2_with fail
            refine hK.out _ _ ?_ (fun hHeld => ?_)
            · (try dsimp only); (first | with_reducible assumption | (with_reducible apply rg_keep; rotate_left; with_reducible assumption; with_reducible assumption) | with_reducible exact rg_start _ | with_reducible exact rg_alloc (KeptS.out (by with_reducible assumption)) _ | with_reducible exact rg_alloc (by with_reducible assumption) _ | with_reducible exact rg_start_alloc _ _ | ((repeat (with_reducible refine rg_set ?_ _ (by first | exact Nat.le_refl _ | omega | (simp; done) | (simp; omega)) _)); first | with_reducible exact KeptS.out (by with_reducible assumption) | with_reducible assumption | with_reducible exact rg_alloc (KeptS.out (by with_reducible assumption)) _))
            clear hK K
            (try simp only [Act.put, List.getElem_toArray, List.getElem_cons_succ, List.getElem_cons_zero, List.setIfInBounds_toArray, List.set_cons_zero, List.set_cons_succ])
            refine wpAnyH_ready (rs := [44]) (by kernel_rfl) (by simp) ?_
            refine AllReadyH.cons (o := _) rfl (fun K hK => ?_) AllReadyH.nil
            go_simp
            go_at_call 37; ((with_reducible refine (Y8.out _).mono ?_); rintro e w' ⟨rfl, rfl⟩)
            go_wp2_with fail
            refine hK.out _ _ ?_ (fun hHeld => ?_)
            · (try dsimp only); (first | with_reducible assumption | (with_reducible apply rg_keep; rotate_left; with_reducible assumption; with_reducible assumption) | with_reducible exact rg_start _ | with_reducible exact rg_alloc (KeptS.out (by with_reducible assumption)) _ | with_reducible exact rg_alloc (by with_reducible assumption) _ | with_reducible exact rg_start_alloc _ _ | ((repeat (with_reducible refine rg_set ?_ _ (by first | exact Nat.le_refl _ | omega | (simp; done) | (simp; omega)) _)); first | with_reducible exact KeptS.out (by with_reducible assumption) | with_reducible assumption | with_reducible exact rg_alloc (KeptS.out (by with_reducible assumption)) _))
            clear hK K
            (try simp only [Act.put, List.getElem_toArray, List.getElem_cons_succ, List.getElem_cons_zero, List.setIfInBounds_toArray, List.set_cons_zero, List.set_cons_succ])
            refine wpAnyH_take (i := 46) (oi := _) (v := ?v46_153) rfl (by kernel_rfl) (by kernel_rfl) (by kernel_rfl) (fun _ _ _ h => h) (Or.inl ⟨by rfl, ?hy46_153⟩) (by with_reducible assumption) ?rest46_153
            case hy46_153 => ((intro w hSw; (try dsimp only at hSw); go_simp); (try with_reducible rfl))
            (try simp only [Act.put, List.getElem_toArray, List.getElem_cons_succ, List.getElem_cons_zero, List.setIfInBounds_toArray, List.set_cons_zero, List.set_cons_succ])
            refine wpAnyH_take (i := 47) (oi := _) (v := ?v47_154) rfl (by kernel_rfl) (by kernel_rfl) (by kernel_rfl) (fun _ _ _ h => h) (Or.inl ⟨by rfl, ?hy47_154⟩) (by with_reducible assumption) ?rest47_154
            case hy47_154 => ((intro w hSw; (try dsimp only at hSw); go_simp); (try with_reducible rfl))
            (try simp only [Act.put, List.getElem_toArray, List.getElem_cons_succ, List.getElem_cons_zero, List.setIfInBounds_toArray, List.set_cons_zero, List.set_cons_succ])
            refine wpAnyH_take (i := 48) (oi := _) (v := ?v48_155) rfl (by kernel_rfl) (by kernel_rfl) (by kernel_rfl) (fun _ _ _ h => h) (Or.inl ⟨by rfl, ?hy48_155⟩) (by with_reducible assumption) ?rest48_155
            case hy48_155 => ((intro w hSw; (try dsimp only at hSw); go_simp); (try with_reducible rfl))
            (try simp only [Act.put, List.getElem_toArray, List.getElem_cons_succ, List.getElem_cons_zero, List.setIfInBounds_toArray, List.set_cons_zero, List.set_cons_succ])
            refine wpAnyH_take (i := 49) (oi := _) (v := ?v49_156) rfl (by kernel_rfl) (by kernel_rfl) (by kernel_rfl) (fun _ _ _ h => h) (Or.inl ⟨by rfl, ?hy49_156⟩) (by with_reducible assumption) ?rest49_156
            case hy49_156 => ((intro w hSw; (try dsimp only at hSw); go_simp); (try with_reducible rfl))
            (try simp only [Act.put, List.getElem_toArray, List.getElem_cons_succ, List.getElem_cons_zero, List.setIfInBounds_toArray, List.set_cons_zero, List.set_cons_succ])
            refine wpAnyH_take (i := 51) (oi := _) (v := ?v51_157) rfl (by kernel_rfl) (by kernel_rfl) (by kernel_rfl) (fun _ _ _ h => h) (Or.inl ⟨by rfl, ?hy51_157⟩) (by with_reducible assumption) ?rest51_157
            case hy51_157 => ((intro w hSw; (try dsimp only at hSw); go_simp); (try with_reducible rfl))
            (try simp only [Act.put, List.getElem_toArray, List.getElem_cons_succ, List.getElem_cons_zero, List.setIfInBounds_toArray, List.set_cons_zero, List.set_cons_succ])
            refine wpAnyH_take (i := 52) (oi := _) (v := ?v52_158) rfl (by kernel_rfl) (by kernel_rfl) (by kernel_rfl) (fun _ _ _ h => h) (Or.inl ⟨by rfl, ?hy52_158⟩) (by with_reducible assumption) ?rest52_158
            case hy52_158 => ((intro w hSw; (try dsimp only at hSw); go_simp); (try with_reducible rfl))
            (try simp only [Act.put, List.getElem_toArray, List.getElem_cons_succ, List.getElem_cons_zero, List.setIfInBounds_toArray, List.set_cons_zero, List.set_cons_succ])
            refine wpAnyH_take (i := 53) (oi := _) (v := ?v53_159) rfl (by kernel_rfl) (by kernel_rfl) (by kernel_rfl) (fun _ _ _ h => h) (Or.inl ⟨by rfl, ?hy53_159⟩) (by with_reducible assumption) ?rest53_159
            case hy53_159 => ((intro w hSw; (try dsimp only at hSw); go_simp); (try with_reducible rfl))
            (try simp only [Act.put, List.getElem_toArray, List.getElem_cons_succ, List.getElem_cons_zero, List.setIfInBounds_toArray, List.set_cons_zero, List.set_cons_succ])
            refine wpAnyH_ready (rs := [50]) (by kernel_rfl) (by simp) ?_
            refine AllReadyH.cons (o := _) rfl (fun K hK => ?_) AllReadyH.nil
            go_simp
            go_at_call 17; ((with_reducible refine (Y7.out _).mono ?_); (rintro e wq11 ⟨rfl, hbq11⟩; have hSq11 := rg_keepK (by with_reducible assumption) hbq11))
            go_wp2_with fail
            refine hK.out _ _ ?_ (fun hHeld => ?_)
            · (try dsimp only); (first | with_reducible assumption | (with_reducible apply rg_keep; rotate_left; with_reducible assumption; with_reducible assumption) | with_reducible exact rg_start _ | with_reducible exact rg_alloc (KeptS.out (by with_reducible assumption)) _ | with_reducible exact rg_alloc (by with_reducible assumption) _ | with_reducible exact rg_start_alloc _ _ | ((repeat (with_reducible refine rg_set ?_ _ (by first | exact Nat.le_refl _ | omega | (simp; done) | (simp; omega)) _)); first | with_reducible exact KeptS.out (by with_reducible assumption) | with_reducible assumption | with_reducible exact rg_alloc (KeptS.out (by with_reducible assumption)) _))
            clear hK K
            (try simp only [Act.put, List.getElem_toArray, List.getElem_cons_succ, List.getElem_cons_zero, List.setIfInBounds_toArray, List.set_cons_zero, List.set_cons_succ])
            refine wpAnyH_ready (rs := [54]) (by kernel_rfl) (by simp) ?_
            refine AllReadyH.cons (o := _) rfl (fun K hK => ?_) AllReadyH.nil
            go_simp
            go_at_call 38; ((with_reducible refine (Y9.out _).mono ?_); rintro e w' ⟨rfl, rfl⟩)
            go_wp2_with fail
            refine hK.out _ _ ?_ (fun hHeld => ?_)
            · (try dsimp only); (first | with_reducible assumption | (with_reducible apply rg_keep; rotate_left; with_reducible assumption; with_reducible assumption) | with_reducible exact rg_start _ | with_reducible exact rg_alloc (KeptS.out (by with_reducible assumption)) _ | with_reducible exact rg_alloc (by with_reducible assumption) _ | with_reducible exact rg_start_alloc _ _ | ((repeat (with_reducible refine rg_set ?_ _ (by first | exact Nat.le_refl _ | omega | (simp; done) | (simp; omega)) _)); first | with_reducible exact KeptS.out (by with_reducible assumption) | with_reducible assumption | with_reducible exact rg_alloc (KeptS.out (by with_reducible assumption)) _))
            clear hK K
            (try simp only [Act.put, List.getElem_toArray, List.getElem_cons_succ, List.getElem_cons_zero, List.setIfInBounds_toArray, List.set_cons_zero, List.set_cons_succ])
            refine wpAnyH_take (i := 55) (oi := _) (v := ?v55_160) rfl (by kernel_rfl) (by kernel_rfl) (by kernel_rfl) (fun _ _ _ h => h) (Or.inl ⟨by rfl, ?hy55_160⟩) (by with_reducible assumption) ?rest55_160
            case hy55_160 => ((intro w hSw; (try dsimp only at hSw); go_simp); (try with_reducible rfl))
            (try simp only [Act.put, List.getElem_toArray, List.getElem_cons_succ, List.getElem_cons_zero, List.setIfInBounds_toArray, List.set_cons_zero, List.set_cons_succ])
            refine wpAnyH_take (i := 56) (oi := _) (v := ?v56_161) rfl (by kernel_rfl) (by kernel_rfl) (by kernel_rfl) (fun _ _ _ h => h) (Or.inl ⟨by rfl, ?hy56_161⟩) (by with_reducible assumption) ?rest56_161
            case hy56_161 => ((intro w hSw; (try dsimp only at hSw); go_simp); (try with_reducible rfl))
            (try simp only [Act.put, List.getElem_toArray, List.getElem_cons_succ, List.getElem_cons_zero, List.setIfInBounds_toArray, List.set_cons_zero, List.set_cons_succ])
            refine wpAnyH_take (i := 57) (oi := _) (v := ?v57_162) rfl (by kernel_rfl) (by kernel_rfl) (by kernel_rfl) (fun _ _ _ h => h) (Or.inl ⟨by rfl, ?hy57_162⟩) (by with_reducible assumption) ?rest57_162
            case hy57_162 => ((intro w hSw; (try dsimp only at hSw); go_simp); (try with_reducible rfl))
            (try simp only [Act.put, List.getElem_toArray, List.getElem_cons_succ, List.getElem_cons_zero, List.setIfInBounds_toArray, List.set_cons_zero, List.set_cons_succ])
            refine wpAnyH_done (by kernel_rfl) (NoPanic.normal ?_) _
            go_wp2_with fail
            go_meet
            exact ⟨by first | rfl | simp, (by assumption : _ ∧ Below w6.heap.size w6 _).2⟩
        case neg =>
          have hmsb : decide ((T.size : Int) ≤ mss) = false := decide_eq_false hms
          have hT0 : T.size = 0 := by have := C5.out; omega
          have hTe : T.toList.isEmpty = true := by rw [isEmpty_size, hT0]; rfl
          have hTe2 : T.toList = [] := by simpa using hTe
          clear hT0
          go_wp2_with fail
          refine (Y2.out _).mono ?_
          rintro e w2 ⟨rfl, hb2⟩
          have hz2 := hb2.size
          (try simp at hz2)
          have rs_2 : w2.heap[w1.heap.size]? = some (.cells #[.int .i64 u, .string d, .int .i64 (k : Int), .bool f, .bool false, .bool false] 26 (0, 0)) := (hb2.block _ (by first | (simp; done) | (simp; omega))).trans (by repeat (first | exact heap_new _ _ _ (by first | rfl | (simp; done) | (simp; omega)) | refine (Below.heap_alloc _ _ _ (by first | omega | (simp; done) | (simp; omega))).trans ?_))
          have hw2 : Below w.heap.size w w2 := (by repeat (first | with_reducible exact Below.refl _ _ | with_reducible assumption | with_reducible refine Below.drew ?_ | with_reducible refine Below.alloc ?_ (by first | exact Nat.le_refl _ | omega | (simp; done) | (simp; omega)) _ | with_reducible refine Below.setCell ?_ (by first | exact Nat.le_refl _ | omega | (simp; done) | (simp; omega)) _ | (with_reducible refine ext_trans ?_ (by with_reducible assumption))))
          have lRs_2 : w1.heap.size < w2.heap.size := by omega
          have Rs_2 := Lib.hid rs_2
          have r0_rs_2 := cell_of_row _ _ 0 _ _ _ rs_2
          have r1_rs_2 := cell_of_row _ _ 1 _ _ _ rs_2
          have r2_rs_2 := cell_of_row _ _ 2 _ _ _ rs_2
          have r3_rs_2 := cell_of_row _ _ 3 _ _ _ rs_2
          have r4_rs_2 := cell_of_row _ _ 4 _ _ _ rs_2
          have r5_rs_2 := cell_of_row _ _ 5 _ _ _ rs_2
          have f0_rs_2 := frozen_of_row _ _ 0 _ _ rs_2
          have f1_rs_2 := frozen_of_row _ _ 1 _ _ rs_2
          have f2_rs_2 := frozen_of_row _ _ 2 _ _ rs_2
          have f3_rs_2 := frozen_of_row _ _ 3 _ _ rs_2
          have f4_rs_2 := frozen_of_row _ _ 4 _ _ rs_2
          have f5_rs_2 := frozen_of_row _ _ 5 _ _ rs_2
          simp at r0_rs_2 r1_rs_2 r2_rs_2 r3_rs_2 r4_rs_2 r5_rs_2
          clear rs_2
          go_wp2_with fail
          refine (Y1.out _).mono ?_
          rintro e w3 ⟨rfl, hb3⟩
          have hz3 := hb3.size
          (try simp at hz3)
          have rs_3 := (hb3.block _ (by first | omega | (simp; done) | (simp; omega))).trans ((Below.heap_alloc _ _ _ (by first | exact lRs_2 | (simp; omega))).trans Rs_2.out)
          have rc_3 : w3.heap[w2.heap.size]? = some (.cells #[.int .i64 QQ, .string T, .bool true] 39 (0, 0)) := (hb3.block _ (by first | (simp; done) | (simp; omega))).trans (by repeat (first | exact heap_new _ _ _ (by first | rfl | (simp; done) | (simp; omega)) | refine (Below.heap_alloc _ _ _ (by first | omega | (simp; done) | (simp; omega))).trans ?_))
          have hw3 : Below w.heap.size w w3 := (by repeat (first | with_reducible exact Below.refl _ _ | with_reducible assumption | with_reducible refine Below.drew ?_ | with_reducible refine Below.alloc ?_ (by first | exact Nat.le_refl _ | omega | (simp; done) | (simp; omega)) _ | with_reducible refine Below.setCell ?_ (by first | exact Nat.le_refl _ | omega | (simp; done) | (simp; omega)) _ | (with_reducible refine ext_trans ?_ (by with_reducible assumption))))
          have lRs_3 : w1.heap.size < w3.heap.size := by omega
          have lRc_3 : w2.heap.size < w3.heap.size := by omega
          have Rs_3 := Lib.hid rs_3
          have r0_rs_3 := cell_of_row _ _ 0 _ _ _ rs_3
          have r1_rs_3 := cell_of_row _ _ 1 _ _ _ rs_3
          have r2_rs_3 := cell_of_row _ _ 2 _ _ _ rs_3
          have r3_rs_3 := cell_of_row _ _ 3 _ _ _ rs_3
          have r4_rs_3 := cell_of_row _ _ 4 _ _ _ rs_3
          have r5_rs_3 := cell_of_row _ _ 5 _ _ _ rs_3
          have f0_rs_3 := frozen_of_row _ _ 0 _ _ rs_3
          have f1_rs_3 := frozen_of_row _ _ 1 _ _ rs_3
          have f2_rs_3 := frozen_of_row _ _ 2 _ _ rs_3
          have f3_rs_3 := frozen_of_row _ _ 3 _ _ rs_3
          have f4_rs_3 := frozen_of_row _ _ 4 _ _ rs_3
          have f5_rs_3 := frozen_of_row _ _ 5 _ _ rs_3
          simp at r0_rs_3 r1_rs_3 r2_rs_3 r3_rs_3 r4_rs_3 r5_rs_3
          clear rs_3
          have Rc_3 := Lib.hid rc_3
          have r0_rc_3 := cell_of_row _ _ 0 _ _ _ rc_3
          have r1_rc_3 := cell_of_row _ _ 1 _ _ _ rc_3
          have r2_rc_3 := cell_of_row _ _ 2 _ _ _ rc_3
          have f0_rc_3 := frozen_of_row _ _ 0 _ _ rc_3
          have f1_rc_3 := frozen_of_row _ _ 1 _ _ rc_3
          have f2_rc_3 := frozen_of_row _ _ 2 _ _ rc_3
          simp at r0_rc_3 r1_rc_3 r2_rc_3
          clear rc_3
          clear r0_rs_2 f0_rs_2 r1_rs_2 f1_rs_2 r2_rs_2 f2_rs_2 r3_rs_2 f3_rs_2 r4_rs_2 f4_rs_2 r5_rs_2 f5_rs_2
          go_wp2_with fail
          refine (Y3.out _).mono ?_
          rintro e w4 ⟨rfl, hb4⟩
          have hz4 := hb4.size
          (try simp at hz4)
          have rs_4 := (hb4.block _ (by first | omega | (simp; done) | (simp; omega))).trans ((Below.heap_alloc _ _ _ (by first | exact lRs_3 | (simp; omega))).trans Rs_3.out)
          have rc_4 := (hb4.block _ (by first | omega | (simp; done) | (simp; omega))).trans ((Below.heap_alloc _ _ _ (by first | exact lRc_3 | (simp; omega))).trans Rc_3.out)
          have rd_4 : w4.heap[w3.heap.size]? = some (.cells #[.int .i64 QQ, .string T, .bool true] 39 (0, 0)) := (hb4.block _ (by first | (simp; done) | (simp; omega))).trans (by repeat (first | exact heap_new _ _ _ (by first | rfl | (simp; done) | (simp; omega)) | refine (Below.heap_alloc _ _ _ (by first | omega | (simp; done) | (simp; omega))).trans ?_))
          have hw4 : Below w.heap.size w w4 := (by repeat (first | with_reducible exact Below.refl _ _ | with_reducible assumption | with_reducible refine Below.drew ?_ | with_reducible refine Below.alloc ?_ (by first | exact Nat.le_refl _ | omega | (simp; done) | (simp; omega)) _ | with_reducible refine Below.setCell ?_ (by first | exact Nat.le_refl _ | omega | (simp; done) | (simp; omega)) _ | (with_reducible refine ext_trans ?_ (by with_reducible assumption))))
          have lRs_4 : w1.heap.size < w4.heap.size := by omega
          have lRc_4 : w2.heap.size < w4.heap.size := by omega
          have lRd_4 : w3.heap.size < w4.heap.size := by omega
          have Rs_4 := Lib.hid rs_4
          have r0_rs_4 := cell_of_row _ _ 0 _ _ _ rs_4
          have r1_rs_4 := cell_of_row _ _ 1 _ _ _ rs_4
          have r2_rs_4 := cell_of_row _ _ 2 _ _ _ rs_4
          have r3_rs_4 := cell_of_row _ _ 3 _ _ _ rs_4
          have r4_rs_4 := cell_of_row _ _ 4 _ _ _ rs_4
          have r5_rs_4 := cell_of_row _ _ 5 _ _ _ rs_4
          have f0_rs_4 := frozen_of_row _ _ 0 _ _ rs_4
          have f1_rs_4 := frozen_of_row _ _ 1 _ _ rs_4
          have f2_rs_4 := frozen_of_row _ _ 2 _ _ rs_4
          have f3_rs_4 := frozen_of_row _ _ 3 _ _ rs_4
          have f4_rs_4 := frozen_of_row _ _ 4 _ _ rs_4
          have f5_rs_4 := frozen_of_row _ _ 5 _ _ rs_4
          simp at r0_rs_4 r1_rs_4 r2_rs_4 r3_rs_4 r4_rs_4 r5_rs_4
          clear rs_4
          have Rc_4 := Lib.hid rc_4
          have r0_rc_4 := cell_of_row _ _ 0 _ _ _ rc_4
          have r1_rc_4 := cell_of_row _ _ 1 _ _ _ rc_4
          have r2_rc_4 := cell_of_row _ _ 2 _ _ _ rc_4
          have f0_rc_4 := frozen_of_row _ _ 0 _ _ rc_4
          have f1_rc_4 := frozen_of_row _ _ 1 _ _ rc_4
          have f2_rc_4 := frozen_of_row _ _ 2 _ _ rc_4
          simp at r0_rc_4 r1_rc_4 r2_rc_4
          clear rc_4
          have Rd_4 := Lib.hid rd_4
          have r0_rd_4 := cell_of_row _ _ 0 _ _ _ rd_4
          have r1_rd_4 := cell_of_row _ _ 1 _ _ _ rd_4
          have r2_rd_4 := cell_of_row _ _ 2 _ _ _ rd_4
          have f0_rd_4 := frozen_of_row _ _ 0 _ _ rd_4
          have f1_rd_4 := frozen_of_row _ _ 1 _ _ rd_4
          have f2_rd_4 := frozen_of_row _ _ 2 _ _ rd_4
          simp at r0_rd_4 r1_rd_4 r2_rd_4
          clear rd_4
          clear r0_rs_3 f0_rs_3 r1_rs_3 f1_rs_3 r2_rs_3 f2_rs_3 r3_rs_3 f3_rs_3 r4_rs_3 f4_rs_3 r5_rs_3 f5_rs_3
          clear r0_rc_3 f0_rc_3 r1_rc_3 f1_rc_3 r2_rc_3 f2_rc_3
          go_wp2_with fail
          have hb5 : Below w4.heap.size w4 (w4.alloc (.cells #[.int .i64 u, .string d, .int .i64 ((k : Int) + (T.size : Int)), .bool f, .bool true, .bool false] 26)) := (by repeat (first | with_reducible exact Below.refl _ _ | with_reducible assumption | with_reducible refine Below.drew ?_ | with_reducible refine Below.alloc ?_ (by first | exact Nat.le_refl _ | omega | (simp; done) | (simp; omega)) _ | with_reducible refine Below.setCell ?_ (by first | exact Nat.le_refl _ | omega | (simp; done) | (simp; omega)) _ | (with_reducible refine ext_trans ?_ (by with_reducible assumption))))
          have rx_5 : (w4.alloc (.cells #[.int .i64 u, .string d, .int .i64 ((k : Int) + (T.size : Int)), .bool f, .bool true, .bool false] 26)).heap[w4.heap.size]? = some (.cells #[.int .i64 u, .string d, .int .i64 ((k : Int) + (T.size : Int)), .bool f, .bool true, .bool false] 26 (0, 0)) := (by repeat (first | exact heap_new _ _ _ (by first | rfl | (simp; done) | (simp; omega)) | refine (Below.heap_alloc _ _ _ (by first | omega | (simp; done) | (simp; omega))).trans ?_))
          have lNx_5 : w4.heap.size < (w4.alloc (.cells #[.int .i64 u, .string d, .int .i64 ((k : Int) + (T.size : Int)), .bool f, .bool true, .bool false] 26)).heap.size := by simp
          generalize (w4.alloc (.cells #[.int .i64 u, .string d, .int .i64 ((k : Int) + (T.size : Int)), .bool f, .bool true, .bool false] 26)) = w5 at *
          have hz5 := hb5.size
          (try simp at hz5)
          have rs_5 := (hb5.block _ (by first | omega | (simp; done) | (simp; omega))).trans Rs_4.out
          have rc_5 := (hb5.block _ (by first | omega | (simp; done) | (simp; omega))).trans Rc_4.out
          have rd_5 := (hb5.block _ (by first | omega | (simp; done) | (simp; omega))).trans Rd_4.out
          have hw5 : Below w.heap.size w w5 := (by repeat (first | with_reducible exact Below.refl _ _ | with_reducible assumption | with_reducible refine Below.drew ?_ | with_reducible refine Below.alloc ?_ (by first | exact Nat.le_refl _ | omega | (simp; done) | (simp; omega)) _ | with_reducible refine Below.setCell ?_ (by first | exact Nat.le_refl _ | omega | (simp; done) | (simp; omega)) _ | (with_reducible refine ext_trans ?_ (by with_reducible assumption))))
          have lRs_5 : w1.heap.size < w5.heap.size := by omega
          have lRc_5 : w2.heap.size < w5.heap.size := by omega
          have lRd_5 : w3.heap.size < w5.heap.size := by omega
          have lRx_5 : w4.heap.size < w5.heap.size := by omega
          have Rs_5 := Lib.hid rs_5
          have r0_rs_5 := cell_of_row _ _ 0 _ _ _ rs_5
          have r1_rs_5 := cell_of_row _ _ 1 _ _ _ rs_5
          have r2_rs_5 := cell_of_row _ _ 2 _ _ _ rs_5
          have r3_rs_5 := cell_of_row _ _ 3 _ _ _ rs_5
          have r4_rs_5 := cell_of_row _ _ 4 _ _ _ rs_5
          have r5_rs_5 := cell_of_row _ _ 5 _ _ _ rs_5
          have f0_rs_5 := frozen_of_row _ _ 0 _ _ rs_5
          have f1_rs_5 := frozen_of_row _ _ 1 _ _ rs_5
          have f2_rs_5 := frozen_of_row _ _ 2 _ _ rs_5
          have f3_rs_5 := frozen_of_row _ _ 3 _ _ rs_5
          have f4_rs_5 := frozen_of_row _ _ 4 _ _ rs_5
          have f5_rs_5 := frozen_of_row _ _ 5 _ _ rs_5
          simp at r0_rs_5 r1_rs_5 r2_rs_5 r3_rs_5 r4_rs_5 r5_rs_5
          clear rs_5
          have Rc_5 := Lib.hid rc_5
          have r0_rc_5 := cell_of_row _ _ 0 _ _ _ rc_5
          have r1_rc_5 := cell_of_row _ _ 1 _ _ _ rc_5
          have r2_rc_5 := cell_of_row _ _ 2 _ _ _ rc_5
          have f0_rc_5 := frozen_of_row _ _ 0 _ _ rc_5
          have f1_rc_5 := frozen_of_row _ _ 1 _ _ rc_5
          have f2_rc_5 := frozen_of_row _ _ 2 _ _ rc_5
          simp at r0_rc_5 r1_rc_5 r2_rc_5
          clear rc_5
          have Rd_5 := Lib.hid rd_5
          have r0_rd_5 := cell_of_row _ _ 0 _ _ _ rd_5
          have r1_rd_5 := cell_of_row _ _ 1 _ _ _ rd_5
          have r2_rd_5 := cell_of_row _ _ 2 _ _ _ rd_5
          have f0_rd_5 := frozen_of_row _ _ 0 _ _ rd_5
          have f1_rd_5 := frozen_of_row _ _ 1 _ _ rd_5
          have f2_rd_5 := frozen_of_row _ _ 2 _ _ rd_5
          simp at r0_rd_5 r1_rd_5 r2_rd_5
          clear rd_5
          have Rx_5 := Lib.hid rx_5
          have r0_rx_5 := cell_of_row _ _ 0 _ _ _ rx_5
          have r1_rx_5 := cell_of_row _ _ 1 _ _ _ rx_5
          have r2_rx_5 := cell_of_row _ _ 2 _ _ _ rx_5
          have r3_rx_5 := cell_of_row _ _ 3 _ _ _ rx_5
          have r4_rx_5 := cell_of_row _ _ 4 _ _ _ rx_5
          have r5_rx_5 := cell_of_row _ _ 5 _ _ _ rx_5
          have f0_rx_5 := frozen_of_row _ _ 0 _ _ rx_5
          have f1_rx_5 := frozen_of_row _ _ 1 _ _ rx_5
          have f2_rx_5 := frozen_of_row _ _ 2 _ _ rx_5
          have f3_rx_5 := frozen_of_row _ _ 3 _ _ rx_5
          have f4_rx_5 := frozen_of_row _ _ 4 _ _ rx_5
          have f5_rx_5 := frozen_of_row _ _ 5 _ _ rx_5
          simp at r0_rx_5 r1_rx_5 r2_rx_5 r3_rx_5 r4_rx_5 r5_rx_5
          clear rx_5
          clear r0_rs_4 f0_rs_4 r1_rs_4 f1_rs_4 r2_rs_4 f2_rs_4 r3_rs_4 f3_rs_4 r4_rs_4 f4_rs_4 r5_rs_4 f5_rs_4
          clear r0_rc_4 f0_rc_4 r1_rc_4 f1_rc_4 r2_rc_4 f2_rc_4
          clear r0_rd_4 f0_rd_4 r1_rd_4 f1_rd_4 r2_rd_4 f2_rd_4
          go_wp2_with fail
          go_cut [63] (fun z wx => z = .bool false ∧ Below w5.heap.size w5 wx)
          case first =>
            first | go_region_held3 (fun w' => (∀ b' o, b' < (w5).heap.size → w'.cell? ⟨b', o, none⟩ = (w5).cell? ⟨b', o, none⟩) ∧ Below (w5).heap.size (w5) w') (first | with_reducible assumption | (with_reducible apply rg_keep; rotate_left; with_reducible assumption; with_reducible assumption) | with_reducible exact rg_start _ | with_reducible exact rg_alloc (KeptS.out (by with_reducible assumption)) _ | with_reducible exact rg_alloc (by with_reducible assumption) _ | with_reducible exact rg_start_alloc _ _ | ((repeat (with_reducible refine rg_set ?_ _ (by first | exact Nat.le_refl _ | omega | (simp; done) | (simp; omega)) _)); first | with_reducible exact KeptS.out (by with_reducible assumption) | with_reducible assumption | with_reducible exact rg_alloc (KeptS.out (by with_reducible assumption)) _)) (first | (go_at_call 19; ((with_reducible refine (Y5.out _).mono ?_); (rintro e wA ⟨rfl, hbA⟩; have hSA := rg_keepK (by first | with_reducible assumption | exact KeptS.out (by with_reducible assumption)) hbA))) | (go_at_call 26; ((with_reducible refine (Y4.out _).mono ?_); (rintro e wB ⟨rfl, hbB⟩; have hSB := rg_keepK (by first | with_reducible assumption | exact KeptS.out (by with_reducible assumption)) hbB))) | (go_at_call 15; ((with_reducible refine (Y6.out _).mono ?_); (rintro e wC ⟨rfl, hbC⟩; have hSC := rg_keepK (by first | with_reducible assumption | exact KeptS.out (by with_reducible assumption)) hbC)))) | fail
            all_goals (go_wp2_with fail; go_meet; exact ⟨rfl, (by assumption : _ ∧ Below w5.heap.size w5 wC).2⟩)
          case rest =>
          obtain ⟨rfl, hb6⟩ := hcut
          rename World => w6
          have hz6 := hb6.size
          (try simp at hz6)
          have rs_6 := (hb6.block _ (by first | omega | (simp; done) | (simp; omega))).trans Rs_5.out
          have rc_6 := (hb6.block _ (by first | omega | (simp; done) | (simp; omega))).trans Rc_5.out
          have rd_6 := (hb6.block _ (by first | omega | (simp; done) | (simp; omega))).trans Rd_5.out
          have rx_6 := (hb6.block _ (by first | omega | (simp; done) | (simp; omega))).trans Rx_5.out
          have hw6 : Below w.heap.size w w6 := (by repeat (first | with_reducible exact Below.refl _ _ | with_reducible assumption | with_reducible refine Below.drew ?_ | with_reducible refine Below.alloc ?_ (by first | exact Nat.le_refl _ | omega | (simp; done) | (simp; omega)) _ | with_reducible refine Below.setCell ?_ (by first | exact Nat.le_refl _ | omega | (simp; done) | (simp; omega)) _ | (with_reducible refine ext_trans ?_ (by with_reducible assumption))))
          have lRs_6 : w1.heap.size < w6.heap.size := by omega
          have lRc_6 : w2.heap.size < w6.heap.size := by omega
          have lRd_6 : w3.heap.size < w6.heap.size := by omega
          have lRx_6 : w4.heap.size < w6.heap.size := by omega
          have Rs_6 := Lib.hid rs_6
          have r0_rs_6 := cell_of_row _ _ 0 _ _ _ rs_6
          have r1_rs_6 := cell_of_row _ _ 1 _ _ _ rs_6
          have r2_rs_6 := cell_of_row _ _ 2 _ _ _ rs_6
          have r3_rs_6 := cell_of_row _ _ 3 _ _ _ rs_6
          have r4_rs_6 := cell_of_row _ _ 4 _ _ _ rs_6
          have r5_rs_6 := cell_of_row _ _ 5 _ _ _ rs_6
          have f0_rs_6 := frozen_of_row _ _ 0 _ _ rs_6
          have f1_rs_6 := frozen_of_row _ _ 1 _ _ rs_6
          have f2_rs_6 := frozen_of_row _ _ 2 _ _ rs_6
          have f3_rs_6 := frozen_of_row _ _ 3 _ _ rs_6
          have f4_rs_6 := frozen_of_row _ _ 4 _ _ rs_6
          have f5_rs_6 := frozen_of_row _ _ 5 _ _ rs_6
          simp at r0_rs_6 r1_rs_6 r2_rs_6 r3_rs_6 r4_rs_6 r5_rs_6
          clear rs_6
          have Rc_6 := Lib.hid rc_6
          have r0_rc_6 := cell_of_row _ _ 0 _ _ _ rc_6
          have r1_rc_6 := cell_of_row _ _ 1 _ _ _ rc_6
          have r2_rc_6 := cell_of_row _ _ 2 _ _ _ rc_6
          have f0_rc_6 := frozen_of_row _ _ 0 _ _ rc_6
          have f1_rc_6 := frozen_of_row _ _ 1 _ _ rc_6
          have f2_rc_6 := frozen_of_row _ _ 2 _ _ rc_6
          simp at r0_rc_6 r1_rc_6 r2_rc_6
          clear rc_6
          have Rd_6 := Lib.hid rd_6
          have r0_rd_6 := cell_of_row _ _ 0 _ _ _ rd_6
          have r1_rd_6 := cell_of_row _ _ 1 _ _ _ rd_6
          have r2_rd_6 := cell_of_row _ _ 2 _ _ _ rd_6
          have f0_rd_6 := frozen_of_row _ _ 0 _ _ rd_6
          have f1_rd_6 := frozen_of_row _ _ 1 _ _ rd_6
          have f2_rd_6 := frozen_of_row _ _ 2 _ _ rd_6
          simp at r0_rd_6 r1_rd_6 r2_rd_6
          clear rd_6
          have Rx_6 := Lib.hid rx_6
          have r0_rx_6 := cell_of_row _ _ 0 _ _ _ rx_6
          have r1_rx_6 := cell_of_row _ _ 1 _ _ _ rx_6
          have r2_rx_6 := cell_of_row _ _ 2 _ _ _ rx_6
          have r3_rx_6 := cell_of_row _ _ 3 _ _ _ rx_6
          have r4_rx_6 := cell_of_row _ _ 4 _ _ _ rx_6
          have r5_rx_6 := cell_of_row _ _ 5 _ _ _ rx_6
          have f0_rx_6 := frozen_of_row _ _ 0 _ _ rx_6
          have f1_rx_6 := frozen_of_row _ _ 1 _ _ rx_6
          have f2_rx_6 := frozen_of_row _ _ 2 _ _ rx_6
          have f3_rx_6 := frozen_of_row _ _ 3 _ _ rx_6
          have f4_rx_6 := frozen_of_row _ _ 4 _ _ rx_6
          have f5_rx_6 := frozen_of_row _ _ 5 _ _ rx_6
          simp at r0_rx_6 r1_rx_6 r2_rx_6 r3_rx_6 r4_rx_6 r5_rx_6
          clear rx_6
          clear r0_rs_5 f0_rs_5 r1_rs_5 f1_rs_5 r2_rs_5 f2_rs_5 r3_rs_5 f3_rs_5 r4_rs_5 f4_rs_5 r5_rs_5 f5_rs_5
          clear r0_rc_5 f0_rc_5 r1_rc_5 f1_rc_5 r2_rc_5 f2_rc_5
          clear r0_rd_5 f0_rd_5 r1_rd_5 f1_rd_5 r2_rd_5 f2_rd_5
          clear r0_rx_5 f0_rx_5 r1_rx_5 f1_rx_5 r2_rx_5 f2_rx_5 r3_rx_5 f3_rx_5 r4_rx_5 f4_rx_5 r5_rx_5 f5_rx_5
          have hTd := HT.out
          go_wp2_with fail
          go_cut [2] (fun z wx => z = .bool true ∧ Below w6.heap.size w6 wx)
          case rest =>
            obtain ⟨rfl, hbz⟩ := hcut
            go_wp2_with fail
            go_ret
            exact ⟨rfl, hw6.trans (hbz.mono hw6.size)⟩
          case first =>
            refine wp_region_noPanic ?_
            refine wp_region_held_drew (S := (fun w' => (∀ b' o, b' < w6.heap.size → w'.cell? ⟨b', o, none⟩ = w6.cell? ⟨b', o, none⟩) ∧ Below w6.heap.size w6 w')) (by kernel_rfl) (by first | exact rg_start _) (fun hHeld => ?_)
            refine wpAnyH_take (i := 0) (oi := _) (v := ?v0_163) rfl (by kernel_rfl) (by kernel_rfl) (by kernel_rfl) (fun _ _ _ h => h) (Or.inl ⟨by rfl, ?hy0_163⟩) (by with_reducible assumption) ?rest0_163
            case hy0_163 => ((intro w hSw; (try dsimp only at hSw); go_simp); (try with_reducible rfl))
            (try simp only [Act.put, List.getElem_toArray, List.getElem_cons_succ, List.getElem_cons_zero, List.setIfInBounds_toArray, List.set_cons_zero, List.set_cons_succ])
            refine wpAnyH_take (i := 1) (oi := _) (v := ?v1_164) rfl (by kernel_rfl) (by kernel_rfl) (by kernel_rfl) (fun _ _ _ h => h) (Or.inl ⟨by rfl, ?hy1_164⟩) (by with_reducible assumption) ?rest1_164
            case hy1_164 => ((intro w hSw; (try dsimp only at hSw); go_simp); (try with_reducible rfl))
            (try simp only [Act.put, List.getElem_toArray, List.getElem_cons_succ, List.getElem_cons_zero, List.setIfInBounds_toArray, List.set_cons_zero, List.set_cons_succ])
            refine wpAnyH_take (i := 2) (oi := _) (v := ?v2_165) rfl (by kernel_rfl) (by kernel_rfl) (by kernel_rfl) (fun _ _ _ h => h) (Or.inl ⟨by rfl, ?hy2_165⟩) (by with_reducible assumption) ?rest2_165
            case hy2_165 => ((intro w hSw; (try dsimp only at hSw); go_simp); (try with_reducible rfl))
            (try simp only [Act.put, List.getElem_toArray, List.getElem_cons_succ, List.getElem_cons_zero, List.setIfInBounds_toArray, List.set_cons_zero, List.set_cons_succ])
            refine wpAnyH_take (i := 3) (oi := _) (v := ?v3_166) rfl (by kernel_rfl) (by kernel_rfl) (by kernel_rfl) (fun _ _ _ h => h) (Or.inl ⟨by rfl, ?hy3_166⟩) (by with_reducible assumption) ?rest3_166
            case hy3_166 => ((intro w hSw; (try dsimp only at hSw); go_simp); (try with_reducible rfl))
            (try simp only [Act.put, List.getElem_toArray, List.getElem_cons_succ, List.getElem_cons_zero, List.setIfInBounds_toArray, List.set_cons_zero, List.set_cons_succ])
            refine wpAnyH_take (i := 4) (oi := _) (v := ?v4_167) rfl (by kernel_rfl) (by kernel_rfl) (by kernel_rfl) (fun _ _ _ h => h) (Or.inl ⟨by rfl, ?hy4_167⟩) (by with_reducible assumption) ?rest4_167
            case hy4_167 => ((intro w hSw; (try dsimp only at hSw); go_simp); (try with_reducible rfl))
            (try simp only [Act.put, List.getElem_toArray, List.getElem_cons_succ, List.getElem_cons_zero, List.setIfInBounds_toArray, List.set_cons_zero, List.set_cons_succ])
            refine wpAnyH_take (i := 5) (oi := _) (v := ?v5_168) rfl (by kernel_rfl) (by kernel_rfl) (by kernel_rfl) (fun _ _ _ h => h) (Or.inl ⟨by rfl, ?hy5_168⟩) (by with_reducible assumption) ?rest5_168
            case hy5_168 => ((intro w hSw; (try dsimp only at hSw); go_simp); (try with_reducible rfl))
            (try simp only [Act.put, List.getElem_toArray, List.getElem_cons_succ, List.getElem_cons_zero, List.setIfInBounds_toArray, List.set_cons_zero, List.set_cons_succ])
            refine wpAnyH_take (i := 6) (oi := _) (v := ?v6_169) rfl (by kernel_rfl) (by kernel_rfl) (by kernel_rfl) (fun _ _ _ h => h) (Or.inl ⟨by rfl, ?hy6_169⟩) (by with_reducible assumption) ?rest6_169
            case hy6_169 => ((intro w hSw; (try dsimp only at hSw); go_simp); (try with_reducible rfl))
            (try simp only [Act.put, List.getElem_toArray, List.getElem_cons_succ, List.getElem_cons_zero, List.setIfInBounds_toArray, List.set_cons_zero, List.set_cons_succ])
            refine wpAnyH_take (i := 7) (oi := _) (v := ?v7_170) rfl (by kernel_rfl) (by kernel_rfl) (by kernel_rfl) (fun _ _ _ h => h) (Or.inl ⟨by rfl, ?hy7_170⟩) (by with_reducible assumption) ?rest7_170
            case hy7_170 => ((intro w hSw; (try dsimp only at hSw); go_simp); (try with_reducible rfl))
            (try simp only [Act.put, List.getElem_toArray, List.getElem_cons_succ, List.getElem_cons_zero, List.setIfInBounds_toArray, List.set_cons_zero, List.set_cons_succ])
            refine wpAnyH_take (i := 8) (oi := _) (v := ?v8_171) rfl (by kernel_rfl) (by kernel_rfl) (by kernel_rfl) (fun _ _ _ h => h) (Or.inl ⟨by rfl, ?hy8_171⟩) (by with_reducible assumption) ?rest8_171
            case hy8_171 => ((intro w hSw; (try dsimp only at hSw); go_simp); (try with_reducible rfl))
            (try simp only [Act.put, List.getElem_toArray, List.getElem_cons_succ, List.getElem_cons_zero, List.setIfInBounds_toArray, List.set_cons_zero, List.set_cons_succ])
            refine wpAnyH_take (i := 9) (oi := _) (v := ?v9_172) rfl (by kernel_rfl) (by kernel_rfl) (by kernel_rfl) (fun _ _ _ h => h) (Or.inl ⟨by rfl, ?hy9_172⟩) (by with_reducible assumption) ?rest9_172
            case hy9_172 => ((intro w hSw; (try dsimp only at hSw); go_simp); (try with_reducible rfl))
            (try simp only [Act.put, List.getElem_toArray, List.getElem_cons_succ, List.getElem_cons_zero, List.setIfInBounds_toArray, List.set_cons_zero, List.set_cons_succ])
            refine wpAnyH_take (i := 10) (oi := _) (v := ?v10_173) rfl (by kernel_rfl) (by kernel_rfl) (by kernel_rfl) (fun _ _ _ h => h) (Or.inl ⟨by rfl, ?hy10_173⟩) (by with_reducible assumption) ?rest10_173
            case hy10_173 => ((intro w hSw; (try dsimp only at hSw); go_simp); (try with_reducible rfl))
            (try simp only [Act.put, List.getElem_toArray, List.getElem_cons_succ, List.getElem_cons_zero, List.setIfInBounds_toArray, List.set_cons_zero, List.set_cons_succ])
            refine wpAnyH_take (i := 11) (oi := _) (v := ?v11_174) rfl (by kernel_rfl) (by kernel_rfl) (by kernel_rfl) (fun _ _ _ h => h) (Or.inl ⟨by rfl, ?hy11_174⟩) (by with_reducible assumption) ?rest11_174
            case hy11_174 => ((intro w hSw; (try dsimp only at hSw); go_simp); (try with_reducible rfl))
            (try simp only [Act.put, List.getElem_toArray, List.getElem_cons_succ, List.getElem_cons_zero, List.setIfInBounds_toArray, List.set_cons_zero, List.set_cons_succ])
            refine wpAnyH_take (i := 12) (oi := _) (v := ?v12_175) rfl (by kernel_rfl) (by kernel_rfl) (by kernel_rfl) (fun _ _ _ h => h) (Or.inl ⟨by rfl, ?hy12_175⟩) (by with_reducible assumption) ?rest12_175
            case hy12_175 => ((intro w hSw; (try dsimp only at hSw); go_simp); (try with_reducible rfl))
            (try simp only [Act.put, List.getElem_toArray, List.getElem_cons_succ, List.getElem_cons_zero, List.setIfInBounds_toArray, List.set_cons_zero, List.set_cons_succ])
            refine wpAnyH_take (i := 13) (oi := _) (v := ?v13_176) rfl (by kernel_rfl) (by kernel_rfl) (by kernel_rfl) (fun _ _ _ h => h) (Or.inl ⟨by rfl, ?hy13_176⟩) (by with_reducible assumption) ?rest13_176
            case hy13_176 => ((intro w hSw; (try dsimp only at hSw); go_simp); (try with_reducible rfl))
            (try simp only [Act.put, List.getElem_toArray, List.getElem_cons_succ, List.getElem_cons_zero, List.setIfInBounds_toArray, List.set_cons_zero, List.set_cons_succ])
            refine wpAnyH_take (i := 14) (oi := _) (v := ?v14_177) rfl (by kernel_rfl) (by kernel_rfl) (by kernel_rfl) (fun _ _ _ h => h) (Or.inl ⟨by rfl, ?hy14_177⟩) (by with_reducible assumption) ?rest14_177
            case hy14_177 => ((intro w hSw; (try dsimp only at hSw); go_simp); (try with_reducible rfl))
            (try simp only [Act.put, List.getElem_toArray, List.getElem_cons_succ, List.getElem_cons_zero, List.setIfInBounds_toArray, List.set_cons_zero, List.set_cons_succ])
            refine wpAnyH_take (i := 15) (oi := _) (v := ?v15_178) rfl (by kernel_rfl) (by kernel_rfl) (by kernel_rfl) (fun _ _ _ h => h) (Or.inl ⟨by rfl, ?hy15_178⟩) (by with_reducible assumption) ?rest15_178
            case hy15_178 => ((intro w hSw; (try dsimp only at hSw); go_simp); (try with_reducible rfl))
            (try simp only [Act.put, List.getElem_toArray, List.getElem_cons_succ, List.getElem_cons_zero, List.setIfInBounds_toArray, List.set_cons_zero, List.set_cons_succ])
            refine wpAnyH_take (i := 16) (oi := _) (v := ?v16_179) rfl (by kernel_rfl) (by kernel_rfl) (by kernel_rfl) (fun _ _ _ h => h) (Or.inl ⟨by rfl, ?hy16_179⟩) (by with_reducible assumption) ?rest16_179
            case hy16_179 => ((intro w hSw; (try dsimp only at hSw); go_simp); (try with_reducible rfl))
            (try simp only [Act.put, List.getElem_toArray, List.getElem_cons_succ, List.getElem_cons_zero, List.setIfInBounds_toArray, List.set_cons_zero, List.set_cons_succ])
            refine wpAnyH_take (i := 17) (oi := _) (v := ?v17_180) rfl (by kernel_rfl) (by kernel_rfl) (by kernel_rfl) (fun _ _ _ h => h) (Or.inl ⟨by rfl, ?hy17_180⟩) (by with_reducible assumption) ?rest17_180
            case hy17_180 => ((intro w hSw; (try dsimp only at hSw); go_simp); (try with_reducible rfl))
            (try simp only [Act.put, List.getElem_toArray, List.getElem_cons_succ, List.getElem_cons_zero, List.setIfInBounds_toArray, List.set_cons_zero, List.set_cons_succ])
            refine wpAnyH_take (i := 18) (oi := _) (v := ?v18_181) rfl (by kernel_rfl) (by kernel_rfl) (by kernel_rfl) (fun _ _ _ h => h) (Or.inl ⟨by rfl, ?hy18_181⟩) (by with_reducible assumption) ?rest18_181
            case hy18_181 => ((intro w hSw; (try dsimp only at hSw); go_simp); (try with_reducible rfl))
            (try simp only [Act.put, List.getElem_toArray, List.getElem_cons_succ, List.getElem_cons_zero, List.setIfInBounds_toArray, List.set_cons_zero, List.set_cons_succ])
            refine wpAnyH_take (i := 19) (oi := _) (v := ?v19_182) rfl (by kernel_rfl) (by kernel_rfl) (by kernel_rfl) (fun _ _ _ h => h) (Or.inl ⟨by rfl, ?hy19_182⟩) (by with_reducible assumption) ?rest19_182
            case hy19_182 => ((intro w hSw; (try dsimp only at hSw); go_simp); (try with_reducible rfl))
            (try simp only [Act.put, List.getElem_toArray, List.getElem_cons_succ, List.getElem_cons_zero, List.setIfInBounds_toArray, List.set_cons_zero, List.set_cons_succ])
            refine wpAnyH_take (i := 20) (oi := _) (v := ?v20_183) rfl (by kernel_rfl) (by kernel_rfl) (by kernel_rfl) (fun _ _ _ h => h) (Or.inl ⟨by rfl, ?hy20_183⟩) (by with_reducible assumption) ?rest20_183
            case hy20_183 => ((intro w hSw; (try dsimp only at hSw); go_simp); (try with_reducible rfl))
            (try simp only [Act.put, List.getElem_toArray, List.getElem_cons_succ, List.getElem_cons_zero, List.setIfInBounds_toArray, List.set_cons_zero, List.set_cons_succ])
            refine wpAnyH_take (i := 21) (oi := _) (v := ?v21_184) rfl (by kernel_rfl) (by kernel_rfl) (by kernel_rfl) (fun _ _ _ h => h) (Or.inl ⟨by rfl, ?hy21_184⟩) (by with_reducible assumption) ?rest21_184
            case hy21_184 => ((intro w hSw; (try dsimp only at hSw); go_simp); (try with_reducible rfl))
            (try simp only [Act.put, List.getElem_toArray, List.getElem_cons_succ, List.getElem_cons_zero, List.setIfInBounds_toArray, List.set_cons_zero, List.set_cons_succ])
            refine wpAnyH_take (i := 22) (oi := _) (v := ?v22_185) rfl (by kernel_rfl) (by kernel_rfl) (by kernel_rfl) (fun _ _ _ h => h) (Or.inl ⟨by rfl, ?hy22_185⟩) (by with_reducible assumption) ?rest22_185
            case hy22_185 => ((intro w hSw; (try dsimp only at hSw); go_simp); (try with_reducible rfl))
            (try simp only [Act.put, List.getElem_toArray, List.getElem_cons_succ, List.getElem_cons_zero, List.setIfInBounds_toArray, List.set_cons_zero, List.set_cons_succ])
            refine wpAnyH_take (i := 23) (oi := _) (v := ?v23_186) rfl (by kernel_rfl) (by kernel_rfl) (by kernel_rfl) (fun _ _ _ h => h) (Or.inl ⟨by rfl, ?hy23_186⟩) (by with_reducible assumption) ?rest23_186
            case hy23_186 => ((intro w hSw; (try dsimp only at hSw); go_simp); (try with_reducible rfl))
            (try simp only [Act.put, List.getElem_toArray, List.getElem_cons_succ, List.getElem_cons_zero, List.setIfInBounds_toArray, List.set_cons_zero, List.set_cons_succ])
            refine wpAnyH_take (i := 24) (oi := _) (v := ?v24_187) rfl (by kernel_rfl) (by kernel_rfl) (by kernel_rfl) (fun _ _ _ h => h) (Or.inl ⟨by rfl, ?hy24_187⟩) (by with_reducible assumption) ?rest24_187
            case hy24_187 => ((intro w hSw; (try dsimp only at hSw); go_simp); (try with_reducible rfl))
            (try simp only [Act.put, List.getElem_toArray, List.getElem_cons_succ, List.getElem_cons_zero, List.setIfInBounds_toArray, List.set_cons_zero, List.set_cons_succ])
            refine wpAnyH_take (i := 25) (oi := _) (v := ?v25_188) rfl (by kernel_rfl) (by kernel_rfl) (by kernel_rfl) (fun _ _ _ h => h) (Or.inl ⟨by rfl, ?hy25_188⟩) (by with_reducible assumption) ?rest25_188
            case hy25_188 => ((intro w hSw; (try dsimp only at hSw); go_simp); (try with_reducible rfl))
            (try simp only [Act.put, List.getElem_toArray, List.getElem_cons_succ, List.getElem_cons_zero, List.setIfInBounds_toArray, List.set_cons_zero, List.set_cons_succ])
            refine wpAnyH_take (i := 26) (oi := _) (v := ?v26_189) rfl (by kernel_rfl) (by kernel_rfl) (by kernel_rfl) (fun _ _ _ h => h) (Or.inl ⟨by rfl, ?hy26_189⟩) (by with_reducible assumption) ?rest26_189
            case hy26_189 => ((intro w hSw; (try dsimp only at hSw); go_simp); (try with_reducible rfl))
            (try simp only [Act.put, List.getElem_toArray, List.getElem_cons_succ, List.getElem_cons_zero, List.setIfInBounds_toArray, List.set_cons_zero, List.set_cons_succ])
            refine wpAnyH_take (i := 27) (oi := _) (v := ?v27_190) rfl (by kernel_rfl) (by kernel_rfl) (by kernel_rfl) (fun _ _ _ h => h) (Or.inl ⟨by rfl, ?hy27_190⟩) (by with_reducible assumption) ?rest27_190
            case hy27_190 => ((intro w hSw; (try dsimp only at hSw); go_simp); (try with_reducible rfl))
            (try simp only [Act.put, List.getElem_toArray, List.getElem_cons_succ, List.getElem_cons_zero, List.setIfInBounds_toArray, List.set_cons_zero, List.set_cons_succ])
            refine wpAnyH_take (i := 28) (oi := _) (v := ?v28_191) rfl (by kernel_rfl) (by kernel_rfl) (by kernel_rfl) (fun _ _ _ h => h) (Or.inl ⟨by rfl, ?hy28_191⟩) (by with_reducible assumption) ?rest28_191
            case hy28_191 => ((intro w hSw; (try dsimp only at hSw); go_simp); (try with_reducible rfl))
            (try simp only [Act.put, List.getElem_toArray, List.getElem_cons_succ, List.getElem_cons_zero, List.setIfInBounds_toArray, List.set_cons_zero, List.set_cons_succ])
            refine wpAnyH_take (i := 29) (oi := _) (v := ?v29_192) rfl (by kernel_rfl) (by kernel_rfl) (by kernel_rfl) (fun _ _ _ h => h) (Or.inl ⟨by rfl, ?hy29_192⟩) (by with_reducible assumption) ?rest29_192
            case hy29_192 => ((intro w hSw; (try dsimp only at hSw); go_simp); (try with_reducible rfl))
            (try simp only [Act.put, List.getElem_toArray, List.getElem_cons_succ, List.getElem_cons_zero, List.setIfInBounds_toArray, List.set_cons_zero, List.set_cons_succ])
            refine wpAnyH_take (i := 30) (oi := _) (v := ?v30_193) rfl (by kernel_rfl) (by kernel_rfl) (by kernel_rfl) (fun _ _ _ h => h) (Or.inl ⟨by rfl, ?hy30_193⟩) (by with_reducible assumption) ?rest30_193
            case hy30_193 => ((intro w hSw; (try dsimp only at hSw); go_simp); (try with_reducible rfl))
            (try simp only [Act.put, List.getElem_toArray, List.getElem_cons_succ, List.getElem_cons_zero, List.setIfInBounds_toArray, List.set_cons_zero, List.set_cons_succ])
            refine wpAnyH_take (i := 31) (oi := _) (v := ?v31_194) rfl (by kernel_rfl) (by kernel_rfl) (by kernel_rfl) (fun _ _ _ h => h) (Or.inl ⟨by rfl, ?hy31_194⟩) (by with_reducible assumption) ?rest31_194
            case hy31_194 => ((intro w hSw; (try dsimp only at hSw); go_simp); (try with_reducible rfl))
            (try simp only [Act.put, List.getElem_toArray, List.getElem_cons_succ, List.getElem_cons_zero, List.setIfInBounds_toArray, List.set_cons_zero, List.set_cons_succ])
            refine wpAnyH_take (i := 32) (oi := _) (v := ?v32_195) rfl (by kernel_rfl) (by kernel_rfl) (by kernel_rfl) (fun _ _ _ h => h) (Or.inl ⟨by rfl, ?hy32_195⟩) (by with_reducible assumption) ?rest32_195
            case hy32_195 => ((intro w hSw; (try dsimp only at hSw); go_simp); (try with_reducible rfl))
            (try simp only [Act.put, List.getElem_toArray, List.getElem_cons_succ, List.getElem_cons_zero, List.setIfInBounds_toArray, List.set_cons_zero, List.set_cons_succ])
            refine wpAnyH_take (i := 33) (oi := _) (v := ?v33_196) rfl (by kernel_rfl) (by kernel_rfl) (by kernel_rfl) (fun _ _ _ h => h) (Or.inl ⟨by rfl, ?hy33_196⟩) (by with_reducible assumption) ?rest33_196
            case hy33_196 => ((intro w hSw; (try dsimp only at hSw); go_simp); (try with_reducible rfl))
            (try simp only [Act.put, List.getElem_toArray, List.getElem_cons_succ, List.getElem_cons_zero, List.setIfInBounds_toArray, List.set_cons_zero, List.set_cons_succ])
            refine wpAnyH_take (i := 34) (oi := _) (v := ?v34_197) rfl (by kernel_rfl) (by kernel_rfl) (by kernel_rfl) (fun _ _ _ h => h) (Or.inl ⟨by rfl, ?hy34_197⟩) (by with_reducible assumption) ?rest34_197
            case hy34_197 => ((intro w hSw; (try dsimp only at hSw); go_simp); (try with_reducible rfl))
            (try simp only [Act.put, List.getElem_toArray, List.getElem_cons_succ, List.getElem_cons_zero, List.setIfInBounds_toArray, List.set_cons_zero, List.set_cons_succ])
            refine wpAnyH_take (i := 35) (oi := _) (v := ?v35_198) rfl (by kernel_rfl) (by kernel_rfl) (by kernel_rfl) (fun _ _ _ h => h) (Or.inl ⟨by rfl, ?hy35_198⟩) (by with_reducible assumption) ?rest35_198
            case hy35_198 => ((intro w hSw; (try dsimp only at hSw); go_simp); (try with_reducible rfl))
            (try simp only [Act.put, List.getElem_toArray, List.getElem_cons_succ, List.getElem_cons_zero, List.setIfInBounds_toArray, List.set_cons_zero, List.set_cons_succ])
            refine wpAnyH_take (i := 36) (oi := _) (v := ?v36_199) rfl (by kernel_rfl) (by kernel_rfl) (by kernel_rfl) (fun _ _ _ h => h) (Or.inl ⟨by rfl, ?hy36_199⟩) (by with_reducible assumption) ?rest36_199
            case hy36_199 => ((intro w hSw; (try dsimp only at hSw); go_simp); (try with_reducible rfl))
            (try simp only [Act.put, List.getElem_toArray, List.getElem_cons_succ, List.getElem_cons_zero, List.setIfInBounds_toArray, List.set_cons_zero, List.set_cons_succ])
            refine wpAnyH_take (i := 37) (oi := _) (v := ?v37_200) rfl (by kernel_rfl) (by kernel_rfl) (by kernel_rfl) (fun _ _ _ h => h) (Or.inl ⟨by rfl, ?hy37_200⟩) (by with_reducible assumption) ?rest37_200
            case hy37_200 => ((intro w hSw; (try dsimp only at hSw); go_simp); (try with_reducible rfl))
            (try simp only [Act.put, List.getElem_toArray, List.getElem_cons_succ, List.getElem_cons_zero, List.setIfInBounds_toArray, List.set_cons_zero, List.set_cons_succ])
            refine wpAnyH_take (i := 38) (oi := _) (v := ?v38_201) rfl (by kernel_rfl) (by kernel_rfl) (by kernel_rfl) (fun _ _ _ h => h) (Or.inl ⟨by rfl, ?hy38_201⟩) (by with_reducible assumption) ?rest38_201
            case hy38_201 => ((intro w hSw; (try dsimp only at hSw); go_simp); (try with_reducible rfl))
            (try simp only [Act.put, List.getElem_toArray, List.getElem_cons_succ, List.getElem_cons_zero, List.setIfInBounds_toArray, List.set_cons_zero, List.set_cons_succ])
            refine wpAnyH_take (i := 39) (oi := _) (v := ?v39_202) rfl (by kernel_rfl) (by kernel_rfl) (by kernel_rfl) (fun _ _ _ h => h) (Or.inl ⟨by rfl, ?hy39_202⟩) (by with_reducible assumption) ?rest39_202
            case hy39_202 => ((intro w hSw; (try dsimp only at hSw); go_simp); (try with_reducible rfl))
            (try simp only [Act.put, List.getElem_toArray, List.getElem_cons_succ, List.getElem_cons_zero, List.setIfInBounds_toArray, List.set_cons_zero, List.set_cons_succ])
            refine wpAnyH_take (i := 40) (oi := _) (v := ?v40_203) rfl (by kernel_rfl) (by kernel_rfl) (by kernel_rfl) (fun _ _ _ h => h) (Or.inl ⟨by rfl, ?hy40_203⟩) (by with_reducible assumption) ?rest40_203
            case hy40_203 => ((intro w hSw; (try dsimp only at hSw); go_simp); (try with_reducible rfl))
            (try simp only [Act.put, List.getElem_toArray, List.getElem_cons_succ, List.getElem_cons_zero, List.setIfInBounds_toArray, List.set_cons_zero, List.set_cons_succ])
            refine wpAnyH_take (i := 42) (oi := _) (v := ?v42_204) rfl (by kernel_rfl) (by kernel_rfl) (by kernel_rfl) (fun _ _ _ h => h) (Or.inl ⟨by rfl, ?hy42_204⟩) (by with_reducible assumption) ?rest42_204
            case hy42_204 => ((intro w hSw; (try dsimp only at hSw); go_simp); (try with_reducible rfl))
            (try simp only [Act.put, List.getElem_toArray, List.getElem_cons_succ, List.getElem_cons_zero, List.setIfInBounds_toArray, List.set_cons_zero, List.set_cons_succ])
            refine wpAnyH_take (i := 43) (oi := _) (v := ?v43_205) rfl (by kernel_rfl) (by kernel_rfl) (by kernel_rfl) (fun _ _ _ h => h) (Or.inl ⟨by rfl, ?hy43_205⟩) (by with_reducible assumption) ?rest43_205
            case hy43_205 => ((intro w hSw; (try dsimp only at hSw); go_simp); (try with_reducible rfl))
            (try simp only [Act.put, List.getElem_toArray, List.getElem_cons_succ, List.getElem_cons_zero, List.setIfInBounds_toArray, List.set_cons_zero, List.set_cons_succ])
            refine wpAnyH_take (i := 45) (oi := _) (v := ?v45_206) rfl (by kernel_rfl) (by kernel_rfl) (by kernel_rfl) (fun _ _ _ h => h) (Or.inl ⟨by rfl, ?hy45_206⟩) (by with_reducible assumption) ?rest45_206
            case hy45_206 => ((intro w hSw; (try dsimp only at hSw); go_simp); (try with_reducible rfl))
            (try simp only [Act.put, List.getElem_toArray, List.getElem_cons_succ, List.getElem_cons_zero, List.setIfInBounds_toArray, List.set_cons_zero, List.set_cons_succ])
            refine wpAnyH_ready (rs := [41]) (by kernel_rfl) (by simp) ?_
            refine AllReadyH.cons (o := _) rfl (fun K hK => ?_) AllReadyH.nil
            go_simp
            go_at_call 17; ((with_reducible refine (Y7.out _).mono ?_); (rintro e wq13 ⟨rfl, hbq13⟩; have hSq13 := rg_keepK (by with_reducible assumption) hbq13))
            go_wp2_with fail
            refine hK.out _ _ ?_ (fun hHeld => ?_)
            · (try dsimp only); (first | with_reducible assumption | (with_reducible apply rg_keep; rotate_left; with_reducible assumption; with_reducible assumption) | with_reducible exact rg_start _ | with_reducible exact rg_alloc (KeptS.out (by with_reducible assumption)) _ | with_reducible exact rg_alloc (by with_reducible assumption) _ | with_reducible exact rg_start_alloc _ _ | ((repeat (with_reducible refine rg_set ?_ _ (by first | exact Nat.le_refl _ | omega | (simp; done) | (simp; omega)) _)); first | with_reducible exact KeptS.out (by with_reducible assumption) | with_reducible assumption | with_reducible exact rg_alloc (KeptS.out (by with_reducible assumption)) _))
            clear hK K
            (try simp only [Act.put, List.getElem_toArray, List.getElem_cons_succ, List.getElem_cons_zero, List.setIfInBounds_toArray, List.set_cons_zero, List.set_cons_succ])
            refine wpAnyH_ready (rs := [44]) (by kernel_rfl) (by simp) ?_
            refine AllReadyH.cons (o := _) rfl (fun K hK => ?_) AllReadyH.nil
            go_simp
            go_at_call 37; ((with_reducible refine (Y8.out _).mono ?_); rintro e w' ⟨rfl, rfl⟩)
            go_wp2_with fail
            refine hK.out _ _ ?_ (fun hHeld => ?_)
            · (try dsimp only); (first | with_reducible assumption | (with_reducible apply rg_keep; rotate_left; with_reducible assumption; with_reducible assumption) | with_reducible exact rg_start _ | with_reducible exact rg_alloc (KeptS.out (by with_reducible assumption)) _ | with_reducible exact rg_alloc (by with_reducible assumption) _ | with_reducible exact rg_start_alloc _ _ | ((repeat (with_reducible refine rg_set ?_ _ (by first | exact Nat.le_refl _ | omega | (simp; done) | (simp; omega)) _)); first | with_reducible exact KeptS.out (by with_reducible assumption) | with_reducible assumption | with_reducible exact rg_alloc (KeptS.out (by with_reducible assumption)) _))
            clear hK K
            (try simp only [Act.put, List.getElem_toArray, List.getElem_cons_succ, List.getElem_cons_zero, List.setIfInBounds_toArray, List.set_cons_zero, List.set_cons_succ])
            refine wpAnyH_take (i := 46) (oi := _) (v := ?v46_207) rfl (by kernel_rfl) (by kernel_rfl) (by kernel_rfl) (fun _ _ _ h => h) (Or.inl ⟨by rfl, ?hy46_207⟩) (by with_reducible assumption) ?rest46_207
            case hy46_207 => ((intro w hSw; (try dsimp only at hSw); go_simp); (try with_reducible rfl))
            (try simp only [Act.put, List.getElem_toArray, List.getElem_cons_succ, List.getElem_cons_zero, List.setIfInBounds_toArray, List.set_cons_zero, List.set_cons_succ])
            refine wpAnyH_take (i := 47) (oi := _) (v := ?v47_208) rfl (by kernel_rfl) (by kernel_rfl) (by kernel_rfl) (fun _ _ _ h => h) (Or.inl ⟨by rfl, ?hy47_208⟩) (by with_reducible assumption) ?rest47_208
            case hy47_208 => ((intro w hSw; (try dsimp only at hSw); go_simp); (try with_reducible rfl))
            (try simp only [Act.put, List.getElem_toArray, List.getElem_cons_succ, List.getElem_cons_zero, List.setIfInBounds_toArray, List.set_cons_zero, List.set_cons_succ])
            refine wpAnyH_take (i := 48) (oi := _) (v := ?v48_209) rfl (by kernel_rfl) (by kernel_rfl) (by kernel_rfl) (fun _ _ _ h => h) (Or.inl ⟨by rfl, ?hy48_209⟩) (by with_reducible assumption) ?rest48_209
            case hy48_209 => ((intro w hSw; (try dsimp only at hSw); go_simp); (try with_reducible rfl))
            (try simp only [Act.put, List.getElem_toArray, List.getElem_cons_succ, List.getElem_cons_zero, List.setIfInBounds_toArray, List.set_cons_zero, List.set_cons_succ])
            refine wpAnyH_take (i := 49) (oi := _) (v := ?v49_210) rfl (by kernel_rfl) (by kernel_rfl) (by kernel_rfl) (fun _ _ _ h => h) (Or.inl ⟨by rfl, ?hy49_210⟩) (by with_reducible assumption) ?rest49_210
            case hy49_210 => ((intro w hSw; (try dsimp only at hSw); go_simp); (try with_reducible rfl))
            (try simp only [Act.put, List.getElem_toArray, List.getElem_cons_succ, List.getElem_cons_zero, List.setIfInBounds_toArray, List.set_cons_zero, List.set_cons_succ])
            refine wpAnyH_take (i := 51) (oi := _) (v := ?v51_211) rfl (by kernel_rfl) (by kernel_rfl) (by kernel_rfl) (fun _ _ _ h => h) (Or.inl ⟨by rfl, ?hy51_211⟩) (by with_reducible assumption) ?rest51_211
            case hy51_211 => ((intro w hSw; (try dsimp only at hSw); go_simp); (try with_reducible rfl))
            (try simp only [Act.put, List.getElem_toArray, List.getElem_cons_succ, List.getElem_cons_zero, List.setIfInBounds_toArray, List.set_cons_zero, List.set_cons_succ])
            refine wpAnyH_take (i := 52) (oi := _) (v := ?v52_212) rfl (by kernel_rfl) (by kernel_rfl) (by kernel_rfl) (fun _ _ _ h => h) (Or.inl ⟨by rfl, ?hy52_212⟩) (by with_reducible assumption) ?rest52_212
            case hy52_212 => ((intro w hSw; (try dsimp only at hSw); go_simp); (try with_reducible rfl))
            (try simp only [Act.put, List.getElem_toArray, List.getElem_cons_succ, List.getElem_cons_zero, List.setIfInBounds_toArray, List.set_cons_zero, List.set_cons_succ])
            refine wpAnyH_take (i := 53) (oi := _) (v := ?v53_213) rfl (by kernel_rfl) (by kernel_rfl) (by kernel_rfl) (fun _ _ _ h => h) (Or.inl ⟨by rfl, ?hy53_213⟩) (by with_reducible assumption) ?rest53_213
            case hy53_213 => ((intro w hSw; (try dsimp only at hSw); go_simp); (try with_reducible rfl))
            (try simp only [Act.put, List.getElem_toArray, List.getElem_cons_succ, List.getElem_cons_zero, List.setIfInBounds_toArray, List.set_cons_zero, List.set_cons_succ])
            refine wpAnyH_ready (rs := [50]) (by kernel_rfl) (by simp) ?_
            refine AllReadyH.cons (o := _) rfl (fun K hK => ?_) AllReadyH.nil
            go_simp
            go_at_call 17; ((with_reducible refine (Y7.out _).mono ?_); (rintro e wq15 ⟨rfl, hbq15⟩; have hSq15 := rg_keepK (by with_reducible assumption) hbq15))
            go_wp2_with fail
            refine hK.out _ _ ?_ (fun hHeld => ?_)
            · (try dsimp only); (first | with_reducible assumption | (with_reducible apply rg_keep; rotate_left; with_reducible assumption; with_reducible assumption) | with_reducible exact rg_start _ | with_reducible exact rg_alloc (KeptS.out (by with_reducible assumption)) _ | with_reducible exact rg_alloc (by with_reducible assumption) _ | with_reducible exact rg_start_alloc _ _ | ((repeat (with_reducible refine rg_set ?_ _ (by first | exact Nat.le_refl _ | omega | (simp; done) | (simp; omega)) _)); first | with_reducible exact KeptS.out (by with_reducible assumption) | with_reducible assumption | with_reducible exact rg_alloc (KeptS.out (by with_reducible assumption)) _))
            clear hK K
            (try simp only [Act.put, List.getElem_toArray, List.getElem_cons_succ, List.getElem_cons_zero, List.setIfInBounds_toArray, List.set_cons_zero, List.set_cons_succ])
            refine wpAnyH_ready (rs := [54]) (by kernel_rfl) (by simp) ?_
            refine AllReadyH.cons (o := _) rfl (fun K hK => ?_) AllReadyH.nil
            go_simp
            go_at_call 38; ((with_reducible refine (Y9.out _).mono ?_); rintro e w' ⟨rfl, rfl⟩)
            go_wp2_with fail
            refine hK.out _ _ ?_ (fun hHeld => ?_)
            · (try dsimp only); (first | with_reducible assumption | (with_reducible apply rg_keep; rotate_left; with_reducible assumption; with_reducible assumption) | with_reducible exact rg_start _ | with_reducible exact rg_alloc (KeptS.out (by with_reducible assumption)) _ | with_reducible exact rg_alloc (by with_reducible assumption) _ | with_reducible exact rg_start_alloc _ _ | ((repeat (with_reducible refine rg_set ?_ _ (by first | exact Nat.le_refl _ | omega | (simp; done) | (simp; omega)) _)); first | with_reducible exact KeptS.out (by with_reducible assumption) | with_reducible assumption | with_reducible exact rg_alloc (KeptS.out (by with_reducible assumption)) _))
            clear hK K
            (try simp only [Act.put, List.getElem_toArray, List.getElem_cons_succ, List.getElem_cons_zero, List.setIfInBounds_toArray, List.set_cons_zero, List.set_cons_succ])
            refine wpAnyH_take (i := 55) (oi := _) (v := ?v55_214) rfl (by kernel_rfl) (by kernel_rfl) (by kernel_rfl) (fun _ _ _ h => h) (Or.inl ⟨by rfl, ?hy55_214⟩) (by with_reducible assumption) ?rest55_214
            case hy55_214 => ((intro w hSw; (try dsimp only at hSw); go_simp); (try with_reducible rfl))
            (try simp only [Act.put, List.getElem_toArray, List.getElem_cons_succ, List.getElem_cons_zero, List.setIfInBounds_toArray, List.set_cons_zero, List.set_cons_succ])
            refine wpAnyH_take (i := 56) (oi := _) (v := ?v56_215) rfl (by kernel_rfl) (by kernel_rfl) (by kernel_rfl) (fun _ _ _ h => h) (Or.inl ⟨by rfl, ?hy56_215⟩) (by with_reducible assumption) ?rest56_215
            case hy56_215 => ((intro w hSw; (try dsimp only at hSw); go_simp); (try with_reducible rfl))
            (try simp only [Act.put, List.getElem_toArray, List.getElem_cons_succ, List.getElem_cons_zero, List.setIfInBounds_toArray, List.set_cons_zero, List.set_cons_succ])
            refine wpAnyH_take (i := 57) (oi := _) (v := ?v57_216) rfl (by kernel_rfl) (by kernel_rfl) (by kernel_rfl) (fun _ _ _ h => h) (Or.inl ⟨by rfl, ?hy57_216⟩) (by with_reducible assumption) ?rest57_216
            case hy57_216 => ((intro w hSw; (try dsimp only at hSw); go_simp); (try with_reducible rfl))
            (try simp only [Act.put, List.getElem_toArray, List.getElem_cons_succ, List.getElem_cons_zero, List.setIfInBounds_toArray, List.set_cons_zero, List.set_cons_succ])
            refine wpAnyH_done (by kernel_rfl) (NoPanic.normal ?_) _
            go_wp2_with fail
            go_meet
            exact ⟨by first | rfl | simp, (by assumption : _ ∧ Below w6.heap.size w6 _).2⟩

set_option maxRecDepth 100000 in
theorem FnChunk_lifted (os : Os) (started : os.Started) (H : Type) (enc : TypeId × Value → H) :
    ReturnsInHanded {} Try.checked os 11 .any (Rows.fnChunkSpec.pre6 enc Try.prog Try.f11 Rows.fnChunkRow.domain false) (Rows.fnChunkSpec.post enc Try.prog Try.f11 false true false false) := by
  refine law_lifted (C := Try.checked) own_ started (by kernel_rfl) Try.func11 laid_ rfl ?_ ?_ rfl Try.underlying4
    (ChangeSpec.witness6 (enc := enc) (C := Try.checked) false ⟨#[], #[.slice none 0 0], []⟩ 8 (by kernel_rfl) (by kernel_rfl) (by kernel_rfl) (by kernel_rfl)) ?_
  · intro ds h
    match ds, h with
    | [_], _ => rfl
  · intro t ht
    rw [Try.params11] at ht
    simp at ht
    subst ht
    exact ⟨by kernel_rfl, of_decide_eq_true (by kernel_rfl)⟩
  · intro W base args ds p hval hA hlt
    have hval : ∀ (j : Nat) t v, Try.f11.params[j]? = some t → args[j]? = some v → Value.okWide Try.prog W .any base t v := hval
    have hA : DataW.TrodAll enc Try.prog W 0 (fun _ => true) true Try.f11.params.toList args.toList ds p := hA
    rw [Try.params11] at hA hval
    obtain ⟨v0, d0, rfl, rfl, h0⟩ := trodAll_one hA
    obtain ⟨Aa, na, ca, rfl, wna, wba, wca⟩ := open_bytes (hval 0 49 v0 rfl rfl) h0
    exact FnChunk_walk wna W wba

theorem FnChunk_holds : Rows.FnChunkSaid :=
  OpenClaim.holds_of_wide 11 Try.f11 rfl rfl rfl rfl rfl rfl rfl ⟨rfl, rfl, rfl, rfl, rfl⟩ rfl rfl rfl rfl rfl (by kernel_rfl) Try.func11 (by kernel_rfl)
    (of_decide_eq_true (by kernel_rfl)) (by have hw := wrap_ (P := Try.prog) (fn := Try.f11) (by kernel_rfl); exact hw)
    (fun os started H enc _ => FnChunk_lifted os started H enc)
end Go.Proofs.Ytkkpeienbhbgeaa
