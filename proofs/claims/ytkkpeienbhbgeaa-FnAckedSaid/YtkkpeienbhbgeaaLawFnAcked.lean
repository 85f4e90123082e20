/-
  The law FnAcked returns true for every input. No condition.
-/
import Derived.Test.YtkkpeienbhbgeaaSdx
import Derived.Test.YtkkpeienbhbgeaaSpl
import Derived.Test.YtkkpeienbhbgeaaSndRw
import Derived.Test.YtkkpeienbhbgeaaSndQ
import Derived.Test.YtkkpeienbhbgeaaSndA
import Derived.Test.YtkkpeienbhbgeaaSndN
import Derived.Test.YtkkpeienbhbgeaaSndM
import Derived.Test.YtkkpeienbhbgeaaSndC
import Derived.Test.YtkkpeienbhbgeaaBytes
import Derived.Test.YtkkpeienbhbgeaaReg
import Derived.Deep.DeepCutAuto
import Derived.Deep.RegionHeld3
import Derived.IntWalk
namespace Go.Proofs.Ytkkpeienbhbgeaa
set_option maxRecDepth 100000
open Go.ChangeShapes Go.WideShapes Go.ChangeAt Go.RowKit Go.Deep

theorem place_any (n : Int) (w : World) (h1 : -9223372036854775808 ≤ n) (h2 : n ≤ 9223372036854775807) : Calls Try.prog 41 #[.int .i64 n] w fun e w' => e = .returned (.int .i64 (n % 4294967296)) ∧ w = w' := by
  by_cases h : 0 ≤ n
  · have h3 : ¬ n < 0 := by omega
    go_enter Try.func41, Try.ntmps41
    go_wp2
    go_ret
    exact ⟨rfl, rfl⟩
  · have e : n.tmod 4294967296 = -((-n) % 4294967296) := by
      have e1 : n = -(-n) := by omega
      rw [e1, Int.neg_tmod, Int.tmod_eq_emod_of_nonneg (by omega)]
      simp
    obtain ⟨T, hT⟩ : ∃ T, n.tmod 4294967296 = T := ⟨_, rfl⟩
    have hb : -4294967296 < T ∧ T ≤ 0 := by omega
    obtain ⟨hb1, hb2⟩ := hb
    have hf : (T < 0 → T + 4294967296 = n % 4294967296) ∧ (¬ T < 0 → T = n % 4294967296) := by constructor <;> omega
    have HF := Lib.hid hf
    clear e hf
    by_cases hneg : T < 0
    · go_enter Try.func41, Try.ntmps41
      go_wp2
      go_ret
      exact ⟨by rw [← HF.out.1 hneg]; rfl, rfl⟩
    · go_enter Try.func41, Try.ntmps41
      go_wp2
      go_ret
      exact ⟨by rw [← HF.out.2 hneg]; rfl, rfl⟩
set_option maxHeartbeats 32000000 in
set_option linter.unusedSimpArgs false in
set_option linter.unusedVariables false in
theorem FnAcked_walk {A : Option Addr} {n c : Nat} (hn : n ≤ maxLen) (w : World) (hb : Byts w w.heap.size A n) :
    Calls Try.prog 13 #[.slice A n c] w fun e w' => e = .returned (.bool true) ∧ Below w.heap.size w w' := by
  have hlen := hn
  unfold maxLen at hlen
  by_cases hbig : (1048576 : Int) < n
  · go_enter Try.func13, Try.ntmps13
    go_wp2_with fail
    refine (big_any hn _).mono ?_
    rintro e w' ⟨rfl, rfl⟩
    go_wp2_with fail
    go_ret
    exact ⟨rfl, Below.refl _ _⟩
  go_enter Try.func13, Try.ntmps13
  go_wp2_with fail
  refine (big_any hn _).mono ?_
  rintro e w' ⟨rfl, rfl⟩
  go_wp2_with fail
  refine (DrawAcked_any hn hb).mono ?_
  rintro e w1 ⟨u, d, s, f, fs, dn, ack, rfl, hG, ⟨ha1, ha2⟩, hb1⟩
  clear hb
  obtain ⟨⟨hu1, hu2⟩, hd49, hs1, hs2⟩ := hG
  have hdm : d.size ≤ maxLen := by unfold maxLen; omega
  have HDM := Lib.hid hdm
  clear hdm
  have hz1 := hb1.size
  have hw1 : Below w.heap.size w w1 := (by repeat (first | with_reducible exact Below.refl _ _ | with_reducible assumption | with_reducible refine Below.drew ?_ | with_reducible refine Below.alloc ?_ (by first | exact Nat.le_refl _ | omega | (simp; done) | (simp; omega)) _ | with_reducible refine Below.setCell ?_ (by first | exact Nat.le_refl _ | omega | (simp; done) | (simp; omega)) _ | (with_reducible refine ext_trans ?_ (by with_reducible assumption))))
  cases hk : sndB u d s f fs dn
  case false =>
    have Y1 := Lib.hid (fun W => sAcked_no1 u d s f fs dn ack HDM.out hk ha1 ha2 hu1 hu2 W)
    have Y2 := Lib.hid (fun W => Acked_no1 u d s f fs dn ack HDM.out hk W)
    go_wp2_with fail
    refine (Y2.out _).mono ?_
    rintro e w2 ⟨rfl, hb2⟩
    have hz2 := hb2.size
    (try simp at hz2)
    have rs_2 : w2.heap[w1.heap.size]? = some (.cells #[.int .i64 u, .string d, .int .i64 s, .bool f, .bool fs, .bool dn] 26 (0, 0)) := (hb2.block _ (by first | (simp; done) | (simp; omega))).trans (by repeat (first | exact heap_new _ _ _ (by first | rfl | (simp; done) | (simp; omega)) | refine (Below.heap_alloc _ _ _ (by first | omega | (simp; done) | (simp; omega))).trans ?_))
    have hw2 : Below w.heap.size w w2 := (by repeat (first | with_reducible exact Below.refl _ _ | with_reducible assumption | with_reducible refine Below.drew ?_ | with_reducible refine Below.alloc ?_ (by first | exact Nat.le_refl _ | omega | (simp; done) | (simp; omega)) _ | with_reducible refine Below.setCell ?_ (by first | exact Nat.le_refl _ | omega | (simp; done) | (simp; omega)) _ | (with_reducible refine ext_trans ?_ (by with_reducible assumption))))
    have lRs_2 : w1.heap.size < w2.heap.size := by omega
    have Rs_2 := Lib.hid rs_2
    have r0_rs_2 := cell_of_row _ _ 0 _ _ _ rs_2
    have r1_rs_2 := cell_of_row _ _ 1 _ _ _ rs_2
    have r2_rs_2 := cell_of_row _ _ 2 _ _ _ rs_2
    have r3_rs_2 := cell_of_row _ _ 3 _ _ _ rs_2
    have r4_rs_2 := cell_of_row _ _ 4 _ _ _ rs_2
    have r5_rs_2 := cell_of_row _ _ 5 _ _ _ rs_2
    have f0_rs_2 := frozen_of_row _ _ 0 _ _ rs_2
    have f1_rs_2 := frozen_of_row _ _ 1 _ _ rs_2
    have f2_rs_2 := frozen_of_row _ _ 2 _ _ rs_2
    have f3_rs_2 := frozen_of_row _ _ 3 _ _ rs_2
    have f4_rs_2 := frozen_of_row _ _ 4 _ _ rs_2
    have f5_rs_2 := frozen_of_row _ _ 5 _ _ rs_2
    simp at r0_rs_2 r1_rs_2 r2_rs_2 r3_rs_2 r4_rs_2 r5_rs_2
    clear rs_2
    go_wp2_with fail
    refine (Y1.out _).mono ?_
    rintro e w3 ⟨rfl, hb3⟩
    have hz3 := hb3.size
    (try simp at hz3)
    have rs_3 := (hb3.block _ (by first | omega | (simp; done) | (simp; omega))).trans ((Below.heap_alloc _ _ _ (by first | exact lRs_2 | (simp; omega))).trans Rs_2.out)
    have rx_3 : w3.heap[w2.heap.size]? = some (.cells #[.int .i64 u, .string d, .int .i64 s, .bool f, .bool fs, .bool dn] 26 (0, 0)) := (hb3.block _ (by first | (simp; done) | (simp; omega))).trans (by repeat (first | exact heap_new _ _ _ (by first | rfl | (simp; done) | (simp; omega)) | refine (Below.heap_alloc _ _ _ (by first | omega | (simp; done) | (simp; omega))).trans ?_))
    have hw3 : Below w.heap.size w w3 := (by repeat (first | with_reducible exact Below.refl _ _ | with_reducible assumption | with_reducible refine Below.drew ?_ | with_reducible refine Below.alloc ?_ (by first | exact Nat.le_refl _ | omega | (simp; done) | (simp; omega)) _ | with_reducible refine Below.setCell ?_ (by first | exact Nat.le_refl _ | omega | (simp; done) | (simp; omega)) _ | (with_reducible refine ext_trans ?_ (by with_reducible assumption))))
    have lRs_3 : w1.heap.size < w3.heap.size := by omega
    have lRx_3 : w2.heap.size < w3.heap.size := by omega
    have Rs_3 := Lib.hid rs_3
    have r0_rs_3 := cell_of_row _ _ 0 _ _ _ rs_3
    have r1_rs_3 := cell_of_row _ _ 1 _ _ _ rs_3
    have r2_rs_3 := cell_of_row _ _ 2 _ _ _ rs_3
    have r3_rs_3 := cell_of_row _ _ 3 _ _ _ rs_3
    have r4_rs_3 := cell_of_row _ _ 4 _ _ _ rs_3
    have r5_rs_3 := cell_of_row _ _ 5 _ _ _ rs_3
    have f0_rs_3 := frozen_of_row _ _ 0 _ _ rs_3
    have f1_rs_3 := frozen_of_row _ _ 1 _ _ rs_3
    have f2_rs_3 := frozen_of_row _ _ 2 _ _ rs_3
    have f3_rs_3 := frozen_of_row _ _ 3 _ _ rs_3
    have f4_rs_3 := frozen_of_row _ _ 4 _ _ rs_3
    have f5_rs_3 := frozen_of_row _ _ 5 _ _ rs_3
    simp at r0_rs_3 r1_rs_3 r2_rs_3 r3_rs_3 r4_rs_3 r5_rs_3
    clear rs_3
    have Rx_3 := Lib.hid rx_3
    have r0_rx_3 := cell_of_row _ _ 0 _ _ _ rx_3
    have r1_rx_3 := cell_of_row _ _ 1 _ _ _ rx_3
    have r2_rx_3 := cell_of_row _ _ 2 _ _ _ rx_3
    have r3_rx_3 := cell_of_row _ _ 3 _ _ _ rx_3
    have r4_rx_3 := cell_of_row _ _ 4 _ _ _ rx_3
    have r5_rx_3 := cell_of_row _ _ 5 _ _ _ rx_3
    have f0_rx_3 := frozen_of_row _ _ 0 _ _ rx_3
    have f1_rx_3 := frozen_of_row _ _ 1 _ _ rx_3
    have f2_rx_3 := frozen_of_row _ _ 2 _ _ rx_3
    have f3_rx_3 := frozen_of_row _ _ 3 _ _ rx_3
    have f4_rx_3 := frozen_of_row _ _ 4 _ _ rx_3
    have f5_rx_3 := frozen_of_row _ _ 5 _ _ rx_3
    simp at r0_rx_3 r1_rx_3 r2_rx_3 r3_rx_3 r4_rx_3 r5_rx_3
    clear rx_3
    clear r0_rs_2 f0_rs_2 r1_rs_2 f1_rs_2 r2_rs_2 f2_rs_2 r3_rs_2 f3_rs_2 r4_rs_2 f4_rs_2 r5_rs_2 f5_rs_2
    go_wp2_with fail
    have hb4 : Below w3.heap.size w3 (w3.alloc (.cells #[.int .i64 u, .string d, .int .i64 s, .bool f, .bool fs, .bool dn] 26)) := (by repeat (first | with_reducible exact Below.refl _ _ | with_reducible assumption | with_reducible refine Below.drew ?_ | with_reducible refine Below.alloc ?_ (by first | exact Nat.le_refl _ | omega | (simp; done) | (simp; omega)) _ | with_reducible refine Below.setCell ?_ (by first | exact Nat.le_refl _ | omega | (simp; done) | (simp; omega)) _ | (with_reducible refine ext_trans ?_ (by with_reducible assumption))))
    have ry_4 : (w3.alloc (.cells #[.int .i64 u, .string d, .int .i64 s, .bool f, .bool fs, .bool dn] 26)).heap[w3.heap.size]? = some (.cells #[.int .i64 u, .string d, .int .i64 s, .bool f, .bool fs, .bool dn] 26 (0, 0)) := (by repeat (first | exact heap_new _ _ _ (by first | rfl | (simp; done) | (simp; omega)) | refine (Below.heap_alloc _ _ _ (by first | omega | (simp; done) | (simp; omega))).trans ?_))
    have lNy_4 : w3.heap.size < (w3.alloc (.cells #[.int .i64 u, .string d, .int .i64 s, .bool f, .bool fs, .bool dn] 26)).heap.size := by simp
    generalize (w3.alloc (.cells #[.int .i64 u, .string d, .int .i64 s, .bool f, .bool fs, .bool dn] 26)) = w4 at *
    have hz4 := hb4.size
    (try simp at hz4)
    have rs_4 := (hb4.block _ (by first | omega | (simp; done) | (simp; omega))).trans Rs_3.out
    have rx_4 := (hb4.block _ (by first | omega | (simp; done) | (simp; omega))).trans Rx_3.out
    have hw4 : Below w.heap.size w w4 := (by repeat (first | with_reducible exact Below.refl _ _ | with_reducible assumption | with_reducible refine Below.drew ?_ | with_reducible refine Below.alloc ?_ (by first | exact Nat.le_refl _ | omega | (simp; done) | (simp; omega)) _ | with_reducible refine Below.setCell ?_ (by first | exact Nat.le_refl _ | omega | (simp; done) | (simp; omega)) _ | (with_reducible refine ext_trans ?_ (by with_reducible assumption))))
    have lRs_4 : w1.heap.size < w4.heap.size := by omega
    have lRx_4 : w2.heap.size < w4.heap.size := by omega
    have lRy_4 : w3.heap.size < w4.heap.size := by omega
    have Rs_4 := Lib.hid rs_4
    have r0_rs_4 := cell_of_row _ _ 0 _ _ _ rs_4
    have r1_rs_4 := cell_of_row _ _ 1 _ _ _ rs_4
    have r2_rs_4 := cell_of_row _ _ 2 _ _ _ rs_4
    have r3_rs_4 := cell_of_row _ _ 3 _ _ _ rs_4
    have r4_rs_4 := cell_of_row _ _ 4 _ _ _ rs_4
    have r5_rs_4 := cell_of_row _ _ 5 _ _ _ rs_4
    have f0_rs_4 := frozen_of_row _ _ 0 _ _ rs_4
    have f1_rs_4 := frozen_of_row _ _ 1 _ _ rs_4
    have f2_rs_4 := frozen_of_row _ _ 2 _ _ rs_4
    have f3_rs_4 := frozen_of_row _ _ 3 _ _ rs_4
    have f4_rs_4 := frozen_of_row _ _ 4 _ _ rs_4
    have f5_rs_4 := frozen_of_row _ _ 5 _ _ rs_4
    simp at r0_rs_4 r1_rs_4 r2_rs_4 r3_rs_4 r4_rs_4 r5_rs_4
    clear rs_4
    have Rx_4 := Lib.hid rx_4
    have r0_rx_4 := cell_of_row _ _ 0 _ _ _ rx_4
    have r1_rx_4 := cell_of_row _ _ 1 _ _ _ rx_4
    have r2_rx_4 := cell_of_row _ _ 2 _ _ _ rx_4
    have r3_rx_4 := cell_of_row _ _ 3 _ _ _ rx_4
    have r4_rx_4 := cell_of_row _ _ 4 _ _ _ rx_4
    have r5_rx_4 := cell_of_row _ _ 5 _ _ _ rx_4
    have f0_rx_4 := frozen_of_row _ _ 0 _ _ rx_4
    have f1_rx_4 := frozen_of_row _ _ 1 _ _ rx_4
    have f2_rx_4 := frozen_of_row _ _ 2 _ _ rx_4
    have f3_rx_4 := frozen_of_row _ _ 3 _ _ rx_4
    have f4_rx_4 := frozen_of_row _ _ 4 _ _ rx_4
    have f5_rx_4 := frozen_of_row _ _ 5 _ _ rx_4
    simp at r0_rx_4 r1_rx_4 r2_rx_4 r3_rx_4 r4_rx_4 r5_rx_4
    clear rx_4
    have Ry_4 := Lib.hid ry_4
    have r0_ry_4 := cell_of_row _ _ 0 _ _ _ ry_4
    have r1_ry_4 := cell_of_row _ _ 1 _ _ _ ry_4
    have r2_ry_4 := cell_of_row _ _ 2 _ _ _ ry_4
    have r3_ry_4 := cell_of_row _ _ 3 _ _ _ ry_4
    have r4_ry_4 := cell_of_row _ _ 4 _ _ _ ry_4
    have r5_ry_4 := cell_of_row _ _ 5 _ _ _ ry_4
    have f0_ry_4 := frozen_of_row _ _ 0 _ _ ry_4
    have f1_ry_4 := frozen_of_row _ _ 1 _ _ ry_4
    have f2_ry_4 := frozen_of_row _ _ 2 _ _ ry_4
    have f3_ry_4 := frozen_of_row _ _ 3 _ _ ry_4
    have f4_ry_4 := frozen_of_row _ _ 4 _ _ ry_4
    have f5_ry_4 := frozen_of_row _ _ 5 _ _ ry_4
    simp at r0_ry_4 r1_ry_4 r2_ry_4 r3_ry_4 r4_ry_4 r5_ry_4
    clear ry_4
    clear r0_rs_3 f0_rs_3 r1_rs_3 f1_rs_3 r2_rs_3 f2_rs_3 r3_rs_3 f3_rs_3 r4_rs_3 f4_rs_3 r5_rs_3 f5_rs_3
    clear r0_rx_3 f0_rx_3 r1_rx_3 f1_rx_3 r2_rx_3 f2_rx_3 r3_rx_3 f3_rx_3 r4_rx_3 f4_rx_3 r5_rx_3 f5_rx_3
    go_wp2_with fail
    go_ret
    exact ⟨by first | rfl | simp, hw4⟩
  case true =>
    cases hin : inB (seqDiff ack u) 0 (fly s fs)
    case false =>
      have Y1 := Lib.hid (fun W => sAcked_no2 u d s f fs dn ack HDM.out hk hin ha1 ha2 hu1 hu2 W)
      have Y2 := Lib.hid (fun W => Acked_no2 u d s f fs dn ack HDM.out hk hin W)
      go_wp2_with fail
      refine (Y2.out _).mono ?_
      rintro e w2 ⟨rfl, hb2⟩
      have hz2 := hb2.size
      (try simp at hz2)
      have rs_2 : w2.heap[w1.heap.size]? = some (.cells #[.int .i64 u, .string d, .int .i64 s, .bool f, .bool fs, .bool dn] 26 (0, 0)) := (hb2.block _ (by first | (simp; done) | (simp; omega))).trans (by repeat (first | exact heap_new _ _ _ (by first | rfl | (simp; done) | (simp; omega)) | refine (Below.heap_alloc _ _ _ (by first | omega | (simp; done) | (simp; omega))).trans ?_))
      have hw2 : Below w.heap.size w w2 := (by repeat (first | with_reducible exact Below.refl _ _ | with_reducible assumption | with_reducible refine Below.drew ?_ | with_reducible refine Below.alloc ?_ (by first | exact Nat.le_refl _ | omega | (simp; done) | (simp; omega)) _ | with_reducible refine Below.setCell ?_ (by first | exact Nat.le_refl _ | omega | (simp; done) | (simp; omega)) _ | (with_reducible refine ext_trans ?_ (by with_reducible assumption))))
      have lRs_2 : w1.heap.size < w2.heap.size := by omega
      have Rs_2 := Lib.hid rs_2
      have r0_rs_2 := cell_of_row _ _ 0 _ _ _ rs_2
      have r1_rs_2 := cell_of_row _ _ 1 _ _ _ rs_2
      have r2_rs_2 := cell_of_row _ _ 2 _ _ _ rs_2
      have r3_rs_2 := cell_of_row _ _ 3 _ _ _ rs_2
      have r4_rs_2 := cell_of_row _ _ 4 _ _ _ rs_2
      have r5_rs_2 := cell_of_row _ _ 5 _ _ _ rs_2
      have f0_rs_2 := frozen_of_row _ _ 0 _ _ rs_2
      have f1_rs_2 := frozen_of_row _ _ 1 _ _ rs_2
      have f2_rs_2 := frozen_of_row _ _ 2 _ _ rs_2
      have f3_rs_2 := frozen_of_row _ _ 3 _ _ rs_2
      have f4_rs_2 := frozen_of_row _ _ 4 _ _ rs_2
      have f5_rs_2 := frozen_of_row _ _ 5 _ _ rs_2
      simp at r0_rs_2 r1_rs_2 r2_rs_2 r3_rs_2 r4_rs_2 r5_rs_2
      clear rs_2
      go_wp2_with fail
      refine (Y1.out _).mono ?_
      rintro e w3 ⟨rfl, hb3⟩
      have hz3 := hb3.size
      (try simp at hz3)
      have rs_3 := (hb3.block _ (by first | omega | (simp; done) | (simp; omega))).trans ((Below.heap_alloc _ _ _ (by first | exact lRs_2 | (simp; omega))).trans Rs_2.out)
      have rx_3 : w3.heap[w2.heap.size]? = some (.cells #[.int .i64 u, .string d, .int .i64 s, .bool f, .bool fs, .bool dn] 26 (0, 0)) := (hb3.block _ (by first | (simp; done) | (simp; omega))).trans (by repeat (first | exact heap_new _ _ _ (by first | rfl | (simp; done) | (simp; omega)) | refine (Below.heap_alloc _ _ _ (by first | omega | (simp; done) | (simp; omega))).trans ?_))
      have hw3 : Below w.heap.size w w3 := (by repeat (first | with_reducible exact Below.refl _ _ | with_reducible assumption | with_reducible refine Below.drew ?_ | with_reducible refine Below.alloc ?_ (by first | exact Nat.le_refl _ | omega | (simp; done) | (simp; omega)) _ | with_reducible refine Below.setCell ?_ (by first | exact Nat.le_refl _ | omega | (simp; done) | (simp; omega)) _ | (with_reducible refine ext_trans ?_ (by with_reducible assumption))))
      have lRs_3 : w1.heap.size < w3.heap.size := by omega
      have lRx_3 : w2.heap.size < w3.heap.size := by omega
      have Rs_3 := Lib.hid rs_3
      have r0_rs_3 := cell_of_row _ _ 0 _ _ _ rs_3
      have r1_rs_3 := cell_of_row _ _ 1 _ _ _ rs_3
      have r2_rs_3 := cell_of_row _ _ 2 _ _ _ rs_3
      have r3_rs_3 := cell_of_row _ _ 3 _ _ _ rs_3
      have r4_rs_3 := cell_of_row _ _ 4 _ _ _ rs_3
      have r5_rs_3 := cell_of_row _ _ 5 _ _ _ rs_3
      have f0_rs_3 := frozen_of_row _ _ 0 _ _ rs_3
      have f1_rs_3 := frozen_of_row _ _ 1 _ _ rs_3
      have f2_rs_3 := frozen_of_row _ _ 2 _ _ rs_3
      have f3_rs_3 := frozen_of_row _ _ 3 _ _ rs_3
      have f4_rs_3 := frozen_of_row _ _ 4 _ _ rs_3
      have f5_rs_3 := frozen_of_row _ _ 5 _ _ rs_3
      simp at r0_rs_3 r1_rs_3 r2_rs_3 r3_rs_3 r4_rs_3 r5_rs_3
      clear rs_3
      have Rx_3 := Lib.hid rx_3
      have r0_rx_3 := cell_of_row _ _ 0 _ _ _ rx_3
      have r1_rx_3 := cell_of_row _ _ 1 _ _ _ rx_3
      have r2_rx_3 := cell_of_row _ _ 2 _ _ _ rx_3
      have r3_rx_3 := cell_of_row _ _ 3 _ _ _ rx_3
      have r4_rx_3 := cell_of_row _ _ 4 _ _ _ rx_3
      have r5_rx_3 := cell_of_row _ _ 5 _ _ _ rx_3
      have f0_rx_3 := frozen_of_row _ _ 0 _ _ rx_3
      have f1_rx_3 := frozen_of_row _ _ 1 _ _ rx_3
      have f2_rx_3 := frozen_of_row _ _ 2 _ _ rx_3
      have f3_rx_3 := frozen_of_row _ _ 3 _ _ rx_3
      have f4_rx_3 := frozen_of_row _ _ 4 _ _ rx_3
      have f5_rx_3 := frozen_of_row _ _ 5 _ _ rx_3
      simp at r0_rx_3 r1_rx_3 r2_rx_3 r3_rx_3 r4_rx_3 r5_rx_3
      clear rx_3
      clear r0_rs_2 f0_rs_2 r1_rs_2 f1_rs_2 r2_rs_2 f2_rs_2 r3_rs_2 f3_rs_2 r4_rs_2 f4_rs_2 r5_rs_2 f5_rs_2
      go_wp2_with fail
      have hb4 : Below w3.heap.size w3 (w3.alloc (.cells #[.int .i64 u, .string d, .int .i64 s, .bool f, .bool fs, .bool dn] 26)) := (by repeat (first | with_reducible exact Below.refl _ _ | with_reducible assumption | with_reducible refine Below.drew ?_ | with_reducible refine Below.alloc ?_ (by first | exact Nat.le_refl _ | omega | (simp; done) | (simp; omega)) _ | with_reducible refine Below.setCell ?_ (by first | exact Nat.le_refl _ | omega | (simp; done) | (simp; omega)) _ | (with_reducible refine ext_trans ?_ (by with_reducible assumption))))
      have ry_4 : (w3.alloc (.cells #[.int .i64 u, .string d, .int .i64 s, .bool f, .bool fs, .bool dn] 26)).heap[w3.heap.size]? = some (.cells #[.int .i64 u, .string d, .int .i64 s, .bool f, .bool fs, .bool dn] 26 (0, 0)) := (by repeat (first | exact heap_new _ _ _ (by first | rfl | (simp; done) | (simp; omega)) | refine (Below.heap_alloc _ _ _ (by first | omega | (simp; done) | (simp; omega))).trans ?_))
      have lNy_4 : w3.heap.size < (w3.alloc (.cells #[.int .i64 u, .string d, .int .i64 s, .bool f, .bool fs, .bool dn] 26)).heap.size := by simp
      generalize (w3.alloc (.cells #[.int .i64 u, .string d, .int .i64 s, .bool f, .bool fs, .bool dn] 26)) = w4 at *
      have hz4 := hb4.size
      (try simp at hz4)
      have rs_4 := (hb4.block _ (by first | omega | (simp; done) | (simp; omega))).trans Rs_3.out
      have rx_4 := (hb4.block _ (by first | omega | (simp; done) | (simp; omega))).trans Rx_3.out
      have hw4 : Below w.heap.size w w4 := (by repeat (first | with_reducible exact Below.refl _ _ | with_reducible assumption | with_reducible refine Below.drew ?_ | with_reducible refine Below.alloc ?_ (by first | exact Nat.le_refl _ | omega | (simp; done) | (simp; omega)) _ | with_reducible refine Below.setCell ?_ (by first | exact Nat.le_refl _ | omega | (simp; done) | (simp; omega)) _ | (with_reducible refine ext_trans ?_ (by with_reducible assumption))))
      have lRs_4 : w1.heap.size < w4.heap.size := by omega
      have lRx_4 : w2.heap.size < w4.heap.size := by omega
      have lRy_4 : w3.heap.size < w4.heap.size := by omega
      have Rs_4 := Lib.hid rs_4
      have r0_rs_4 := cell_of_row _ _ 0 _ _ _ rs_4
      have r1_rs_4 := cell_of_row _ _ 1 _ _ _ rs_4
      have r2_rs_4 := cell_of_row _ _ 2 _ _ _ rs_4
      have r3_rs_4 := cell_of_row _ _ 3 _ _ _ rs_4
      have r4_rs_4 := cell_of_row _ _ 4 _ _ _ rs_4
      have r5_rs_4 := cell_of_row _ _ 5 _ _ _ rs_4
      have f0_rs_4 := frozen_of_row _ _ 0 _ _ rs_4
      have f1_rs_4 := frozen_of_row _ _ 1 _ _ rs_4
      have f2_rs_4 := frozen_of_row _ _ 2 _ _ rs_4
      have f3_rs_4 := frozen_of_row _ _ 3 _ _ rs_4
      have f4_rs_4 := frozen_of_row _ _ 4 _ _ rs_4
      have f5_rs_4 := frozen_of_row _ _ 5 _ _ rs_4
      simp at r0_rs_4 r1_rs_4 r2_rs_4 r3_rs_4 r4_rs_4 r5_rs_4
      clear rs_4
      have Rx_4 := Lib.hid rx_4
      have r0_rx_4 := cell_of_row _ _ 0 _ _ _ rx_4
      have r1_rx_4 := cell_of_row _ _ 1 _ _ _ rx_4
      have r2_rx_4 := cell_of_row _ _ 2 _ _ _ rx_4
      have r3_rx_4 := cell_of_row _ _ 3 _ _ _ rx_4
      have r4_rx_4 := cell_of_row _ _ 4 _ _ _ rx_4
      have r5_rx_4 := cell_of_row _ _ 5 _ _ _ rx_4
      have f0_rx_4 := frozen_of_row _ _ 0 _ _ rx_4
      have f1_rx_4 := frozen_of_row _ _ 1 _ _ rx_4
      have f2_rx_4 := frozen_of_row _ _ 2 _ _ rx_4
      have f3_rx_4 := frozen_of_row _ _ 3 _ _ rx_4
      have f4_rx_4 := frozen_of_row _ _ 4 _ _ rx_4
      have f5_rx_4 := frozen_of_row _ _ 5 _ _ rx_4
      simp at r0_rx_4 r1_rx_4 r2_rx_4 r3_rx_4 r4_rx_4 r5_rx_4
      clear rx_4
      have Ry_4 := Lib.hid ry_4
      have r0_ry_4 := cell_of_row _ _ 0 _ _ _ ry_4
      have r1_ry_4 := cell_of_row _ _ 1 _ _ _ ry_4
      have r2_ry_4 := cell_of_row _ _ 2 _ _ _ ry_4
      have r3_ry_4 := cell_of_row _ _ 3 _ _ _ ry_4
      have r4_ry_4 := cell_of_row _ _ 4 _ _ _ ry_4
      have r5_ry_4 := cell_of_row _ _ 5 _ _ _ ry_4
      have f0_ry_4 := frozen_of_row _ _ 0 _ _ ry_4
      have f1_ry_4 := frozen_of_row _ _ 1 _ _ ry_4
      have f2_ry_4 := frozen_of_row _ _ 2 _ _ ry_4
      have f3_ry_4 := frozen_of_row _ _ 3 _ _ ry_4
      have f4_ry_4 := frozen_of_row _ _ 4 _ _ ry_4
      have f5_ry_4 := frozen_of_row _ _ 5 _ _ ry_4
      simp at r0_ry_4 r1_ry_4 r2_ry_4 r3_ry_4 r4_ry_4 r5_ry_4
      clear ry_4
      clear r0_rs_3 f0_rs_3 r1_rs_3 f1_rs_3 r2_rs_3 f2_rs_3 r3_rs_3 f3_rs_3 r4_rs_3 f4_rs_3 r5_rs_3 f5_rs_3
      clear r0_rx_3 f0_rx_3 r1_rx_3 f1_rx_3 r2_rx_3 f2_rx_3 r3_rx_3 f3_rx_3 r4_rx_3 f4_rx_3 r5_rx_3 f5_rx_3
      go_wp2_with fail
      go_ret
      exact ⟨by first | rfl | simp, hw4⟩
    case true =>
      obtain ⟨hi1, hi2⟩ := inB_iff.1 hin
      obtain ⟨k, rfl⟩ := Int.eq_ofNat_of_zero_le (sndB_sent hk).1
      obtain ⟨m, hm⟩ := Int.eq_ofNat_of_zero_le hi1
      have hkd : k ≤ d.size := by have := (sndB_sent hk).2; omega
      have h48 := sndB_le hk
      rw [hm] at hi2
      obtain ⟨a1, a2, a3⟩ := acked_facts hk hm hi2
      have y1 := fun W => sAcked_yes u d k f fs dn ack hk hkd h48 ha1 ha2 hu1 hu2 m hm hi2 W
      have y2 := fun W => Acked_yes u d k f fs dn ack hk hkd h48 m hm hi2 W
      have y3 := fun W => SeqDiff_any ack u W
      rw [hm] at y3
      have y4 := fun W => place_any ack W ha1 ha2
      rw [← a1] at y4
      have y5 := fun W => SenderOk_any (seqAdd u m) (d.extract (min m k) d.size) ((k - min m k : Nat) : Int) f (fs && decide (m ≤ k)) (dn || decide (k < m)) (by unfold maxLen; simp; omega) W
      rw [a2] at y5
      have y6 := fun W => NextOf_any (seqAdd u m) (d.extract (min m k) d.size) ((k - min m k : Nat) : Int) f (fs && decide (m ≤ k)) (dn || decide (k < m)) W
      rw [a3] at y6
      have y7 := fun W => NextOf_any u d k f fs dn W
      obtain ⟨NN, hNN⟩ : ∃ N, seqAdd u (fly k fs) = N := ⟨_, rfl⟩
      obtain ⟨Q1, hq1⟩ : ∃ Q, seqAdd u m = Q := ⟨_, rfl⟩
      obtain ⟨Q3, hq3⟩ : ∃ Q, ((k - min m k : Nat) : Int) = Q := ⟨_, rfl⟩
      obtain ⟨Q4, hq4⟩ : ∃ Q, (fs && decide (m ≤ k)) = Q := ⟨_, rfl⟩
      simp only [hq1, hq3, hq4, hNN] at y1 y2 y4 y5 y6 y7
      clear hq1 hq3 hq4 hNN a1 a2 a3 hi2 hin hi1 hm hk
      by_cases hkm : k < m
      case pos =>
        have hdec : decide (k < m) = true := by simp [hkm]
        simp only [(by omega : min m k = k), hdec, Bool.or_true, Bool.or_false] at y1 y2 y5 y6
        clear hdec
        have Y1 := Lib.hid y1
        have Y2 := Lib.hid y2
        have Y3 := Lib.hid y3
        have Y4 := Lib.hid y4
        have Y5 := Lib.hid y5
        have Y6 := Lib.hid y6
        have Y7 := Lib.hid y7
        clear y1 y2 y3 y4 y5 y6 y7
        have hkk : (k : Int) ≤ (d.size : Int) := by omega
        have hkm1 : (k : Int) < (m : Int) := by omega
        cases dn
        case false =>
          go_wp2_with fail
          refine (Y2.out _).mono ?_
          rintro e w2 ⟨rfl, hb2⟩
          have hz2 := hb2.size
          (try simp at hz2)
          have rs_2 : w2.heap[w1.heap.size]? = some (.cells #[.int .i64 u, .string d, .int .i64 (k : Int), .bool f, .bool fs, .bool false] 26 (0, 0)) := (hb2.block _ (by first | (simp; done) | (simp; omega))).trans (by repeat (first | exact heap_new _ _ _ (by first | rfl | (simp; done) | (simp; omega)) | refine (Below.heap_alloc _ _ _ (by first | omega | (simp; done) | (simp; omega))).trans ?_))
          have hw2 : Below w.heap.size w w2 := (by repeat (first | with_reducible exact Below.refl _ _ | with_reducible assumption | with_reducible refine Below.drew ?_ | with_reducible refine Below.alloc ?_ (by first | exact Nat.le_refl _ | omega | (simp; done) | (simp; omega)) _ | with_reducible refine Below.setCell ?_ (by first | exact Nat.le_refl _ | omega | (simp; done) | (simp; omega)) _ | (with_reducible refine ext_trans ?_ (by with_reducible assumption))))
          have lRs_2 : w1.heap.size < w2.heap.size := by omega
          have Rs_2 := Lib.hid rs_2
          have r0_rs_2 := cell_of_row _ _ 0 _ _ _ rs_2
          have r1_rs_2 := cell_of_row _ _ 1 _ _ _ rs_2
          have r2_rs_2 := cell_of_row _ _ 2 _ _ _ rs_2
          have r3_rs_2 := cell_of_row _ _ 3 _ _ _ rs_2
          have r4_rs_2 := cell_of_row _ _ 4 _ _ _ rs_2
          have r5_rs_2 := cell_of_row _ _ 5 _ _ _ rs_2
          have f0_rs_2 := frozen_of_row _ _ 0 _ _ rs_2
          have f1_rs_2 := frozen_of_row _ _ 1 _ _ rs_2
          have f2_rs_2 := frozen_of_row _ _ 2 _ _ rs_2
          have f3_rs_2 := frozen_of_row _ _ 3 _ _ rs_2
          have f4_rs_2 := frozen_of_row _ _ 4 _ _ rs_2
          have f5_rs_2 := frozen_of_row _ _ 5 _ _ rs_2
          simp at r0_rs_2 r1_rs_2 r2_rs_2 r3_rs_2 r4_rs_2 r5_rs_2
          clear rs_2
          go_wp2_with fail
          refine (Y1.out _).mono ?_
          rintro e w3 ⟨rfl, hb3⟩
          have hz3 := hb3.size
          (try simp at hz3)
          have rs_3 := (hb3.block _ (by first | omega | (simp; done) | (simp; omega))).trans ((Below.heap_alloc _ _ _ (by first | exact lRs_2 | (simp; omega))).trans Rs_2.out)
          have rx_3 : w3.heap[w2.heap.size]? = some (.cells #[.int .i64 Q1, .string (d.extract k d.size), .int .i64 Q3, .bool f, .bool Q4, .bool true] 26 (0, 0)) := (hb3.block _ (by first | (simp; done) | (simp; omega))).trans (by repeat (first | exact heap_new _ _ _ (by first | rfl | (simp; done) | (simp; omega)) | refine (Below.heap_alloc _ _ _ (by first | omega | (simp; done) | (simp; omega))).trans ?_))
          have hw3 : Below w.heap.size w w3 := (by repeat (first | with_reducible exact Below.refl _ _ | with_reducible assumption | with_reducible refine Below.drew ?_ | with_reducible refine Below.alloc ?_ (by first | exact Nat.le_refl _ | omega | (simp; done) | (simp; omega)) _ | with_reducible refine Below.setCell ?_ (by first | exact Nat.le_refl _ | omega | (simp; done) | (simp; omega)) _ | (with_reducible refine ext_trans ?_ (by with_reducible assumption))))
          have lRs_3 : w1.heap.size < w3.heap.size := by omega
          have lRx_3 : w2.heap.size < w3.heap.size := by omega
          have Rs_3 := Lib.hid rs_3
          have r0_rs_3 := cell_of_row _ _ 0 _ _ _ rs_3
          have r1_rs_3 := cell_of_row _ _ 1 _ _ _ rs_3
          have r2_rs_3 := cell_of_row _ _ 2 _ _ _ rs_3
          have r3_rs_3 := cell_of_row _ _ 3 _ _ _ rs_3
          have r4_rs_3 := cell_of_row _ _ 4 _ _ _ rs_3
          have r5_rs_3 := cell_of_row _ _ 5 _ _ _ rs_3
          have f0_rs_3 := frozen_of_row _ _ 0 _ _ rs_3
          have f1_rs_3 := frozen_of_row _ _ 1 _ _ rs_3
          have f2_rs_3 := frozen_of_row _ _ 2 _ _ rs_3
          have f3_rs_3 := frozen_of_row _ _ 3 _ _ rs_3
          have f4_rs_3 := frozen_of_row _ _ 4 _ _ rs_3
          have f5_rs_3 := frozen_of_row _ _ 5 _ _ rs_3
          simp at r0_rs_3 r1_rs_3 r2_rs_3 r3_rs_3 r4_rs_3 r5_rs_3
          clear rs_3
          have Rx_3 := Lib.hid rx_3
          have r0_rx_3 := cell_of_row _ _ 0 _ _ _ rx_3
          have r1_rx_3 := cell_of_row _ _ 1 _ _ _ rx_3
          have r2_rx_3 := cell_of_row _ _ 2 _ _ _ rx_3
          have r3_rx_3 := cell_of_row _ _ 3 _ _ _ rx_3
          have r4_rx_3 := cell_of_row _ _ 4 _ _ _ rx_3
          have r5_rx_3 := cell_of_row _ _ 5 _ _ _ rx_3
          have f0_rx_3 := frozen_of_row _ _ 0 _ _ rx_3
          have f1_rx_3 := frozen_of_row _ _ 1 _ _ rx_3
          have f2_rx_3 := frozen_of_row _ _ 2 _ _ rx_3
          have f3_rx_3 := frozen_of_row _ _ 3 _ _ rx_3
          have f4_rx_3 := frozen_of_row _ _ 4 _ _ rx_3
          have f5_rx_3 := frozen_of_row _ _ 5 _ _ rx_3
          simp at r0_rx_3 r1_rx_3 r2_rx_3 r3_rx_3 r4_rx_3 r5_rx_3
          clear rx_3
          clear r0_rs_2 f0_rs_2 r1_rs_2 f1_rs_2 r2_rs_2 f2_rs_2 r3_rs_2 f3_rs_2 r4_rs_2 f4_rs_2 r5_rs_2 f5_rs_2
          go_wp2_with fail
          refine (Y3.out _).mono ?_
          rintro e w' ⟨rfl, rfl⟩
          go_wp2_with fail
          have hb4 : Below w3.heap.size w3 (w3.alloc (.cells #[.int .i64 Q1, .string (d.extract k d.size), .int .i64 Q3, .bool f, .bool Q4, .bool true] 26)) := (by repeat (first | with_reducible exact Below.refl _ _ | with_reducible assumption | with_reducible refine Below.drew ?_ | with_reducible refine Below.alloc ?_ (by first | exact Nat.le_refl _ | omega | (simp; done) | (simp; omega)) _ | with_reducible refine Below.setCell ?_ (by first | exact Nat.le_refl _ | omega | (simp; done) | (simp; omega)) _ | (with_reducible refine ext_trans ?_ (by with_reducible assumption))))
          have ry_4 : (w3.alloc (.cells #[.int .i64 Q1, .string (d.extract k d.size), .int .i64 Q3, .bool f, .bool Q4, .bool true] 26)).heap[w3.heap.size]? = some (.cells #[.int .i64 Q1, .string (d.extract k d.size), .int .i64 Q3, .bool f, .bool Q4, .bool true] 26 (0, 0)) := (by repeat (first | exact heap_new _ _ _ (by first | rfl | (simp; done) | (simp; omega)) | refine (Below.heap_alloc _ _ _ (by first | omega | (simp; done) | (simp; omega))).trans ?_))
          have lNy_4 : w3.heap.size < (w3.alloc (.cells #[.int .i64 Q1, .string (d.extract k d.size), .int .i64 Q3, .bool f, .bool Q4, .bool true] 26)).heap.size := by simp
          generalize (w3.alloc (.cells #[.int .i64 Q1, .string (d.extract k d.size), .int .i64 Q3, .bool f, .bool Q4, .bool true] 26)) = w4 at *
          have hz4 := hb4.size
          (try simp at hz4)
          have rs_4 := (hb4.block _ (by first | omega | (simp; done) | (simp; omega))).trans Rs_3.out
          have rx_4 := (hb4.block _ (by first | omega | (simp; done) | (simp; omega))).trans Rx_3.out
          have hw4 : Below w.heap.size w w4 := (by repeat (first | with_reducible exact Below.refl _ _ | with_reducible assumption | with_reducible refine Below.drew ?_ | with_reducible refine Below.alloc ?_ (by first | exact Nat.le_refl _ | omega | (simp; done) | (simp; omega)) _ | with_reducible refine Below.setCell ?_ (by first | exact Nat.le_refl _ | omega | (simp; done) | (simp; omega)) _ | (with_reducible refine ext_trans ?_ (by with_reducible assumption))))
          have lRs_4 : w1.heap.size < w4.heap.size := by omega
          have lRx_4 : w2.heap.size < w4.heap.size := by omega
          have lRy_4 : w3.heap.size < w4.heap.size := by omega
          have Rs_4 := Lib.hid rs_4
          have r0_rs_4 := cell_of_row _ _ 0 _ _ _ rs_4
          have r1_rs_4 := cell_of_row _ _ 1 _ _ _ rs_4
          have r2_rs_4 := cell_of_row _ _ 2 _ _ _ rs_4
          have r3_rs_4 := cell_of_row _ _ 3 _ _ _ rs_4
          have r4_rs_4 := cell_of_row _ _ 4 _ _ _ rs_4
          have r5_rs_4 := cell_of_row _ _ 5 _ _ _ rs_4
          have f0_rs_4 := frozen_of_row _ _ 0 _ _ rs_4
          have f1_rs_4 := frozen_of_row _ _ 1 _ _ rs_4
          have f2_rs_4 := frozen_of_row _ _ 2 _ _ rs_4
          have f3_rs_4 := frozen_of_row _ _ 3 _ _ rs_4
          have f4_rs_4 := frozen_of_row _ _ 4 _ _ rs_4
          have f5_rs_4 := frozen_of_row _ _ 5 _ _ rs_4
          simp at r0_rs_4 r1_rs_4 r2_rs_4 r3_rs_4 r4_rs_4 r5_rs_4
          clear rs_4
          have Rx_4 := Lib.hid rx_4
          have r0_rx_4 := cell_of_row _ _ 0 _ _ _ rx_4
          have r1_rx_4 := cell_of_row _ _ 1 _ _ _ rx_4
          have r2_rx_4 := cell_of_row _ _ 2 _ _ _ rx_4
          have r3_rx_4 := cell_of_row _ _ 3 _ _ _ rx_4
          have r4_rx_4 := cell_of_row _ _ 4 _ _ _ rx_4
          have r5_rx_4 := cell_of_row _ _ 5 _ _ _ rx_4
          have f0_rx_4 := frozen_of_row _ _ 0 _ _ rx_4
          have f1_rx_4 := frozen_of_row _ _ 1 _ _ rx_4
          have f2_rx_4 := frozen_of_row _ _ 2 _ _ rx_4
          have f3_rx_4 := frozen_of_row _ _ 3 _ _ rx_4
          have f4_rx_4 := frozen_of_row _ _ 4 _ _ rx_4
          have f5_rx_4 := frozen_of_row _ _ 5 _ _ rx_4
          simp at r0_rx_4 r1_rx_4 r2_rx_4 r3_rx_4 r4_rx_4 r5_rx_4
          clear rx_4
          have Ry_4 := Lib.hid ry_4
          have r0_ry_4 := cell_of_row _ _ 0 _ _ _ ry_4
          have r1_ry_4 := cell_of_row _ _ 1 _ _ _ ry_4
          have r2_ry_4 := cell_of_row _ _ 2 _ _ _ ry_4
          have r3_ry_4 := cell_of_row _ _ 3 _ _ _ ry_4
          have r4_ry_4 := cell_of_row _ _ 4 _ _ _ ry_4
          have r5_ry_4 := cell_of_row _ _ 5 _ _ _ ry_4
          have f0_ry_4 := frozen_of_row _ _ 0 _ _ ry_4
          have f1_ry_4 := frozen_of_row _ _ 1 _ _ ry_4
          have f2_ry_4 := frozen_of_row _ _ 2 _ _ ry_4
          have f3_ry_4 := frozen_of_row _ _ 3 _ _ ry_4
          have f4_ry_4 := frozen_of_row _ _ 4 _ _ ry_4
          have f5_ry_4 := frozen_of_row _ _ 5 _ _ ry_4
          simp at r0_ry_4 r1_ry_4 r2_ry_4 r3_ry_4 r4_ry_4 r5_ry_4
          clear ry_4
          clear r0_rs_3 f0_rs_3 r1_rs_3 f1_rs_3 r2_rs_3 f2_rs_3 r3_rs_3 f3_rs_3 r4_rs_3 f4_rs_3 r5_rs_3 f5_rs_3
          clear r0_rx_3 f0_rx_3 r1_rx_3 f1_rx_3 r2_rx_3 f2_rx_3 r3_rx_3 f3_rx_3 r4_rx_3 f4_rx_3 r5_rx_3 f5_rx_3
          go_wp2_with fail
          go_cut [2] (fun z wx => z = .bool true ∧ Below w4.heap.size w4 wx)
          case rest =>
            obtain ⟨rfl, hbz⟩ := hcut
            go_wp2_with fail
            go_ret
            exact ⟨rfl, hw4.trans (hbz.mono hw4.size)⟩
          case first =>
            refine wp_region_noPanic ?_
            refine wp_region_held_drew (S := (fun w' => (∀ b' o, b' < w4.heap.size → w'.cell? ⟨b', o, none⟩ = w4.cell? ⟨b', o, none⟩) ∧ Below w4.heap.size w4 w')) (by kernel_rfl) (by first | exact rg_start _) (fun hHeld => ?_)
            refine wpAnyH_take (i := 0) (oi := _) (v := ?v0_1) rfl (by kernel_rfl) (by kernel_rfl) (by kernel_rfl) (fun _ _ _ h => h) (Or.inl ⟨by rfl, ?hy0_1⟩) (by with_reducible assumption) ?rest0_1
            case hy0_1 => ((intro w hSw; (try dsimp only at hSw); go_simp); (try with_reducible rfl))
            (try simp only [Act.put, List.getElem_toArray, List.getElem_cons_succ, List.getElem_cons_zero, List.setIfInBounds_toArray, List.set_cons_zero, List.set_cons_succ])
            refine wpAnyH_ready (rs := [1]) (by kernel_rfl) (by simp) ?_
            refine AllReadyH.cons (o := _) rfl (fun K hK => ?_) AllReadyH.nil
            go_simp
            go_at_call 19; ((with_reducible refine (Y5.out _).mono ?_); (rintro e wq1 ⟨rfl, hbq1⟩; have hSq1 := rg_keepK (by with_reducible assumption) hbq1))
            go_wp2_with fail
            refine hK.out _ _ ?_ (fun hHeld => ?_)
            · (try dsimp only); (first | with_reducible assumption | (with_reducible apply rg_keep; rotate_left; with_reducible assumption; with_reducible assumption) | with_reducible exact rg_start _ | with_reducible exact rg_alloc (KeptS.out (by with_reducible assumption)) _ | with_reducible exact rg_alloc (by with_reducible assumption) _ | with_reducible exact rg_start_alloc _ _ | ((repeat (with_reducible refine rg_set ?_ _ (by first | exact Nat.le_refl _ | omega | (simp; done) | (simp; omega)) _)); first | with_reducible exact KeptS.out (by with_reducible assumption) | with_reducible assumption | with_reducible exact rg_alloc (KeptS.out (by with_reducible assumption)) _))
            clear hK K
            (try simp only [Act.put, List.getElem_toArray, List.getElem_cons_succ, List.getElem_cons_zero, List.setIfInBounds_toArray, List.set_cons_zero, List.set_cons_succ])
            refine wpAnyH_take (i := 2) (oi := _) (v := ?v2_2) rfl (by kernel_rfl) (by kernel_rfl) (by kernel_rfl) (fun _ _ _ h => h) (Or.inl ⟨by rfl, ?hy2_2⟩) (by with_reducible assumption) ?rest2_2
            case hy2_2 => ((intro w hSw; (try dsimp only at hSw); go_simp); (try with_reducible rfl))
            (try simp only [Act.put, List.getElem_toArray, List.getElem_cons_succ, List.getElem_cons_zero, List.setIfInBounds_toArray, List.set_cons_zero, List.set_cons_succ])
            refine wpAnyH_take (i := 3) (oi := _) (v := ?v3_3) rfl (by kernel_rfl) (by kernel_rfl) (by kernel_rfl) (fun _ _ _ h => h) (Or.inl ⟨by rfl, ?hy3_3⟩) (by with_reducible assumption) ?rest3_3
            case hy3_3 => ((intro w hSw; (try dsimp only at hSw); go_simp); (try with_reducible rfl))
            (try simp only [Act.put, List.getElem_toArray, List.getElem_cons_succ, List.getElem_cons_zero, List.setIfInBounds_toArray, List.set_cons_zero, List.set_cons_succ])
            refine wpAnyH_take (i := 4) (oi := _) (v := ?v4_4) rfl (by kernel_rfl) (by kernel_rfl) (by kernel_rfl) (fun _ _ _ h => h) (Or.inl ⟨by rfl, ?hy4_4⟩) (by with_reducible assumption) ?rest4_4
            case hy4_4 => ((intro w hSw; (try dsimp only at hSw); go_simp); (try with_reducible rfl))
            (try simp only [Act.put, List.getElem_toArray, List.getElem_cons_succ, List.getElem_cons_zero, List.setIfInBounds_toArray, List.set_cons_zero, List.set_cons_succ])
            refine wpAnyH_take (i := 5) (oi := _) (v := ?v5_5) rfl (by kernel_rfl) (by kernel_rfl) (by kernel_rfl) (fun _ _ _ h => h) (Or.inl ⟨by rfl, ?hy5_5⟩) (by with_reducible assumption) ?rest5_5
            case hy5_5 => ((intro w hSw; (try dsimp only at hSw); go_simp); (try with_reducible rfl))
            (try simp only [Act.put, List.getElem_toArray, List.getElem_cons_succ, List.getElem_cons_zero, List.setIfInBounds_toArray, List.set_cons_zero, List.set_cons_succ])
            refine wpAnyH_ready (rs := [6]) (by kernel_rfl) (by simp) ?_
            refine AllReadyH.cons (o := _) rfl (fun K hK => ?_) AllReadyH.nil
            go_simp
            go_at_call 41; ((with_reducible refine (Y4.out _).mono ?_); rintro e w' ⟨rfl, rfl⟩)
            go_wp2_with fail
            refine hK.out _ _ ?_ (fun hHeld => ?_)
            · (try dsimp only); (first | with_reducible assumption | (with_reducible apply rg_keep; rotate_left; with_reducible assumption; with_reducible assumption) | with_reducible exact rg_start _ | with_reducible exact rg_alloc (KeptS.out (by with_reducible assumption)) _ | with_reducible exact rg_alloc (by with_reducible assumption) _ | with_reducible exact rg_start_alloc _ _ | ((repeat (with_reducible refine rg_set ?_ _ (by first | exact Nat.le_refl _ | omega | (simp; done) | (simp; omega)) _)); first | with_reducible exact KeptS.out (by with_reducible assumption) | with_reducible assumption | with_reducible exact rg_alloc (KeptS.out (by with_reducible assumption)) _))
            clear hK K
            (try simp only [Act.put, List.getElem_toArray, List.getElem_cons_succ, List.getElem_cons_zero, List.setIfInBounds_toArray, List.set_cons_zero, List.set_cons_succ])
            refine wpAnyH_take (i := 7) (oi := _) (v := ?v7_6) rfl (by kernel_rfl) (by kernel_rfl) (by kernel_rfl) (fun _ _ _ h => h) (Or.inl ⟨by rfl, ?hy7_6⟩) (by with_reducible assumption) ?rest7_6
            case hy7_6 => ((intro w hSw; (try dsimp only at hSw); go_simp); (try with_reducible rfl))
            (try simp only [Act.put, List.getElem_toArray, List.getElem_cons_succ, List.getElem_cons_zero, List.setIfInBounds_toArray, List.set_cons_zero, List.set_cons_succ])
            refine wpAnyH_take (i := 8) (oi := _) (v := ?v8_7) rfl (by kernel_rfl) (by kernel_rfl) (by kernel_rfl) (fun _ _ _ h => h) (Or.inl ⟨by rfl, ?hy8_7⟩) (by with_reducible assumption) ?rest8_7
            case hy8_7 => ((intro w hSw; (try dsimp only at hSw); go_simp); (try with_reducible rfl))
            (try simp only [Act.put, List.getElem_toArray, List.getElem_cons_succ, List.getElem_cons_zero, List.setIfInBounds_toArray, List.set_cons_zero, List.set_cons_succ])
            refine wpAnyH_take (i := 9) (oi := _) (v := ?v9_8) rfl (by kernel_rfl) (by kernel_rfl) (by kernel_rfl) (fun _ _ _ h => h) (Or.inl ⟨by rfl, ?hy9_8⟩) (by with_reducible assumption) ?rest9_8
            case hy9_8 => ((intro w hSw; (try dsimp only at hSw); go_simp); (try with_reducible rfl))
            (try simp only [Act.put, List.getElem_toArray, List.getElem_cons_succ, List.getElem_cons_zero, List.setIfInBounds_toArray, List.set_cons_zero, List.set_cons_succ])
            refine wpAnyH_take (i := 10) (oi := _) (v := ?v10_9) rfl (by kernel_rfl) (by kernel_rfl) (by kernel_rfl) (fun _ _ _ h => h) (Or.inl ⟨by rfl, ?hy10_9⟩) (by with_reducible assumption) ?rest10_9
            case hy10_9 => ((intro w hSw; (try dsimp only at hSw); go_simp); (try with_reducible rfl))
            (try simp only [Act.put, List.getElem_toArray, List.getElem_cons_succ, List.getElem_cons_zero, List.setIfInBounds_toArray, List.set_cons_zero, List.set_cons_succ])
            refine wpAnyH_take (i := 12) (oi := _) (v := ?v12_10) rfl (by kernel_rfl) (by kernel_rfl) (by kernel_rfl) (fun _ _ _ h => h) (Or.inl ⟨by rfl, ?hy12_10⟩) (by with_reducible assumption) ?rest12_10
            case hy12_10 => ((intro w hSw; (try dsimp only at hSw); go_simp); (try with_reducible rfl))
            (try simp only [Act.put, List.getElem_toArray, List.getElem_cons_succ, List.getElem_cons_zero, List.setIfInBounds_toArray, List.set_cons_zero, List.set_cons_succ])
            refine wpAnyH_ready (rs := [11]) (by kernel_rfl) (by simp) ?_
            refine AllReadyH.cons (o := _) rfl (fun K hK => ?_) AllReadyH.nil
            go_simp
            go_at_call 17; ((with_reducible refine (Y6.out _).mono ?_); (rintro e wq3 ⟨rfl, hbq3⟩; have hSq3 := rg_keepK (by with_reducible assumption) hbq3))
            go_wp2_with fail
            refine hK.out _ _ ?_ (fun hHeld => ?_)
            · (try dsimp only); (first | with_reducible assumption | (with_reducible apply rg_keep; rotate_left; with_reducible assumption; with_reducible assumption) | with_reducible exact rg_start _ | with_reducible exact rg_alloc (KeptS.out (by with_reducible assumption)) _ | with_reducible exact rg_alloc (by with_reducible assumption) _ | with_reducible exact rg_start_alloc _ _ | ((repeat (with_reducible refine rg_set ?_ _ (by first | exact Nat.le_refl _ | omega | (simp; done) | (simp; omega)) _)); first | with_reducible exact KeptS.out (by with_reducible assumption) | with_reducible assumption | with_reducible exact rg_alloc (KeptS.out (by with_reducible assumption)) _))
            clear hK K
            (try simp only [Act.put, List.getElem_toArray, List.getElem_cons_succ, List.getElem_cons_zero, List.setIfInBounds_toArray, List.set_cons_zero, List.set_cons_succ])
            refine wpAnyH_ready (rs := [13]) (by kernel_rfl) (by simp) ?_
            refine AllReadyH.cons (o := _) rfl (fun K hK => ?_) AllReadyH.nil
            go_simp
            go_at_call 17; ((with_reducible refine (Y7.out _).mono ?_); (rintro e wq4 ⟨rfl, hbq4⟩; have hSq4 := rg_keepK (by with_reducible assumption) hbq4))
            go_wp2_with fail
            refine hK.out _ _ ?_ (fun hHeld => ?_)
            · (try dsimp only); (first | with_reducible assumption | (with_reducible apply rg_keep; rotate_left; with_reducible assumption; with_reducible assumption) | with_reducible exact rg_start _ | with_reducible exact rg_alloc (KeptS.out (by with_reducible assumption)) _ | with_reducible exact rg_alloc (by with_reducible assumption) _ | with_reducible exact rg_start_alloc _ _ | ((repeat (with_reducible refine rg_set ?_ _ (by first | exact Nat.le_refl _ | omega | (simp; done) | (simp; omega)) _)); first | with_reducible exact KeptS.out (by with_reducible assumption) | with_reducible assumption | with_reducible exact rg_alloc (KeptS.out (by with_reducible assumption)) _))
            clear hK K
            (try simp only [Act.put, List.getElem_toArray, List.getElem_cons_succ, List.getElem_cons_zero, List.setIfInBounds_toArray, List.set_cons_zero, List.set_cons_succ])
            refine wpAnyH_take (i := 14) (oi := _) (v := ?v14_11) rfl (by kernel_rfl) (by kernel_rfl) (by kernel_rfl) (fun _ _ _ h => h) (Or.inl ⟨by rfl, ?hy14_11⟩) (by with_reducible assumption) ?rest14_11
            case hy14_11 => ((intro w hSw; (try dsimp only at hSw); go_simp); (try with_reducible rfl))
            (try simp only [Act.put, List.getElem_toArray, List.getElem_cons_succ, List.getElem_cons_zero, List.setIfInBounds_toArray, List.set_cons_zero, List.set_cons_succ])
            refine wpAnyH_take (i := 15) (oi := _) (v := ?v15_12) rfl (by kernel_rfl) (by kernel_rfl) (by kernel_rfl) (fun _ _ _ h => h) (Or.inl ⟨by rfl, ?hy15_12⟩) (by with_reducible assumption) ?rest15_12
            case hy15_12 => ((intro w hSw; (try dsimp only at hSw); go_simp); (try with_reducible rfl))
            (try simp only [Act.put, List.getElem_toArray, List.getElem_cons_succ, List.getElem_cons_zero, List.setIfInBounds_toArray, List.set_cons_zero, List.set_cons_succ])
            refine wpAnyH_take (i := 16) (oi := _) (v := ?v16_13) rfl (by kernel_rfl) (by kernel_rfl) (by kernel_rfl) (fun _ _ _ h => h) (Or.inl ⟨by rfl, ?hy16_13⟩) (by with_reducible assumption) ?rest16_13
            case hy16_13 => ((intro w hSw; (try dsimp only at hSw); go_simp); (try with_reducible rfl))
            (try simp only [Act.put, List.getElem_toArray, List.getElem_cons_succ, List.getElem_cons_zero, List.setIfInBounds_toArray, List.set_cons_zero, List.set_cons_succ])
            refine wpAnyH_take (i := 17) (oi := _) (v := ?v17_14) rfl (by kernel_rfl) (by kernel_rfl) (by kernel_rfl) (fun _ _ _ h => h) (Or.inl ⟨by rfl, ?hy17_14⟩) (by with_reducible assumption) ?rest17_14
            case hy17_14 => ((intro w hSw; (try dsimp only at hSw); go_simp); (try with_reducible rfl))
            (try simp only [Act.put, List.getElem_toArray, List.getElem_cons_succ, List.getElem_cons_zero, List.setIfInBounds_toArray, List.set_cons_zero, List.set_cons_succ])
            refine wpAnyH_take (i := 18) (oi := _) (v := ?v18_15) rfl (by kernel_rfl) (by kernel_rfl) (by kernel_rfl) (fun _ _ _ h => h) (Or.inl ⟨by rfl, ?hy18_15⟩) (by with_reducible assumption) ?rest18_15
            case hy18_15 => ((intro w hSw; (try dsimp only at hSw); go_simp); (try with_reducible rfl))
            (try simp only [Act.put, List.getElem_toArray, List.getElem_cons_succ, List.getElem_cons_zero, List.setIfInBounds_toArray, List.set_cons_zero, List.set_cons_succ])
            refine wpAnyH_take (i := 19) (oi := _) (v := ?v19_16) rfl (by kernel_rfl) (by kernel_rfl) (by kernel_rfl) (fun _ _ _ h => h) (Or.inl ⟨by rfl, ?hy19_16⟩) (by with_reducible assumption) ?rest19_16
            case hy19_16 => ((intro w hSw; (try dsimp only at hSw); go_simp); (try with_reducible rfl))
            (try simp only [Act.put, List.getElem_toArray, List.getElem_cons_succ, List.getElem_cons_zero, List.setIfInBounds_toArray, List.set_cons_zero, List.set_cons_succ])
            refine wpAnyH_take (i := 20) (oi := _) (v := ?v20_17) rfl (by kernel_rfl) (by kernel_rfl) (by kernel_rfl) (fun _ _ _ h => h) (Or.inl ⟨by rfl, ?hy20_17⟩) (by with_reducible assumption) ?rest20_17
            case hy20_17 => ((intro w hSw; (try dsimp only at hSw); go_simp); (try with_reducible rfl))
            (try simp only [Act.put, List.getElem_toArray, List.getElem_cons_succ, List.getElem_cons_zero, List.setIfInBounds_toArray, List.set_cons_zero, List.set_cons_succ])
            refine wpAnyH_take (i := 21) (oi := _) (v := ?v21_18) rfl (by kernel_rfl) (by kernel_rfl) (by kernel_rfl) (fun _ _ _ h => h) (Or.inl ⟨by rfl, ?hy21_18⟩) (by with_reducible assumption) ?rest21_18
            case hy21_18 => ((intro w hSw; (try dsimp only at hSw); go_simp); (try with_reducible rfl))
            (try simp only [Act.put, List.getElem_toArray, List.getElem_cons_succ, List.getElem_cons_zero, List.setIfInBounds_toArray, List.set_cons_zero, List.set_cons_succ])
            refine wpAnyH_take (i := 22) (oi := _) (v := ?v22_19) rfl (by kernel_rfl) (by kernel_rfl) (by kernel_rfl) (fun _ _ _ h => h) (Or.inl ⟨by rfl, ?hy22_19⟩) (by with_reducible assumption) ?rest22_19
            case hy22_19 => ((intro w hSw; (try dsimp only at hSw); go_simp); (try with_reducible rfl))
            (try simp only [Act.put, List.getElem_toArray, List.getElem_cons_succ, List.getElem_cons_zero, List.setIfInBounds_toArray, List.set_cons_zero, List.set_cons_succ])
            refine wpAnyH_take (i := 23) (oi := _) (v := ?v23_20) rfl (by kernel_rfl) (by kernel_rfl) (by kernel_rfl) (fun _ _ _ h => h) (Or.inl ⟨by rfl, ?hy23_20⟩) (by with_reducible assumption) ?rest23_20
            case hy23_20 => ((intro w hSw; (try dsimp only at hSw); go_simp); (try with_reducible rfl))
            (try simp only [Act.put, List.getElem_toArray, List.getElem_cons_succ, List.getElem_cons_zero, List.setIfInBounds_toArray, List.set_cons_zero, List.set_cons_succ])
            refine wpAnyH_take (i := 24) (oi := _) (v := ?v24_21) rfl (by kernel_rfl) (by kernel_rfl) (by kernel_rfl) (fun _ _ _ h => h) (Or.inl ⟨by rfl, ?hy24_21⟩) (by with_reducible assumption) ?rest24_21
            case hy24_21 => ((intro w hSw; (try dsimp only at hSw); go_simp); (try with_reducible rfl))
            (try simp only [Act.put, List.getElem_toArray, List.getElem_cons_succ, List.getElem_cons_zero, List.setIfInBounds_toArray, List.set_cons_zero, List.set_cons_succ])
            refine wpAnyH_take (i := 25) (oi := _) (v := ?v25_22) rfl (by kernel_rfl) (by kernel_rfl) (by kernel_rfl) (fun _ _ _ h => h) (Or.inl ⟨by rfl, ?hy25_22⟩) (by with_reducible assumption) ?rest25_22
            case hy25_22 => ((intro w hSw; (try dsimp only at hSw); go_simp); (try with_reducible rfl))
            (try simp only [Act.put, List.getElem_toArray, List.getElem_cons_succ, List.getElem_cons_zero, List.setIfInBounds_toArray, List.set_cons_zero, List.set_cons_succ])
            refine wpAnyH_take (i := 26) (oi := _) (v := ?v26_23) rfl (by kernel_rfl) (by kernel_rfl) (by kernel_rfl) (fun _ _ _ h => h) (Or.inl ⟨by rfl, ?hy26_23⟩) (by with_reducible assumption) ?rest26_23
            case hy26_23 => ((intro w hSw; (try dsimp only at hSw); go_simp); (try with_reducible rfl))
            (try simp only [Act.put, List.getElem_toArray, List.getElem_cons_succ, List.getElem_cons_zero, List.setIfInBounds_toArray, List.set_cons_zero, List.set_cons_succ])
            refine wpAnyH_take (i := 27) (oi := _) (v := ?v27_24) rfl (by kernel_rfl) (by kernel_rfl) (by kernel_rfl) (fun _ _ _ h => h) (Or.inl ⟨by rfl, ?hy27_24⟩) (by with_reducible assumption) ?rest27_24
            case hy27_24 => ((intro w hSw; (try dsimp only at hSw); go_simp); (try with_reducible rfl))
            (try simp only [Act.put, List.getElem_toArray, List.getElem_cons_succ, List.getElem_cons_zero, List.setIfInBounds_toArray, List.set_cons_zero, List.set_cons_succ])
            refine wpAnyH_take (i := 28) (oi := _) (v := ?v28_25) rfl (by kernel_rfl) (by kernel_rfl) (by kernel_rfl) (fun _ _ _ h => h) (Or.inl ⟨by rfl, ?hy28_25⟩) (by with_reducible assumption) ?rest28_25
            case hy28_25 => ((intro w hSw; (try dsimp only at hSw); go_simp); (try with_reducible rfl))
            (try simp only [Act.put, List.getElem_toArray, List.getElem_cons_succ, List.getElem_cons_zero, List.setIfInBounds_toArray, List.set_cons_zero, List.set_cons_succ])
            refine wpAnyH_take (i := 29) (oi := _) (v := ?v29_26) rfl (by kernel_rfl) (by kernel_rfl) (by kernel_rfl) (fun _ _ _ h => h) (Or.inl ⟨by rfl, ?hy29_26⟩) (by with_reducible assumption) ?rest29_26
            case hy29_26 => ((intro w hSw; (try dsimp only at hSw); go_simp); (try with_reducible rfl))
            (try simp only [Act.put, List.getElem_toArray, List.getElem_cons_succ, List.getElem_cons_zero, List.setIfInBounds_toArray, List.set_cons_zero, List.set_cons_succ])
            refine wpAnyH_take (i := 30) (oi := _) (v := ?v30_27) rfl (by kernel_rfl) (by kernel_rfl) (by kernel_rfl) (fun _ _ _ h => h) (Or.inl ⟨by rfl, ?hy30_27⟩) (by with_reducible assumption) ?rest30_27
            case hy30_27 => ((intro w hSw; (try dsimp only at hSw); go_simp); (try with_reducible rfl))
            (try simp only [Act.put, List.getElem_toArray, List.getElem_cons_succ, List.getElem_cons_zero, List.setIfInBounds_toArray, List.set_cons_zero, List.set_cons_succ])
            refine wpAnyH_take (i := 31) (oi := _) (v := ?v31_28) rfl (by kernel_rfl) (by kernel_rfl) (by kernel_rfl) (fun _ _ _ h => h) (Or.inl ⟨by rfl, ?hy31_28⟩) (by with_reducible assumption) ?rest31_28
            case hy31_28 => ((intro w hSw; (try dsimp only at hSw); go_simp); (try with_reducible rfl))
            (try simp only [Act.put, List.getElem_toArray, List.getElem_cons_succ, List.getElem_cons_zero, List.setIfInBounds_toArray, List.set_cons_zero, List.set_cons_succ])
            refine wpAnyH_take (i := 32) (oi := _) (v := ?v32_29) rfl (by kernel_rfl) (by kernel_rfl) (by kernel_rfl) (fun _ _ _ h => h) (Or.inl ⟨by rfl, ?hy32_29⟩) (by with_reducible assumption) ?rest32_29
            case hy32_29 => ((intro w hSw; (try dsimp only at hSw); go_simp); (try with_reducible rfl))
            (try simp only [Act.put, List.getElem_toArray, List.getElem_cons_succ, List.getElem_cons_zero, List.setIfInBounds_toArray, List.set_cons_zero, List.set_cons_succ])
            refine wpAnyH_take (i := 33) (oi := _) (v := ?v33_30) rfl (by kernel_rfl) (by kernel_rfl) (by kernel_rfl) (fun _ _ _ h => h) (Or.inl ⟨by rfl, ?hy33_30⟩) (by with_reducible assumption) ?rest33_30
            case hy33_30 => ((intro w hSw; (try dsimp only at hSw); go_simp); (try with_reducible rfl))
            (try simp only [Act.put, List.getElem_toArray, List.getElem_cons_succ, List.getElem_cons_zero, List.setIfInBounds_toArray, List.set_cons_zero, List.set_cons_succ])
            refine wpAnyH_take (i := 34) (oi := _) (v := ?v34_31) rfl (by kernel_rfl) (by kernel_rfl) (by kernel_rfl) (fun _ _ _ h => h) (Or.inl ⟨by rfl, ?hy34_31⟩) (by with_reducible assumption) ?rest34_31
            case hy34_31 => ((intro w hSw; (try dsimp only at hSw); go_simp); (try with_reducible rfl))
            (try simp only [Act.put, List.getElem_toArray, List.getElem_cons_succ, List.getElem_cons_zero, List.setIfInBounds_toArray, List.set_cons_zero, List.set_cons_succ])
            refine wpAnyH_take (i := 35) (oi := _) (v := ?v35_32) rfl (by kernel_rfl) (by kernel_rfl) (by kernel_rfl) (fun _ _ _ h => h) (Or.inl ⟨by rfl, ?hy35_32⟩) (by with_reducible assumption) ?rest35_32
            case hy35_32 => ((intro w hSw; (try dsimp only at hSw); go_simp); (try with_reducible rfl))
            (try simp only [Act.put, List.getElem_toArray, List.getElem_cons_succ, List.getElem_cons_zero, List.setIfInBounds_toArray, List.set_cons_zero, List.set_cons_succ])
            refine wpAnyH_take (i := 36) (oi := _) (v := ?v36_33) rfl (by kernel_rfl) (by kernel_rfl) (by kernel_rfl) (fun _ _ _ h => h) (Or.inl ⟨by rfl, ?hy36_33⟩) (by with_reducible assumption) ?rest36_33
            case hy36_33 => ((intro w hSw; (try dsimp only at hSw); go_simp); (try with_reducible rfl))
            (try simp only [Act.put, List.getElem_toArray, List.getElem_cons_succ, List.getElem_cons_zero, List.setIfInBounds_toArray, List.set_cons_zero, List.set_cons_succ])
            refine wpAnyH_take (i := 37) (oi := _) (v := ?v37_34) rfl (by kernel_rfl) (by kernel_rfl) (by kernel_rfl) (fun _ _ _ h => h) (Or.inl ⟨by rfl, ?hy37_34⟩) (by with_reducible assumption) ?rest37_34
            case hy37_34 => ((intro w hSw; (try dsimp only at hSw); go_simp); (try with_reducible rfl))
            (try simp only [Act.put, List.getElem_toArray, List.getElem_cons_succ, List.getElem_cons_zero, List.setIfInBounds_toArray, List.set_cons_zero, List.set_cons_succ])
            refine wpAnyH_take (i := 38) (oi := _) (v := ?v38_35) rfl (by kernel_rfl) (by kernel_rfl) (by kernel_rfl) (fun _ _ _ h => h) (Or.inl ⟨by rfl, ?hy38_35⟩) (by with_reducible assumption) ?rest38_35
            case hy38_35 => ((intro w hSw; (try dsimp only at hSw); go_simp); (try with_reducible rfl))
            (try simp only [Act.put, List.getElem_toArray, List.getElem_cons_succ, List.getElem_cons_zero, List.setIfInBounds_toArray, List.set_cons_zero, List.set_cons_succ])
            refine wpAnyH_done (by kernel_rfl) (NoPanic.normal ?_) _
            go_wp2_with fail
            go_meet
            exact ⟨by first | rfl | simp, (by assumption : _ ∧ Below w4.heap.size w4 _).2⟩
        case true =>
          go_wp2_with fail
          refine (Y2.out _).mono ?_
          rintro e w2 ⟨rfl, hb2⟩
          have hz2 := hb2.size
          (try simp at hz2)
          have rs_2 : w2.heap[w1.heap.size]? = some (.cells #[.int .i64 u, .string d, .int .i64 (k : Int), .bool f, .bool fs, .bool true] 26 (0, 0)) := (hb2.block _ (by first | (simp; done) | (simp; omega))).trans (by repeat (first | exact heap_new _ _ _ (by first | rfl | (simp; done) | (simp; omega)) | refine (Below.heap_alloc _ _ _ (by first | omega | (simp; done) | (simp; omega))).trans ?_))
          have hw2 : Below w.heap.size w w2 := (by repeat (first | with_reducible exact Below.refl _ _ | with_reducible assumption | with_reducible refine Below.drew ?_ | with_reducible refine Below.alloc ?_ (by first | exact Nat.le_refl _ | omega | (simp; done) | (simp; omega)) _ | with_reducible refine Below.setCell ?_ (by first | exact Nat.le_refl _ | omega | (simp; done) | (simp; omega)) _ | (with_reducible refine ext_trans ?_ (by with_reducible assumption))))
          have lRs_2 : w1.heap.size < w2.heap.size := by omega
          have Rs_2 := Lib.hid rs_2
          have r0_rs_2 := cell_of_row _ _ 0 _ _ _ rs_2
          have r1_rs_2 := cell_of_row _ _ 1 _ _ _ rs_2
          have r2_rs_2 := cell_of_row _ _ 2 _ _ _ rs_2
          have r3_rs_2 := cell_of_row _ _ 3 _ _ _ rs_2
          have r4_rs_2 := cell_of_row _ _ 4 _ _ _ rs_2
          have r5_rs_2 := cell_of_row _ _ 5 _ _ _ rs_2
          have f0_rs_2 := frozen_of_row _ _ 0 _ _ rs_2
          have f1_rs_2 := frozen_of_row _ _ 1 _ _ rs_2
          have f2_rs_2 := frozen_of_row _ _ 2 _ _ rs_2
          have f3_rs_2 := frozen_of_row _ _ 3 _ _ rs_2
          have f4_rs_2 := frozen_of_row _ _ 4 _ _ rs_2
          have f5_rs_2 := frozen_of_row _ _ 5 _ _ rs_2
          simp at r0_rs_2 r1_rs_2 r2_rs_2 r3_rs_2 r4_rs_2 r5_rs_2
          clear rs_2
          go_wp2_with fail
          refine (Y1.out _).mono ?_
          rintro e w3 ⟨rfl, hb3⟩
          have hz3 := hb3.size
          (try simp at hz3)
          have rs_3 := (hb3.block _ (by first | omega | (simp; done) | (simp; omega))).trans ((Below.heap_alloc _ _ _ (by first | exact lRs_2 | (simp; omega))).trans Rs_2.out)
          have rx_3 : w3.heap[w2.heap.size]? = some (.cells #[.int .i64 Q1, .string (d.extract k d.size), .int .i64 Q3, .bool f, .bool Q4, .bool true] 26 (0, 0)) := (hb3.block _ (by first | (simp; done) | (simp; omega))).trans (by repeat (first | exact heap_new _ _ _ (by first | rfl | (simp; done) | (simp; omega)) | refine (Below.heap_alloc _ _ _ (by first | omega | (simp; done) | (simp; omega))).trans ?_))
          have hw3 : Below w.heap.size w w3 := (by repeat (first | with_reducible exact Below.refl _ _ | with_reducible assumption | with_reducible refine Below.drew ?_ | with_reducible refine Below.alloc ?_ (by first | exact Nat.le_refl _ | omega | (simp; done) | (simp; omega)) _ | with_reducible refine Below.setCell ?_ (by first | exact Nat.le_refl _ | omega | (simp; done) | (simp; omega)) _ | (with_reducible refine ext_trans ?_ (by with_reducible assumption))))
          have lRs_3 : w1.heap.size < w3.heap.size := by omega
          have lRx_3 : w2.heap.size < w3.heap.size := by omega
          have Rs_3 := Lib.hid rs_3
          have r0_rs_3 := cell_of_row _ _ 0 _ _ _ rs_3
          have r1_rs_3 := cell_of_row _ _ 1 _ _ _ rs_3
          have r2_rs_3 := cell_of_row _ _ 2 _ _ _ rs_3
          have r3_rs_3 := cell_of_row _ _ 3 _ _ _ rs_3
          have r4_rs_3 := cell_of_row _ _ 4 _ _ _ rs_3
          have r5_rs_3 := cell_of_row _ _ 5 _ _ _ rs_3
          have f0_rs_3 := frozen_of_row _ _ 0 _ _ rs_3
          have f1_rs_3 := frozen_of_row _ _ 1 _ _ rs_3
          have f2_rs_3 := frozen_of_row _ _ 2 _ _ rs_3
          have f3_rs_3 := frozen_of_row _ _ 3 _ _ rs_3
          have f4_rs_3 := frozen_of_row _ _ 4 _ _ rs_3
          have f5_rs_3 := frozen_of_row _ _ 5 _ _ rs_3
          simp at r0_rs_3 r1_rs_3 r2_rs_3 r3_rs_3 r4_rs_3 r5_rs_3
          clear rs_3
          have Rx_3 := Lib.hid rx_3
          have r0_rx_3 := cell_of_row _ _ 0 _ _ _ rx_3
          have r1_rx_3 := cell_of_row _ _ 1 _ _ _ rx_3
          have r2_rx_3 := cell_of_row _ _ 2 _ _ _ rx_3
          have r3_rx_3 := cell_of_row _ _ 3 _ _ _ rx_3
          have r4_rx_3 := cell_of_row _ _ 4 _ _ _ rx_3
          have r5_rx_3 := cell_of_row _ _ 5 _ _ _ rx_3
          have f0_rx_3 := frozen_of_row _ _ 0 _ _ rx_3
          have f1_rx_3 := frozen_of_row _ _ 1 _ _ rx_3
          have f2_rx_3 := frozen_of_row _ _ 2 _ _ rx_3
          have f3_rx_3 := frozen_of_row _ _ 3 _ _ rx_3
          have f4_rx_3 := frozen_of_row _ _ 4 _ _ rx_3
          have f5_rx_3 := frozen_of_row _ _ 5 _ _ rx_3
          simp at r0_rx_3 r1_rx_3 r2_rx_3 r3_rx_3 r4_rx_3 r5_rx_3
          clear rx_3
          clear r0_rs_2 f0_rs_2 r1_rs_2 f1_rs_2 r2_rs_2 f2_rs_2 r3_rs_2 f3_rs_2 r4_rs_2 f4_rs_2 r5_rs_2 f5_rs_2
          go_wp2_with fail
          refine (Y3.out _).mono ?_
          rintro e w' ⟨rfl, rfl⟩
          go_wp2_with fail
          have hb4 : Below w3.heap.size w3 (w3.alloc (.cells #[.int .i64 Q1, .string (d.extract k d.size), .int .i64 Q3, .bool f, .bool Q4, .bool true] 26)) := (by repeat (first | with_reducible exact Below.refl _ _ | with_reducible assumption | with_reducible refine Below.drew ?_ | with_reducible refine Below.alloc ?_ (by first | exact Nat.le_refl _ | omega | (simp; done) | (simp; omega)) _ | with_reducible refine Below.setCell ?_ (by first | exact Nat.le_refl _ | omega | (simp; done) | (simp; omega)) _ | (with_reducible refine ext_trans ?_ (by with_reducible assumption))))
          have ry_4 : (w3.alloc (.cells #[.int .i64 Q1, .string (d.extract k d.size), .int .i64 Q3, .bool f, .bool Q4, .bool true] 26)).heap[w3.heap.size]? = some (.cells #[.int .i64 Q1, .string (d.extract k d.size), .int .i64 Q3, .bool f, .bool Q4, .bool true] 26 (0, 0)) := (by repeat (first | exact heap_new _ _ _ (by first | rfl | (simp; done) | (simp; omega)) | refine (Below.heap_alloc _ _ _ (by first | omega | (simp; done) | (simp; omega))).trans ?_))
          have lNy_4 : w3.heap.size < (w3.alloc (.cells #[.int .i64 Q1, .string (d.extract k d.size), .int .i64 Q3, .bool f, .bool Q4, .bool true] 26)).heap.size := by simp
          generalize (w3.alloc (.cells #[.int .i64 Q1, .string (d.extract k d.size), .int .i64 Q3, .bool f, .bool Q4, .bool true] 26)) = w4 at *
          have hz4 := hb4.size
          (try simp at hz4)
          have rs_4 := (hb4.block _ (by first | omega | (simp; done) | (simp; omega))).trans Rs_3.out
          have rx_4 := (hb4.block _ (by first | omega | (simp; done) | (simp; omega))).trans Rx_3.out
          have hw4 : Below w.heap.size w w4 := (by repeat (first | with_reducible exact Below.refl _ _ | with_reducible assumption | with_reducible refine Below.drew ?_ | with_reducible refine Below.alloc ?_ (by first | exact Nat.le_refl _ | omega | (simp; done) | (simp; omega)) _ | with_reducible refine Below.setCell ?_ (by first | exact Nat.le_refl _ | omega | (simp; done) | (simp; omega)) _ | (with_reducible refine ext_trans ?_ (by with_reducible assumption))))
          have lRs_4 : w1.heap.size < w4.heap.size := by omega
          have lRx_4 : w2.heap.size < w4.heap.size := by omega
          have lRy_4 : w3.heap.size < w4.heap.size := by omega
          have Rs_4 := Lib.hid rs_4
          have r0_rs_4 := cell_of_row _ _ 0 _ _ _ rs_4
          have r1_rs_4 := cell_of_row _ _ 1 _ _ _ rs_4
          have r2_rs_4 := cell_of_row _ _ 2 _ _ _ rs_4
          have r3_rs_4 := cell_of_row _ _ 3 _ _ _ rs_4
          have r4_rs_4 := cell_of_row _ _ 4 _ _ _ rs_4
          have r5_rs_4 := cell_of_row _ _ 5 _ _ _ rs_4
          have f0_rs_4 := frozen_of_row _ _ 0 _ _ rs_4
          have f1_rs_4 := frozen_of_row _ _ 1 _ _ rs_4
          have f2_rs_4 := frozen_of_row _ _ 2 _ _ rs_4
          have f3_rs_4 := frozen_of_row _ _ 3 _ _ rs_4
          have f4_rs_4 := frozen_of_row _ _ 4 _ _ rs_4
          have f5_rs_4 := frozen_of_row _ _ 5 _ _ rs_4
          simp at r0_rs_4 r1_rs_4 r2_rs_4 r3_rs_4 r4_rs_4 r5_rs_4
          clear rs_4
          have Rx_4 := Lib.hid rx_4
          have r0_rx_4 := cell_of_row _ _ 0 _ _ _ rx_4
          have r1_rx_4 := cell_of_row _ _ 1 _ _ _ rx_4
          have r2_rx_4 := cell_of_row _ _ 2 _ _ _ rx_4
          have r3_rx_4 := cell_of_row _ _ 3 _ _ _ rx_4
          have r4_rx_4 := cell_of_row _ _ 4 _ _ _ rx_4
          have r5_rx_4 := cell_of_row _ _ 5 _ _ _ rx_4
          have f0_rx_4 := frozen_of_row _ _ 0 _ _ rx_4
          have f1_rx_4 := frozen_of_row _ _ 1 _ _ rx_4
          have f2_rx_4 := frozen_of_row _ _ 2 _ _ rx_4
          have f3_rx_4 := frozen_of_row _ _ 3 _ _ rx_4
          have f4_rx_4 := frozen_of_row _ _ 4 _ _ rx_4
          have f5_rx_4 := frozen_of_row _ _ 5 _ _ rx_4
          simp at r0_rx_4 r1_rx_4 r2_rx_4 r3_rx_4 r4_rx_4 r5_rx_4
          clear rx_4
          have Ry_4 := Lib.hid ry_4
          have r0_ry_4 := cell_of_row _ _ 0 _ _ _ ry_4
          have r1_ry_4 := cell_of_row _ _ 1 _ _ _ ry_4
          have r2_ry_4 := cell_of_row _ _ 2 _ _ _ ry_4
          have r3_ry_4 := cell_of_row _ _ 3 _ _ _ ry_4
          have r4_ry_4 := cell_of_row _ _ 4 _ _ _ ry_4
          have r5_ry_4 := cell_of_row _ _ 5 _ _ _ ry_4
          have f0_ry_4 := frozen_of_row _ _ 0 _ _ ry_4
          have f1_ry_4 := frozen_of_row _ _ 1 _ _ ry_4
          have f2_ry_4 := frozen_of_row _ _ 2 _ _ ry_4
          have f3_ry_4 := frozen_of_row _ _ 3 _ _ ry_4
          have f4_ry_4 := frozen_of_row _ _ 4 _ _ ry_4
          have f5_ry_4 := frozen_of_row _ _ 5 _ _ ry_4
          simp at r0_ry_4 r1_ry_4 r2_ry_4 r3_ry_4 r4_ry_4 r5_ry_4
          clear ry_4
          clear r0_rs_3 f0_rs_3 r1_rs_3 f1_rs_3 r2_rs_3 f2_rs_3 r3_rs_3 f3_rs_3 r4_rs_3 f4_rs_3 r5_rs_3 f5_rs_3
          clear r0_rx_3 f0_rx_3 r1_rx_3 f1_rx_3 r2_rx_3 f2_rx_3 r3_rx_3 f3_rx_3 r4_rx_3 f4_rx_3 r5_rx_3 f5_rx_3
          go_wp2_with fail
          go_cut [2] (fun z wx => z = .bool true ∧ Below w4.heap.size w4 wx)
          case rest =>
            obtain ⟨rfl, hbz⟩ := hcut
            go_wp2_with fail
            go_ret
            exact ⟨rfl, hw4.trans (hbz.mono hw4.size)⟩
          case first =>
            refine wp_region_noPanic ?_
            refine wp_region_held_drew (S := (fun w' => (∀ b' o, b' < w4.heap.size → w'.cell? ⟨b', o, none⟩ = w4.cell? ⟨b', o, none⟩) ∧ Below w4.heap.size w4 w')) (by kernel_rfl) (by first | exact rg_start _) (fun hHeld => ?_)
            refine wpAnyH_take (i := 0) (oi := _) (v := ?v0_36) rfl (by kernel_rfl) (by kernel_rfl) (by kernel_rfl) (fun _ _ _ h => h) (Or.inl ⟨by rfl, ?hy0_36⟩) (by with_reducible assumption) ?rest0_36
            case hy0_36 => ((intro w hSw; (try dsimp only at hSw); go_simp); (try with_reducible rfl))
            (try simp only [Act.put, List.getElem_toArray, List.getElem_cons_succ, List.getElem_cons_zero, List.setIfInBounds_toArray, List.set_cons_zero, List.set_cons_succ])
            refine wpAnyH_ready (rs := [1]) (by kernel_rfl) (by simp) ?_
            refine AllReadyH.cons (o := _) rfl (fun K hK => ?_) AllReadyH.nil
            go_simp
            go_at_call 19; ((with_reducible refine (Y5.out _).mono ?_); (rintro e wq5 ⟨rfl, hbq5⟩; have hSq5 := rg_keepK (by with_reducible assumption) hbq5))
            go_wp2_with fail
            refine hK.out _ _ ?_ (fun hHeld => ?_)
            · (try dsimp only); (first | with_reducible assumption | (with_reducible apply rg_keep; rotate_left; with_reducible assumption; with_reducible assumption) | with_reducible exact rg_start _ | with_reducible exact rg_alloc (KeptS.out (by with_reducible assumption)) _ | with_reducible exact rg_alloc (by with_reducible assumption) _ | with_reducible exact rg_start_alloc _ _ | ((repeat (with_reducible refine rg_set ?_ _ (by first | exact Nat.le_refl _ | omega | (simp; done) | (simp; omega)) _)); first | with_reducible exact KeptS.out (by with_reducible assumption) | with_reducible assumption | with_reducible exact rg_alloc (KeptS.out (by with_reducible assumption)) _))
            clear hK K
            (try simp only [Act.put, List.getElem_toArray, List.getElem_cons_succ, List.getElem_cons_zero, List.setIfInBounds_toArray, List.set_cons_zero, List.set_cons_succ])
            refine wpAnyH_take (i := 2) (oi := _) (v := ?v2_37) rfl (by kernel_rfl) (by kernel_rfl) (by kernel_rfl) (fun _ _ _ h => h) (Or.inl ⟨by rfl, ?hy2_37⟩) (by with_reducible assumption) ?rest2_37
            case hy2_37 => ((intro w hSw; (try dsimp only at hSw); go_simp); (try with_reducible rfl))
            (try simp only [Act.put, List.getElem_toArray, List.getElem_cons_succ, List.getElem_cons_zero, List.setIfInBounds_toArray, List.set_cons_zero, List.set_cons_succ])
            refine wpAnyH_take (i := 3) (oi := _) (v := ?v3_38) rfl (by kernel_rfl) (by kernel_rfl) (by kernel_rfl) (fun _ _ _ h => h) (Or.inl ⟨by rfl, ?hy3_38⟩) (by with_reducible assumption) ?rest3_38
            case hy3_38 => ((intro w hSw; (try dsimp only at hSw); go_simp); (try with_reducible rfl))
            (try simp only [Act.put, List.getElem_toArray, List.getElem_cons_succ, List.getElem_cons_zero, List.setIfInBounds_toArray, List.set_cons_zero, List.set_cons_succ])
            refine wpAnyH_take (i := 4) (oi := _) (v := ?v4_39) rfl (by kernel_rfl) (by kernel_rfl) (by kernel_rfl) (fun _ _ _ h => h) (Or.inl ⟨by rfl, ?hy4_39⟩) (by with_reducible assumption) ?rest4_39
            case hy4_39 => ((intro w hSw; (try dsimp only at hSw); go_simp); (try with_reducible rfl))
            (try simp only [Act.put, List.getElem_toArray, List.getElem_cons_succ, List.getElem_cons_zero, List.setIfInBounds_toArray, List.set_cons_zero, List.set_cons_succ])
            refine wpAnyH_take (i := 5) (oi := _) (v := ?v5_40) rfl (by kernel_rfl) (by kernel_rfl) (by kernel_rfl) (fun _ _ _ h => h) (Or.inl ⟨by rfl, ?hy5_40⟩) (by with_reducible assumption) ?rest5_40
            case hy5_40 => ((intro w hSw; (try dsimp only at hSw); go_simp); (try with_reducible rfl))
            (try simp only [Act.put, List.getElem_toArray, List.getElem_cons_succ, List.getElem_cons_zero, List.setIfInBounds_toArray, List.set_cons_zero, List.set_cons_succ])
            refine wpAnyH_ready (rs := [6]) (by kernel_rfl) (by simp) ?_
            refine AllReadyH.cons (o := _) rfl (fun K hK => ?_) AllReadyH.nil
            go_simp
            go_at_call 41; ((with_reducible refine (Y4.out _).mono ?_); rintro e w' ⟨rfl, rfl⟩)
            go_wp2_with fail
            refine hK.out _ _ ?_ (fun hHeld => ?_)
            · (try dsimp only); (first | with_reducible assumption | (with_reducible apply rg_keep; rotate_left; with_reducible assumption; with_reducible assumption) | with_reducible exact rg_start _ | with_reducible exact rg_alloc (KeptS.out (by with_reducible assumption)) _ | with_reducible exact rg_alloc (by with_reducible assumption) _ | with_reducible exact rg_start_alloc _ _ | ((repeat (with_reducible refine rg_set ?_ _ (by first | exact Nat.le_refl _ | omega | (simp; done) | (simp; omega)) _)); first | with_reducible exact KeptS.out (by with_reducible assumption) | with_reducible assumption | with_reducible exact rg_alloc (KeptS.out (by with_reducible assumption)) _))
            clear hK K
            (try simp only [Act.put, List.getElem_toArray, List.getElem_cons_succ, List.getElem_cons_zero, List.setIfInBounds_toArray, List.set_cons_zero, List.set_cons_succ])
            refine wpAnyH_take (i := 7) (oi := _) (v := ?v7_41) rfl (by kernel_rfl) (by kernel_rfl) (by kernel_rfl) (fun _ _ _ h => h) (Or.inl ⟨by rfl, ?hy7_41⟩) (by with_reducible assumption) ?rest7_41
            case hy7_41 => ((intro w hSw; (try dsimp only at hSw); go_simp); (try with_reducible rfl))
            (try simp only [Act.put, List.getElem_toArray, List.getElem_cons_succ, List.getElem_cons_zero, List.setIfInBounds_toArray, List.set_cons_zero, List.set_cons_succ])
            refine wpAnyH_take (i := 8) (oi := _) (v := ?v8_42) rfl (by kernel_rfl) (by kernel_rfl) (by kernel_rfl) (fun _ _ _ h => h) (Or.inl ⟨by rfl, ?hy8_42⟩) (by with_reducible assumption) ?rest8_42
            case hy8_42 => ((intro w hSw; (try dsimp only at hSw); go_simp); (try with_reducible rfl))
            (try simp only [Act.put, List.getElem_toArray, List.getElem_cons_succ, List.getElem_cons_zero, List.setIfInBounds_toArray, List.set_cons_zero, List.set_cons_succ])
            refine wpAnyH_take (i := 9) (oi := _) (v := ?v9_43) rfl (by kernel_rfl) (by kernel_rfl) (by kernel_rfl) (fun _ _ _ h => h) (Or.inl ⟨by rfl, ?hy9_43⟩) (by with_reducible assumption) ?rest9_43
            case hy9_43 => ((intro w hSw; (try dsimp only at hSw); go_simp); (try with_reducible rfl))
            (try simp only [Act.put, List.getElem_toArray, List.getElem_cons_succ, List.getElem_cons_zero, List.setIfInBounds_toArray, List.set_cons_zero, List.set_cons_succ])
            refine wpAnyH_take (i := 10) (oi := _) (v := ?v10_44) rfl (by kernel_rfl) (by kernel_rfl) (by kernel_rfl) (fun _ _ _ h => h) (Or.inl ⟨by rfl, ?hy10_44⟩) (by with_reducible assumption) ?rest10_44
            case hy10_44 => ((intro w hSw; (try dsimp only at hSw); go_simp); (try with_reducible rfl))
            (try simp only [Act.put, List.getElem_toArray, List.getElem_cons_succ, List.getElem_cons_zero, List.setIfInBounds_toArray, List.set_cons_zero, List.set_cons_succ])
            refine wpAnyH_take (i := 12) (oi := _) (v := ?v12_45) rfl (by kernel_rfl) (by kernel_rfl) (by kernel_rfl) (fun _ _ _ h => h) (Or.inl ⟨by rfl, ?hy12_45⟩) (by with_reducible assumption) ?rest12_45
            case hy12_45 => ((intro w hSw; (try dsimp only at hSw); go_simp); (try with_reducible rfl))
            (try simp only [Act.put, List.getElem_toArray, List.getElem_cons_succ, List.getElem_cons_zero, List.setIfInBounds_toArray, List.set_cons_zero, List.set_cons_succ])
            refine wpAnyH_ready (rs := [11]) (by kernel_rfl) (by simp) ?_
            refine AllReadyH.cons (o := _) rfl (fun K hK => ?_) AllReadyH.nil
            go_simp
            go_at_call 17; ((with_reducible refine (Y6.out _).mono ?_); (rintro e wq7 ⟨rfl, hbq7⟩; have hSq7 := rg_keepK (by with_reducible assumption) hbq7))
            go_wp2_with fail
            refine hK.out _ _ ?_ (fun hHeld => ?_)
            · (try dsimp only); (first | with_reducible assumption | (with_reducible apply rg_keep; rotate_left; with_reducible assumption; with_reducible assumption) | with_reducible exact rg_start _ | with_reducible exact rg_alloc (KeptS.out (by with_reducible assumption)) _ | with_reducible exact rg_alloc (by with_reducible assumption) _ | with_reducible exact rg_start_alloc _ _ | ((repeat (with_reducible refine rg_set ?_ _ (by first | exact Nat.le_refl _ | omega | (simp; done) | (simp; omega)) _)); first | with_reducible exact KeptS.out (by with_reducible assumption) | with_reducible assumption | with_reducible exact rg_alloc (KeptS.out (by with_reducible assumption)) _))
            clear hK K
            (try simp only [Act.put, List.getElem_toArray, List.getElem_cons_succ, List.getElem_cons_zero, List.setIfInBounds_toArray, List.set_cons_zero, List.set_cons_succ])
            refine wpAnyH_ready (rs := [13]) (by kernel_rfl) (by simp) ?_
            refine AllReadyH.cons (o := _) rfl (fun K hK => ?_) AllReadyH.nil
            go_simp
            go_at_call 17; ((with_reducible refine (Y7.out _).mono ?_); (rintro e wq8 ⟨rfl, hbq8⟩; have hSq8 := rg_keepK (by with_reducible assumption) hbq8))
            go_wp2_with fail
            refine hK.out _ _ ?_ (fun hHeld => ?_)
            · (try dsimp only); (first | with_reducible assumption | (with_reducible apply rg_keep; rotate_left; with_reducible assumption; with_reducible assumption) | with_reducible exact rg_start _ | with_reducible exact rg_alloc (KeptS.out (by with_reducible assumption)) _ | with_reducible exact rg_alloc (by with_reducible assumption) _ | with_reducible exact rg_start_alloc _ _ | ((repeat (with_reducible refine rg_set ?_ _ (by first | exact Nat.le_refl _ | omega | (simp; done) | (simp; omega)) _)); first | with_reducible exact KeptS.out (by with_reducible assumption) | with_reducible assumption | with_reducible exact rg_alloc (KeptS.out (by with_reducible assumption)) _))
            clear hK K
            (try simp only [Act.put, List.getElem_toArray, List.getElem_cons_succ, List.getElem_cons_zero, List.setIfInBounds_toArray, List.set_cons_zero, List.set_cons_succ])
            refine wpAnyH_take (i := 14) (oi := _) (v := ?v14_46) rfl (by kernel_rfl) (by kernel_rfl) (by kernel_rfl) (fun _ _ _ h => h) (Or.inl ⟨by rfl, ?hy14_46⟩) (by with_reducible assumption) ?rest14_46
            case hy14_46 => ((intro w hSw; (try dsimp only at hSw); go_simp); (try with_reducible rfl))
            (try simp only [Act.put, List.getElem_toArray, List.getElem_cons_succ, List.getElem_cons_zero, List.setIfInBounds_toArray, List.set_cons_zero, List.set_cons_succ])
            refine wpAnyH_take (i := 15) (oi := _) (v := ?v15_47) rfl (by kernel_rfl) (by kernel_rfl) (by kernel_rfl) (fun _ _ _ h => h) (Or.inl ⟨by rfl, ?hy15_47⟩) (by with_reducible assumption) ?rest15_47
            case hy15_47 => ((intro w hSw; (try dsimp only at hSw); go_simp); (try with_reducible rfl))
            (try simp only [Act.put, List.getElem_toArray, List.getElem_cons_succ, List.getElem_cons_zero, List.setIfInBounds_toArray, List.set_cons_zero, List.set_cons_succ])
            refine wpAnyH_take (i := 16) (oi := _) (v := ?v16_48) rfl (by kernel_rfl) (by kernel_rfl) (by kernel_rfl) (fun _ _ _ h => h) (Or.inl ⟨by rfl, ?hy16_48⟩) (by with_reducible assumption) ?rest16_48
            case hy16_48 => ((intro w hSw; (try dsimp only at hSw); go_simp); (try with_reducible rfl))
            (try simp only [Act.put, List.getElem_toArray, List.getElem_cons_succ, List.getElem_cons_zero, List.setIfInBounds_toArray, List.set_cons_zero, List.set_cons_succ])
            refine wpAnyH_take (i := 17) (oi := _) (v := ?v17_49) rfl (by kernel_rfl) (by kernel_rfl) (by kernel_rfl) (fun _ _ _ h => h) (Or.inl ⟨by rfl, ?hy17_49⟩) (by with_reducible assumption) ?rest17_49
            case hy17_49 => ((intro w hSw; (try dsimp only at hSw); go_simp); (try with_reducible rfl))
            (try simp only [Act.put, List.getElem_toArray, List.getElem_cons_succ, List.getElem_cons_zero, List.setIfInBounds_toArray, List.set_cons_zero, List.set_cons_succ])
            refine wpAnyH_take (i := 18) (oi := _) (v := ?v18_50) rfl (by kernel_rfl) (by kernel_rfl) (by kernel_rfl) (fun _ _ _ h => h) (Or.inl ⟨by rfl, ?hy18_50⟩) (by with_reducible assumption) ?rest18_50
            case hy18_50 => ((intro w hSw; (try dsimp only at hSw); go_simp); (try with_reducible rfl))
            (try simp only [Act.put, List.getElem_toArray, List.getElem_cons_succ, List.getElem_cons_zero, List.setIfInBounds_toArray, List.set_cons_zero, List.set_cons_succ])
            refine wpAnyH_take (i := 19) (oi := _) (v := ?v19_51) rfl (by kernel_rfl) (by kernel_rfl) (by kernel_rfl) (fun _ _ _ h => h) (Or.inl ⟨by rfl, ?hy19_51⟩) (by with_reducible assumption) ?rest19_51
            case hy19_51 => ((intro w hSw; (try dsimp only at hSw); go_simp); (try with_reducible rfl))
            (try simp only [Act.put, List.getElem_toArray, List.getElem_cons_succ, List.getElem_cons_zero, List.setIfInBounds_toArray, List.set_cons_zero, List.set_cons_succ])
            refine wpAnyH_take (i := 20) (oi := _) (v := ?v20_52) rfl (by kernel_rfl) (by kernel_rfl) (by kernel_rfl) (fun _ _ _ h => h) (Or.inl ⟨by rfl, ?hy20_52⟩) (by with_reducible assumption) ?rest20_52
            case hy20_52 => ((intro w hSw; (try dsimp only at hSw); go_simp); (try with_reducible rfl))
            (try simp only [Act.put, List.getElem_toArray, List.getElem_cons_succ, List.getElem_cons_zero, List.setIfInBounds_toArray, List.set_cons_zero, List.set_cons_succ])
            refine wpAnyH_take (i := 21) (oi := _) (v := ?v21_53) rfl (by kernel_rfl) (by kernel_rfl) (by kernel_rfl) (fun _ _ _ h => h) (Or.inl ⟨by rfl, ?hy21_53⟩) (by with_reducible assumption) ?rest21_53
            case hy21_53 => ((intro w hSw; (try dsimp only at hSw); go_simp); (try with_reducible rfl))
            (try simp only [Act.put, List.getElem_toArray, List.getElem_cons_succ, List.getElem_cons_zero, List.setIfInBounds_toArray, List.set_cons_zero, List.set_cons_succ])
            refine wpAnyH_take (i := 22) (oi := _) (v := ?v22_54) rfl (by kernel_rfl) (by kernel_rfl) (by kernel_rfl) (fun _ _ _ h => h) (Or.inl ⟨by rfl, ?hy22_54⟩) (by with_reducible assumption) ?rest22_54
            case hy22_54 => ((intro w hSw; (try dsimp only at hSw); go_simp); (try with_reducible rfl))
            (try simp only [Act.put, List.getElem_toArray, List.getElem_cons_succ, List.getElem_cons_zero, List.setIfInBounds_toArray, List.set_cons_zero, List.set_cons_succ])
            refine wpAnyH_take (i := 23) (oi := _) (v := ?v23_55) rfl (by kernel_rfl) (by kernel_rfl) (by kernel_rfl) (fun _ _ _ h => h) (Or.inl ⟨by rfl, ?hy23_55⟩) (by with_reducible assumption) ?rest23_55
            case hy23_55 => ((intro w hSw; (try dsimp only at hSw); go_simp); (try with_reducible rfl))
            (try simp only [Act.put, List.getElem_toArray, List.getElem_cons_succ, List.getElem_cons_zero, List.setIfInBounds_toArray, List.set_cons_zero, List.set_cons_succ])
            refine wpAnyH_take (i := 24) (oi := _) (v := ?v24_56) rfl (by kernel_rfl) (by kernel_rfl) (by kernel_rfl) (fun _ _ _ h => h) (Or.inl ⟨by rfl, ?hy24_56⟩) (by with_reducible assumption) ?rest24_56
            case hy24_56 => ((intro w hSw; (try dsimp only at hSw); go_simp); (try with_reducible rfl))
            (try simp only [Act.put, List.getElem_toArray, List.getElem_cons_succ, List.getElem_cons_zero, List.setIfInBounds_toArray, List.set_cons_zero, List.set_cons_succ])
            refine wpAnyH_take (i := 25) (oi := _) (v := ?v25_57) rfl (by kernel_rfl) (by kernel_rfl) (by kernel_rfl) (fun _ _ _ h => h) (Or.inl ⟨by rfl, ?hy25_57⟩) (by with_reducible assumption) ?rest25_57
            case hy25_57 => ((intro w hSw; (try dsimp only at hSw); go_simp); (try with_reducible rfl))
            (try simp only [Act.put, List.getElem_toArray, List.getElem_cons_succ, List.getElem_cons_zero, List.setIfInBounds_toArray, List.set_cons_zero, List.set_cons_succ])
            refine wpAnyH_take (i := 26) (oi := _) (v := ?v26_58) rfl (by kernel_rfl) (by kernel_rfl) (by kernel_rfl) (fun _ _ _ h => h) (Or.inl ⟨by rfl, ?hy26_58⟩) (by with_reducible assumption) ?rest26_58
            case hy26_58 => ((intro w hSw; (try dsimp only at hSw); go_simp); (try with_reducible rfl))
            (try simp only [Act.put, List.getElem_toArray, List.getElem_cons_succ, List.getElem_cons_zero, List.setIfInBounds_toArray, List.set_cons_zero, List.set_cons_succ])
            refine wpAnyH_take (i := 27) (oi := _) (v := ?v27_59) rfl (by kernel_rfl) (by kernel_rfl) (by kernel_rfl) (fun _ _ _ h => h) (Or.inl ⟨by rfl, ?hy27_59⟩) (by with_reducible assumption) ?rest27_59
            case hy27_59 => ((intro w hSw; (try dsimp only at hSw); go_simp); (try with_reducible rfl))
            (try simp only [Act.put, List.getElem_toArray, List.getElem_cons_succ, List.getElem_cons_zero, List.setIfInBounds_toArray, List.set_cons_zero, List.set_cons_succ])
            refine wpAnyH_take (i := 28) (oi := _) (v := ?v28_60) rfl (by kernel_rfl) (by kernel_rfl) (by kernel_rfl) (fun _ _ _ h => h) (Or.inl ⟨by rfl, ?hy28_60⟩) (by with_reducible assumption) ?rest28_60
            case hy28_60 => ((intro w hSw; (try dsimp only at hSw); go_simp); (try with_reducible rfl))
            (try simp only [Act.put, List.getElem_toArray, List.getElem_cons_succ, List.getElem_cons_zero, List.setIfInBounds_toArray, List.set_cons_zero, List.set_cons_succ])
            refine wpAnyH_take (i := 29) (oi := _) (v := ?v29_61) rfl (by kernel_rfl) (by kernel_rfl) (by kernel_rfl) (fun _ _ _ h => h) (Or.inl ⟨by rfl, ?hy29_61⟩) (by with_reducible assumption) ?rest29_61
            case hy29_61 => ((intro w hSw; (try dsimp only at hSw); go_simp); (try with_reducible rfl))
            (try simp only [Act.put, List.getElem_toArray, List.getElem_cons_succ, List.getElem_cons_zero, List.setIfInBounds_toArray, List.set_cons_zero, List.set_cons_succ])
            refine wpAnyH_take (i := 30) (oi := _) (v := ?v30_62) rfl (by kernel_rfl) (by kernel_rfl) (by kernel_rfl) (fun _ _ _ h => h) (Or.inl ⟨by rfl, ?hy30_62⟩) (by with_reducible assumption) ?rest30_62
            case hy30_62 => ((intro w hSw; (try dsimp only at hSw); go_simp); (try with_reducible rfl))
            (try simp only [Act.put, List.getElem_toArray, List.getElem_cons_succ, List.getElem_cons_zero, List.setIfInBounds_toArray, List.set_cons_zero, List.set_cons_succ])
            refine wpAnyH_take (i := 31) (oi := _) (v := undef) rfl (by kernel_rfl) (by kernel_rfl) (by kernel_rfl) (fun _ _ _ h => h) (Or.inr ⟨by rfl, rfl⟩) (by with_reducible assumption) ?rest31_63
            (try simp only [Act.put, List.getElem_toArray, List.getElem_cons_succ, List.getElem_cons_zero, List.setIfInBounds_toArray, List.set_cons_zero, List.set_cons_succ])
            refine wpAnyH_take (i := 32) (oi := _) (v := undef) rfl (by kernel_rfl) (by kernel_rfl) (by kernel_rfl) (fun _ _ _ h => h) (Or.inr ⟨by rfl, rfl⟩) (by with_reducible assumption) ?rest32_64
            (try simp only [Act.put, List.getElem_toArray, List.getElem_cons_succ, List.getElem_cons_zero, List.setIfInBounds_toArray, List.set_cons_zero, List.set_cons_succ])
            refine wpAnyH_take (i := 33) (oi := _) (v := undef) rfl (by kernel_rfl) (by kernel_rfl) (by kernel_rfl) (fun _ _ _ h => h) (Or.inr ⟨by rfl, rfl⟩) (by with_reducible assumption) ?rest33_65
            (try simp only [Act.put, List.getElem_toArray, List.getElem_cons_succ, List.getElem_cons_zero, List.setIfInBounds_toArray, List.set_cons_zero, List.set_cons_succ])
            refine wpAnyH_take (i := 34) (oi := _) (v := undef) rfl (by kernel_rfl) (by kernel_rfl) (by kernel_rfl) (fun _ _ _ h => h) (Or.inr ⟨by rfl, rfl⟩) (by with_reducible assumption) ?rest34_66
            (try simp only [Act.put, List.getElem_toArray, List.getElem_cons_succ, List.getElem_cons_zero, List.setIfInBounds_toArray, List.set_cons_zero, List.set_cons_succ])
            refine wpAnyH_take (i := 35) (oi := _) (v := ?v35_67) rfl (by kernel_rfl) (by kernel_rfl) (by kernel_rfl) (fun _ _ _ h => h) (Or.inl ⟨by rfl, ?hy35_67⟩) (by with_reducible assumption) ?rest35_67
            case hy35_67 => ((intro w hSw; (try dsimp only at hSw); go_simp); (try with_reducible rfl))
            (try simp only [Act.put, List.getElem_toArray, List.getElem_cons_succ, List.getElem_cons_zero, List.setIfInBounds_toArray, List.set_cons_zero, List.set_cons_succ])
            refine wpAnyH_take (i := 36) (oi := _) (v := ?v36_68) rfl (by kernel_rfl) (by kernel_rfl) (by kernel_rfl) (fun _ _ _ h => h) (Or.inl ⟨by rfl, ?hy36_68⟩) (by with_reducible assumption) ?rest36_68
            case hy36_68 => ((intro w hSw; (try dsimp only at hSw); go_simp); (try with_reducible rfl))
            (try simp only [Act.put, List.getElem_toArray, List.getElem_cons_succ, List.getElem_cons_zero, List.setIfInBounds_toArray, List.set_cons_zero, List.set_cons_succ])
            refine wpAnyH_take (i := 37) (oi := _) (v := ?v37_69) rfl (by kernel_rfl) (by kernel_rfl) (by kernel_rfl) (fun _ _ _ h => h) (Or.inl ⟨by rfl, ?hy37_69⟩) (by with_reducible assumption) ?rest37_69
            case hy37_69 => ((intro w hSw; (try dsimp only at hSw); go_simp); (try with_reducible rfl))
            (try simp only [Act.put, List.getElem_toArray, List.getElem_cons_succ, List.getElem_cons_zero, List.setIfInBounds_toArray, List.set_cons_zero, List.set_cons_succ])
            refine wpAnyH_take (i := 38) (oi := _) (v := ?v38_70) rfl (by kernel_rfl) (by kernel_rfl) (by kernel_rfl) (fun _ _ _ h => h) (Or.inl ⟨by rfl, ?hy38_70⟩) (by with_reducible assumption) ?rest38_70
            case hy38_70 => ((intro w hSw; (try dsimp only at hSw); go_simp); (try with_reducible rfl))
            (try simp only [Act.put, List.getElem_toArray, List.getElem_cons_succ, List.getElem_cons_zero, List.setIfInBounds_toArray, List.set_cons_zero, List.set_cons_succ])
            refine wpAnyH_done (by kernel_rfl) (NoPanic.normal ?_) _
            go_wp2_with fail
            go_meet
            exact ⟨by first | rfl | simp, (by assumption : _ ∧ Below w4.heap.size w4 _).2⟩
      case neg =>
        have hdec : decide (k < m) = false := by simp; omega
        simp only [(by omega : min m k = m), hdec, Bool.or_true, Bool.or_false] at y1 y2 y5 y6
        clear hdec
        have Y1 := Lib.hid y1
        have Y2 := Lib.hid y2
        have Y3 := Lib.hid y3
        have Y4 := Lib.hid y4
        have Y5 := Lib.hid y5
        have Y6 := Lib.hid y6
        have Y7 := Lib.hid y7
        clear y1 y2 y3 y4 y5 y6 y7
        have hkk : (m : Int) ≤ (d.size : Int) := by omega
        have hkm1 : ¬ (k : Int) < (m : Int) := by omega
        cases dn
        case false =>
          go_wp2_with fail
          refine (Y2.out _).mono ?_
          rintro e w2 ⟨rfl, hb2⟩
          have hz2 := hb2.size
          (try simp at hz2)
          have rs_2 : w2.heap[w1.heap.size]? = some (.cells #[.int .i64 u, .string d, .int .i64 (k : Int), .bool f, .bool fs, .bool false] 26 (0, 0)) := (hb2.block _ (by first | (simp; done) | (simp; omega))).trans (by repeat (first | exact heap_new _ _ _ (by first | rfl | (simp; done) | (simp; omega)) | refine (Below.heap_alloc _ _ _ (by first | omega | (simp; done) | (simp; omega))).trans ?_))
          have hw2 : Below w.heap.size w w2 := (by repeat (first | with_reducible exact Below.refl _ _ | with_reducible assumption | with_reducible refine Below.drew ?_ | with_reducible refine Below.alloc ?_ (by first | exact Nat.le_refl _ | omega | (simp; done) | (simp; omega)) _ | with_reducible refine Below.setCell ?_ (by first | exact Nat.le_refl _ | omega | (simp; done) | (simp; omega)) _ | (with_reducible refine ext_trans ?_ (by with_reducible assumption))))
          have lRs_2 : w1.heap.size < w2.heap.size := by omega
          have Rs_2 := Lib.hid rs_2
          have r0_rs_2 := cell_of_row _ _ 0 _ _ _ rs_2
          have r1_rs_2 := cell_of_row _ _ 1 _ _ _ rs_2
          have r2_rs_2 := cell_of_row _ _ 2 _ _ _ rs_2
          have r3_rs_2 := cell_of_row _ _ 3 _ _ _ rs_2
          have r4_rs_2 := cell_of_row _ _ 4 _ _ _ rs_2
          have r5_rs_2 := cell_of_row _ _ 5 _ _ _ rs_2
          have f0_rs_2 := frozen_of_row _ _ 0 _ _ rs_2
          have f1_rs_2 := frozen_of_row _ _ 1 _ _ rs_2
          have f2_rs_2 := frozen_of_row _ _ 2 _ _ rs_2
          have f3_rs_2 := frozen_of_row _ _ 3 _ _ rs_2
          have f4_rs_2 := frozen_of_row _ _ 4 _ _ rs_2
          have f5_rs_2 := frozen_of_row _ _ 5 _ _ rs_2
          simp at r0_rs_2 r1_rs_2 r2_rs_2 r3_rs_2 r4_rs_2 r5_rs_2
          clear rs_2
          go_wp2_with fail
          refine (Y1.out _).mono ?_
          rintro e w3 ⟨rfl, hb3⟩
          have hz3 := hb3.size
          (try simp at hz3)
          have rs_3 := (hb3.block _ (by first | omega | (simp; done) | (simp; omega))).trans ((Below.heap_alloc _ _ _ (by first | exact lRs_2 | (simp; omega))).trans Rs_2.out)
          have rx_3 : w3.heap[w2.heap.size]? = some (.cells #[.int .i64 Q1, .string (d.extract m d.size), .int .i64 Q3, .bool f, .bool Q4, .bool false] 26 (0, 0)) := (hb3.block _ (by first | (simp; done) | (simp; omega))).trans (by repeat (first | exact heap_new _ _ _ (by first | rfl | (simp; done) | (simp; omega)) | refine (Below.heap_alloc _ _ _ (by first | omega | (simp; done) | (simp; omega))).trans ?_))
          have hw3 : Below w.heap.size w w3 := (by repeat (first | with_reducible exact Below.refl _ _ | with_reducible assumption | with_reducible refine Below.drew ?_ | with_reducible refine Below.alloc ?_ (by first | exact Nat.le_refl _ | omega | (simp; done) | (simp; omega)) _ | with_reducible refine Below.setCell ?_ (by first | exact Nat.le_refl _ | omega | (simp; done) | (simp; omega)) _ | (with_reducible refine ext_trans ?_ (by with_reducible assumption))))
          have lRs_3 : w1.heap.size < w3.heap.size := by omega
          have lRx_3 : w2.heap.size < w3.heap.size := by omega
          have Rs_3 := Lib.hid rs_3
          have r0_rs_3 := cell_of_row _ _ 0 _ _ _ rs_3
          have r1_rs_3 := cell_of_row _ _ 1 _ _ _ rs_3
          have r2_rs_3 := cell_of_row _ _ 2 _ _ _ rs_3
          have r3_rs_3 := cell_of_row _ _ 3 _ _ _ rs_3
          have r4_rs_3 := cell_of_row _ _ 4 _ _ _ rs_3
          have r5_rs_3 := cell_of_row _ _ 5 _ _ _ rs_3
          have f0_rs_3 := frozen_of_row _ _ 0 _ _ rs_3
          have f1_rs_3 := frozen_of_row _ _ 1 _ _ rs_3
          have f2_rs_3 := frozen_of_row _ _ 2 _ _ rs_3
          have f3_rs_3 := frozen_of_row _ _ 3 _ _ rs_3
          have f4_rs_3 := frozen_of_row _ _ 4 _ _ rs_3
          have f5_rs_3 := frozen_of_row _ _ 5 _ _ rs_3
          simp at r0_rs_3 r1_rs_3 r2_rs_3 r3_rs_3 r4_rs_3 r5_rs_3
          clear rs_3
          have Rx_3 := Lib.hid rx_3
          have r0_rx_3 := cell_of_row _ _ 0 _ _ _ rx_3
          have r1_rx_3 := cell_of_row _ _ 1 _ _ _ rx_3
          have r2_rx_3 := cell_of_row _ _ 2 _ _ _ rx_3
          have r3_rx_3 := cell_of_row _ _ 3 _ _ _ rx_3
          have r4_rx_3 := cell_of_row _ _ 4 _ _ _ rx_3
          have r5_rx_3 := cell_of_row _ _ 5 _ _ _ rx_3
          have f0_rx_3 := frozen_of_row _ _ 0 _ _ rx_3
          have f1_rx_3 := frozen_of_row _ _ 1 _ _ rx_3
          have f2_rx_3 := frozen_of_row _ _ 2 _ _ rx_3
          have f3_rx_3 := frozen_of_row _ _ 3 _ _ rx_3
          have f4_rx_3 := frozen_of_row _ _ 4 _ _ rx_3
          have f5_rx_3 := frozen_of_row _ _ 5 _ _ rx_3
          simp at r0_rx_3 r1_rx_3 r2_rx_3 r3_rx_3 r4_rx_3 r5_rx_3
          clear rx_3
          clear r0_rs_2 f0_rs_2 r1_rs_2 f1_rs_2 r2_rs_2 f2_rs_2 r3_rs_2 f3_rs_2 r4_rs_2 f4_rs_2 r5_rs_2 f5_rs_2
          go_wp2_with fail
          refine (Y3.out _).mono ?_
          rintro e w' ⟨rfl, rfl⟩
          go_wp2_with fail
          have hb4 : Below w3.heap.size w3 (w3.alloc (.cells #[.int .i64 Q1, .string (d.extract m d.size), .int .i64 Q3, .bool f, .bool Q4, .bool false] 26)) := (by repeat (first | with_reducible exact Below.refl _ _ | with_reducible assumption | with_reducible refine Below.drew ?_ | with_reducible refine Below.alloc ?_ (by first | exact Nat.le_refl _ | omega | (simp; done) | (simp; omega)) _ | with_reducible refine Below.setCell ?_ (by first | exact Nat.le_refl _ | omega | (simp; done) | (simp; omega)) _ | (with_reducible refine ext_trans ?_ (by with_reducible assumption))))
          have ry_4 : (w3.alloc (.cells #[.int .i64 Q1, .string (d.extract m d.size), .int .i64 Q3, .bool f, .bool Q4, .bool false] 26)).heap[w3.heap.size]? = some (.cells #[.int .i64 Q1, .string (d.extract m d.size), .int .i64 Q3, .bool f, .bool Q4, .bool false] 26 (0, 0)) := (by repeat (first | exact heap_new _ _ _ (by first | rfl | (simp; done) | (simp; omega)) | refine (Below.heap_alloc _ _ _ (by first | omega | (simp; done) | (simp; omega))).trans ?_))
          have lNy_4 : w3.heap.size < (w3.alloc (.cells #[.int .i64 Q1, .string (d.extract m d.size), .int .i64 Q3, .bool f, .bool Q4, .bool false] 26)).heap.size := by simp
          generalize (w3.alloc (.cells #[.int .i64 Q1, .string (d.extract m d.size), .int .i64 Q3, .bool f, .bool Q4, .bool false] 26)) = w4 at *
          have hz4 := hb4.size
          (try simp at hz4)
          have rs_4 := (hb4.block _ (by first | omega | (simp; done) | (simp; omega))).trans Rs_3.out
          have rx_4 := (hb4.block _ (by first | omega | (simp; done) | (simp; omega))).trans Rx_3.out
          have hw4 : Below w.heap.size w w4 := (by repeat (first | with_reducible exact Below.refl _ _ | with_reducible assumption | with_reducible refine Below.drew ?_ | with_reducible refine Below.alloc ?_ (by first | exact Nat.le_refl _ | omega | (simp; done) | (simp; omega)) _ | with_reducible refine Below.setCell ?_ (by first | exact Nat.le_refl _ | omega | (simp; done) | (simp; omega)) _ | (with_reducible refine ext_trans ?_ (by with_reducible assumption))))
          have lRs_4 : w1.heap.size < w4.heap.size := by omega
          have lRx_4 : w2.heap.size < w4.heap.size := by omega
          have lRy_4 : w3.heap.size < w4.heap.size := by omega
          have Rs_4 := Lib.hid rs_4
          have r0_rs_4 := cell_of_row _ _ 0 _ _ _ rs_4
          have r1_rs_4 := cell_of_row _ _ 1 _ _ _ rs_4
          have r2_rs_4 := cell_of_row _ _ 2 _ _ _ rs_4
          have r3_rs_4 := cell_of_row _ _ 3 _ _ _ rs_4
          have r4_rs_4 := cell_of_row _ _ 4 _ _ _ rs_4
          have r5_rs_4 := cell_of_row _ _ 5 _ _ _ rs_4
          have f0_rs_4 := frozen_of_row _ _ 0 _ _ rs_4
          have f1_rs_4 := frozen_of_row _ _ 1 _ _ rs_4
          have f2_rs_4 := frozen_of_row _ _ 2 _ _ rs_4
          have f3_rs_4 := frozen_of_row _ _ 3 _ _ rs_4
          have f4_rs_4 := frozen_of_row _ _ 4 _ _ rs_4
          have f5_rs_4 := frozen_of_row _ _ 5 _ _ rs_4
          simp at r0_rs_4 r1_rs_4 r2_rs_4 r3_rs_4 r4_rs_4 r5_rs_4
          clear rs_4
          have Rx_4 := Lib.hid rx_4
          have r0_rx_4 := cell_of_row _ _ 0 _ _ _ rx_4
          have r1_rx_4 := cell_of_row _ _ 1 _ _ _ rx_4
          have r2_rx_4 := cell_of_row _ _ 2 _ _ _ rx_4
          have r3_rx_4 := cell_of_row _ _ 3 _ _ _ rx_4
          have r4_rx_4 := cell_of_row _ _ 4 _ _ _ rx_4
          have r5_rx_4 := cell_of_row _ _ 5 _ _ _ rx_4
          have f0_rx_4 := frozen_of_row _ _ 0 _ _ rx_4
          have f1_rx_4 := frozen_of_row _ _ 1 _ _ rx_4
          have f2_rx_4 := frozen_of_row _ _ 2 _ _ rx_4
          have f3_rx_4 := frozen_of_row _ _ 3 _ _ rx_4
          have f4_rx_4 := frozen_of_row _ _ 4 _ _ rx_4
          have f5_rx_4 := frozen_of_row _ _ 5 _ _ rx_4
          simp at r0_rx_4 r1_rx_4 r2_rx_4 r3_rx_4 r4_rx_4 r5_rx_4
          clear rx_4
          have Ry_4 := Lib.hid ry_4
          have r0_ry_4 := cell_of_row _ _ 0 _ _ _ ry_4
          have r1_ry_4 := cell_of_row _ _ 1 _ _ _ ry_4
          have r2_ry_4 := cell_of_row _ _ 2 _ _ _ ry_4
          have r3_ry_4 := cell_of_row _ _ 3 _ _ _ ry_4
          have r4_ry_4 := cell_of_row _ _ 4 _ _ _ ry_4
          have r5_ry_4 := cell_of_row _ _ 5 _ _ _ ry_4
          have f0_ry_4 := frozen_of_row _ _ 0 _ _ ry_4
          have f1_ry_4 := frozen_of_row _ _ 1 _ _ ry_4
          have f2_ry_4 := frozen_of_row _ _ 2 _ _ ry_4
          have f3_ry_4 := frozen_of_row _ _ 3 _ _ ry_4
          have f4_ry_4 := frozen_of_row _ _ 4 _ _ ry_4
          have f5_ry_4 := frozen_of_row _ _ 5 _ _ ry_4
          simp at r0_ry_4 r1_ry_4 r2_ry_4 r3_ry_4 r4_ry_4 r5_ry_4
          clear ry_4
          clear r0_rs_3 f0_rs_3 r1_rs_3 f1_rs_3 r2_rs_3 f2_rs_3 r3_rs_3 f3_rs_3 r4_rs_3 f4_rs_3 r5_rs_3 f5_rs_3
          clear r0_rx_3 f0_rx_3 r1_rx_3 f1_rx_3 r2_rx_3 f2_rx_3 r3_rx_3 f3_rx_3 r4_rx_3 f4_rx_3 r5_rx_3 f5_rx_3
          go_wp2_with fail
          go_cut [2] (fun z wx => z = .bool true ∧ Below w4.heap.size w4 wx)
          case rest =>
            obtain ⟨rfl, hbz⟩ := hcut
            go_wp2_with fail
            go_ret
            exact ⟨rfl, hw4.trans (hbz.mono hw4.size)⟩
          case first =>
            refine wp_region_noPanic ?_
            refine wp_region_held_drew (S := (fun w' => (∀ b' o, b' < w4.heap.size → w'.cell? ⟨b', o, none⟩ = w4.cell? ⟨b', o, none⟩) ∧ Below w4.heap.size w4 w')) (by kernel_rfl) (by first | exact rg_start _) (fun hHeld => ?_)
            refine wpAnyH_take (i := 0) (oi := _) (v := ?v0_71) rfl (by kernel_rfl) (by kernel_rfl) (by kernel_rfl) (fun _ _ _ h => h) (Or.inl ⟨by rfl, ?hy0_71⟩) (by with_reducible assumption) ?rest0_71
            case hy0_71 => ((intro w hSw; (try dsimp only at hSw); go_simp); (try with_reducible rfl))
            (try simp only [Act.put, List.getElem_toArray, List.getElem_cons_succ, List.getElem_cons_zero, List.setIfInBounds_toArray, List.set_cons_zero, List.set_cons_succ])
            refine wpAnyH_ready (rs := [1]) (by kernel_rfl) (by simp) ?_
            refine AllReadyH.cons (o := _) rfl (fun K hK => ?_) AllReadyH.nil
            go_simp
            go_at_call 19; ((with_reducible refine (Y5.out _).mono ?_); (rintro e wq9 ⟨rfl, hbq9⟩; have hSq9 := rg_keepK (by with_reducible assumption) hbq9))
            go_wp2_with fail
            refine hK.out _ _ ?_ (fun hHeld => ?_)
            · (try dsimp only); (first | with_reducible assumption | (with_reducible apply rg_keep; rotate_left; with_reducible assumption; with_reducible assumption) | with_reducible exact rg_start _ | with_reducible exact rg_alloc (KeptS.out (by with_reducible assumption)) _ | with_reducible exact rg_alloc (by with_reducible assumption) _ | with_reducible exact rg_start_alloc _ _ | ((repeat (with_reducible refine rg_set ?_ _ (by first | exact Nat.le_refl _ | omega | (simp; done) | (simp; omega)) _)); first | with_reducible exact KeptS.out (by with_reducible assumption) | with_reducible assumption | with_reducible exact rg_alloc (KeptS.out (by with_reducible assumption)) _))
            clear hK K
            (try simp only [Act.put, List.getElem_toArray, List.getElem_cons_succ, List.getElem_cons_zero, List.setIfInBounds_toArray, List.set_cons_zero, List.set_cons_succ])
            refine wpAnyH_take (i := 2) (oi := _) (v := ?v2_72) rfl (by kernel_rfl) (by kernel_rfl) (by kernel_rfl) (fun _ _ _ h => h) (Or.inl ⟨by rfl, ?hy2_72⟩) (by with_reducible assumption) ?rest2_72
            case hy2_72 => ((intro w hSw; (try dsimp only at hSw); go_simp); (try with_reducible rfl))
            (try simp only [Act.put, List.getElem_toArray, List.getElem_cons_succ, List.getElem_cons_zero, List.setIfInBounds_toArray, List.set_cons_zero, List.set_cons_succ])
            refine wpAnyH_take (i := 3) (oi := _) (v := ?v3_73) rfl (by kernel_rfl) (by kernel_rfl) (by kernel_rfl) (fun _ _ _ h => h) (Or.inl ⟨by rfl, ?hy3_73⟩) (by with_reducible assumption) ?rest3_73
            case hy3_73 => ((intro w hSw; (try dsimp only at hSw); go_simp); (try with_reducible rfl))
            (try simp only [Act.put, List.getElem_toArray, List.getElem_cons_succ, List.getElem_cons_zero, List.setIfInBounds_toArray, List.set_cons_zero, List.set_cons_succ])
            refine wpAnyH_take (i := 4) (oi := _) (v := ?v4_74) rfl (by kernel_rfl) (by kernel_rfl) (by kernel_rfl) (fun _ _ _ h => h) (Or.inl ⟨by rfl, ?hy4_74⟩) (by with_reducible assumption) ?rest4_74
            case hy4_74 => ((intro w hSw; (try dsimp only at hSw); go_simp); (try with_reducible rfl))
            (try simp only [Act.put, List.getElem_toArray, List.getElem_cons_succ, List.getElem_cons_zero, List.setIfInBounds_toArray, List.set_cons_zero, List.set_cons_succ])
            refine wpAnyH_take (i := 5) (oi := _) (v := ?v5_75) rfl (by kernel_rfl) (by kernel_rfl) (by kernel_rfl) (fun _ _ _ h => h) (Or.inl ⟨by rfl, ?hy5_75⟩) (by with_reducible assumption) ?rest5_75
            case hy5_75 => ((intro w hSw; (try dsimp only at hSw); go_simp); (try with_reducible rfl))
            (try simp only [Act.put, List.getElem_toArray, List.getElem_cons_succ, List.getElem_cons_zero, List.setIfInBounds_toArray, List.set_cons_zero, List.set_cons_succ])
            refine wpAnyH_ready (rs := [6]) (by kernel_rfl) (by simp) ?_
            refine AllReadyH.cons (o := _) rfl (fun K hK => ?_) AllReadyH.nil
            go_simp
            go_at_call 41; ((with_reducible refine (Y4.out _).mono ?_); rintro e w' ⟨rfl, rfl⟩)
            go_wp2_with fail
            refine hK.out _ _ ?_ (fun hHeld => ?_)
            · (try dsimp only); (first | with_reducible assumption | (with_reducible apply rg_keep; rotate_left; with_reducible assumption; with_reducible assumption) | with_reducible exact rg_start _ | with_reducible exact rg_alloc (KeptS.out (by with_reducible assumption)) _ | with_reducible exact rg_alloc (by with_reducible assumption) _ | with_reducible exact rg_start_alloc _ _ | ((repeat (with_reducible refine rg_set ?_ _ (by first | exact Nat.le_refl _ | omega | (simp; done) | (simp; omega)) _)); first | with_reducible exact KeptS.out (by with_reducible assumption) | with_reducible assumption | with_reducible exact rg_alloc (KeptS.out (by with_reducible assumption)) _))
            clear hK K
            (try simp only [Act.put, List.getElem_toArray, List.getElem_cons_succ, List.getElem_cons_zero, List.setIfInBounds_toArray, List.set_cons_zero, List.set_cons_succ])
            refine wpAnyH_take (i := 7) (oi := _) (v := ?v7_76) rfl (by kernel_rfl) (by kernel_rfl) (by kernel_rfl) (fun _ _ _ h => h) (Or.inl ⟨by rfl, ?hy7_76⟩) (by with_reducible assumption) ?rest7_76
            case hy7_76 => ((intro w hSw; (try dsimp only at hSw); go_simp); (try with_reducible rfl))
            (try simp only [Act.put, List.getElem_toArray, List.getElem_cons_succ, List.getElem_cons_zero, List.setIfInBounds_toArray, List.set_cons_zero, List.set_cons_succ])
            refine wpAnyH_take (i := 8) (oi := _) (v := ?v8_77) rfl (by kernel_rfl) (by kernel_rfl) (by kernel_rfl) (fun _ _ _ h => h) (Or.inl ⟨by rfl, ?hy8_77⟩) (by with_reducible assumption) ?rest8_77
            case hy8_77 => ((intro w hSw; (try dsimp only at hSw); go_simp); (try with_reducible rfl))
            (try simp only [Act.put, List.getElem_toArray, List.getElem_cons_succ, List.getElem_cons_zero, List.setIfInBounds_toArray, List.set_cons_zero, List.set_cons_succ])
            refine wpAnyH_take (i := 9) (oi := _) (v := ?v9_78) rfl (by kernel_rfl) (by kernel_rfl) (by kernel_rfl) (fun _ _ _ h => h) (Or.inl ⟨by rfl, ?hy9_78⟩) (by with_reducible assumption) ?rest9_78
            case hy9_78 => ((intro w hSw; (try dsimp only at hSw); go_simp); (try with_reducible rfl))
            (try simp only [Act.put, List.getElem_toArray, List.getElem_cons_succ, List.getElem_cons_zero, List.setIfInBounds_toArray, List.set_cons_zero, List.set_cons_succ])
            refine wpAnyH_take (i := 10) (oi := _) (v := ?v10_79) rfl (by kernel_rfl) (by kernel_rfl) (by kernel_rfl) (fun _ _ _ h => h) (Or.inl ⟨by rfl, ?hy10_79⟩) (by with_reducible assumption) ?rest10_79
            case hy10_79 => ((intro w hSw; (try dsimp only at hSw); go_simp); (try with_reducible rfl))
            (try simp only [Act.put, List.getElem_toArray, List.getElem_cons_succ, List.getElem_cons_zero, List.setIfInBounds_toArray, List.set_cons_zero, List.set_cons_succ])
            refine wpAnyH_take (i := 12) (oi := _) (v := ?v12_80) rfl (by kernel_rfl) (by kernel_rfl) (by kernel_rfl) (fun _ _ _ h => h) (Or.inl ⟨by rfl, ?hy12_80⟩) (by with_reducible assumption) ?rest12_80
            case hy12_80 => ((intro w hSw; (try dsimp only at hSw); go_simp); (try with_reducible rfl))
            (try simp only [Act.put, List.getElem_toArray, List.getElem_cons_succ, List.getElem_cons_zero, List.setIfInBounds_toArray, List.set_cons_zero, List.set_cons_succ])
            refine wpAnyH_ready (rs := [11]) (by kernel_rfl) (by simp) ?_
            refine AllReadyH.cons (o := _) rfl (fun K hK => ?_) AllReadyH.nil
            go_simp
            go_at_call 17; ((with_reducible refine (Y6.out _).mono ?_); (rintro e wq11 ⟨rfl, hbq11⟩; have hSq11 := rg_keepK (by with_reducible assumption) hbq11))
            go_wp2_with fail
            refine hK.out _ _ ?_ (fun hHeld => ?_)
            · (try dsimp only); (first | with_reducible assumption | (with_reducible apply rg_keep; rotate_left; with_reducible assumption; with_reducible assumption) | with_reducible exact rg_start _ | with_reducible exact rg_alloc (KeptS.out (by with_reducible assumption)) _ | with_reducible exact rg_alloc (by with_reducible assumption) _ | with_reducible exact rg_start_alloc _ _ | ((repeat (with_reducible refine rg_set ?_ _ (by first | exact Nat.le_refl _ | omega | (simp; done) | (simp; omega)) _)); first | with_reducible exact KeptS.out (by with_reducible assumption) | with_reducible assumption | with_reducible exact rg_alloc (KeptS.out (by with_reducible assumption)) _))
            clear hK K
            (try simp only [Act.put, List.getElem_toArray, List.getElem_cons_succ, List.getElem_cons_zero, List.setIfInBounds_toArray, List.set_cons_zero, List.set_cons_succ])
            refine wpAnyH_ready (rs := [13]) (by kernel_rfl) (by simp) ?_
            refine AllReadyH.cons (o := _) rfl (fun K hK => ?_) AllReadyH.nil
            go_simp
            go_at_call 17; ((with_reducible refine (Y7.out _).mono ?_); (rintro e wq12 ⟨rfl, hbq12⟩; have hSq12 := rg_keepK (by with_reducible assumption) hbq12))
            go_wp2_with fail
            refine hK.out _ _ ?_ (fun hHeld => ?_)
            · (try dsimp only); (first | with_reducible assumption | (with_reducible apply rg_keep; rotate_left; with_reducible assumption; with_reducible assumption) | with_reducible exact rg_start _ | with_reducible exact rg_alloc (KeptS.out (by with_reducible assumption)) _ | with_reducible exact rg_alloc (by with_reducible assumption) _ | with_reducible exact rg_start_alloc _ _ | ((repeat (with_reducible refine rg_set ?_ _ (by first | exact Nat.le_refl _ | omega | (simp; done) | (simp; omega)) _)); first | with_reducible exact KeptS.out (by with_reducible assumption) | with_reducible assumption | with_reducible exact rg_alloc (KeptS.out (by with_reducible assumption)) _))
            clear hK K
            (try simp only [Act.put, List.getElem_toArray, List.getElem_cons_succ, List.getElem_cons_zero, List.setIfInBounds_toArray, List.set_cons_zero, List.set_cons_succ])
            refine wpAnyH_take (i := 14) (oi := _) (v := ?v14_81) rfl (by kernel_rfl) (by kernel_rfl) (by kernel_rfl) (fun _ _ _ h => h) (Or.inl ⟨by rfl, ?hy14_81⟩) (by with_reducible assumption) ?rest14_81
            case hy14_81 => ((intro w hSw; (try dsimp only at hSw); go_simp); (try with_reducible rfl))
            (try simp only [Act.put, List.getElem_toArray, List.getElem_cons_succ, List.getElem_cons_zero, List.setIfInBounds_toArray, List.set_cons_zero, List.set_cons_succ])
            refine wpAnyH_take (i := 15) (oi := _) (v := ?v15_82) rfl (by kernel_rfl) (by kernel_rfl) (by kernel_rfl) (fun _ _ _ h => h) (Or.inl ⟨by rfl, ?hy15_82⟩) (by with_reducible assumption) ?rest15_82
            case hy15_82 => ((intro w hSw; (try dsimp only at hSw); go_simp); (try with_reducible rfl))
            (try simp only [Act.put, List.getElem_toArray, List.getElem_cons_succ, List.getElem_cons_zero, List.setIfInBounds_toArray, List.set_cons_zero, List.set_cons_succ])
            refine wpAnyH_take (i := 16) (oi := _) (v := ?v16_83) rfl (by kernel_rfl) (by kernel_rfl) (by kernel_rfl) (fun _ _ _ h => h) (Or.inl ⟨by rfl, ?hy16_83⟩) (by with_reducible assumption) ?rest16_83
            case hy16_83 => ((intro w hSw; (try dsimp only at hSw); go_simp); (try with_reducible rfl))
            (try simp only [Act.put, List.getElem_toArray, List.getElem_cons_succ, List.getElem_cons_zero, List.setIfInBounds_toArray, List.set_cons_zero, List.set_cons_succ])
            refine wpAnyH_take (i := 17) (oi := _) (v := ?v17_84) rfl (by kernel_rfl) (by kernel_rfl) (by kernel_rfl) (fun _ _ _ h => h) (Or.inl ⟨by rfl, ?hy17_84⟩) (by with_reducible assumption) ?rest17_84
            case hy17_84 => ((intro w hSw; (try dsimp only at hSw); go_simp); (try with_reducible rfl))
            (try simp only [Act.put, List.getElem_toArray, List.getElem_cons_succ, List.getElem_cons_zero, List.setIfInBounds_toArray, List.set_cons_zero, List.set_cons_succ])
            refine wpAnyH_take (i := 18) (oi := _) (v := ?v18_85) rfl (by kernel_rfl) (by kernel_rfl) (by kernel_rfl) (fun _ _ _ h => h) (Or.inl ⟨by rfl, ?hy18_85⟩) (by with_reducible assumption) ?rest18_85
            case hy18_85 => ((intro w hSw; (try dsimp only at hSw); go_simp); (try with_reducible rfl))
            (try simp only [Act.put, List.getElem_toArray, List.getElem_cons_succ, List.getElem_cons_zero, List.setIfInBounds_toArray, List.set_cons_zero, List.set_cons_succ])
            refine wpAnyH_take (i := 19) (oi := _) (v := ?v19_86) rfl (by kernel_rfl) (by kernel_rfl) (by kernel_rfl) (fun _ _ _ h => h) (Or.inl ⟨by rfl, ?hy19_86⟩) (by with_reducible assumption) ?rest19_86
            case hy19_86 => ((intro w hSw; (try dsimp only at hSw); go_simp); (try with_reducible rfl))
            (try simp only [Act.put, List.getElem_toArray, List.getElem_cons_succ, List.getElem_cons_zero, List.setIfInBounds_toArray, List.set_cons_zero, List.set_cons_succ])
            refine wpAnyH_take (i := 20) (oi := _) (v := ?v20_87) rfl (by kernel_rfl) (by kernel_rfl) (by kernel_rfl) (fun _ _ _ h => h) (Or.inl ⟨by rfl, ?hy20_87⟩) (by with_reducible assumption) ?rest20_87
            case hy20_87 => ((intro w hSw; (try dsimp only at hSw); go_simp); (try with_reducible rfl))
            (try simp only [Act.put, List.getElem_toArray, List.getElem_cons_succ, List.getElem_cons_zero, List.setIfInBounds_toArray, List.set_cons_zero, List.set_cons_succ])
            refine wpAnyH_take (i := 21) (oi := _) (v := ?v21_88) rfl (by kernel_rfl) (by kernel_rfl) (by kernel_rfl) (fun _ _ _ h => h) (Or.inl ⟨by rfl, ?hy21_88⟩) (by with_reducible assumption) ?rest21_88
            case hy21_88 => ((intro w hSw; (try dsimp only at hSw); go_simp); (try with_reducible rfl))
            (try simp only [Act.put, List.getElem_toArray, List.getElem_cons_succ, List.getElem_cons_zero, List.setIfInBounds_toArray, List.set_cons_zero, List.set_cons_succ])
            refine wpAnyH_take (i := 22) (oi := _) (v := ?v22_89) rfl (by kernel_rfl) (by kernel_rfl) (by kernel_rfl) (fun _ _ _ h => h) (Or.inl ⟨by rfl, ?hy22_89⟩) (by with_reducible assumption) ?rest22_89
            case hy22_89 => ((intro w hSw; (try dsimp only at hSw); go_simp); (try with_reducible rfl))
            (try simp only [Act.put, List.getElem_toArray, List.getElem_cons_succ, List.getElem_cons_zero, List.setIfInBounds_toArray, List.set_cons_zero, List.set_cons_succ])
            refine wpAnyH_take (i := 23) (oi := _) (v := ?v23_90) rfl (by kernel_rfl) (by kernel_rfl) (by kernel_rfl) (fun _ _ _ h => h) (Or.inl ⟨by rfl, ?hy23_90⟩) (by with_reducible assumption) ?rest23_90
            case hy23_90 => ((intro w hSw; (try dsimp only at hSw); go_simp); (try with_reducible rfl))
            (try simp only [Act.put, List.getElem_toArray, List.getElem_cons_succ, List.getElem_cons_zero, List.setIfInBounds_toArray, List.set_cons_zero, List.set_cons_succ])
            refine wpAnyH_take (i := 24) (oi := _) (v := ?v24_91) rfl (by kernel_rfl) (by kernel_rfl) (by kernel_rfl) (fun _ _ _ h => h) (Or.inl ⟨by rfl, ?hy24_91⟩) (by with_reducible assumption) ?rest24_91
            case hy24_91 => ((intro w hSw; (try dsimp only at hSw); go_simp); (try with_reducible rfl))
            (try simp only [Act.put, List.getElem_toArray, List.getElem_cons_succ, List.getElem_cons_zero, List.setIfInBounds_toArray, List.set_cons_zero, List.set_cons_succ])
            refine wpAnyH_take (i := 25) (oi := _) (v := ?v25_92) rfl (by kernel_rfl) (by kernel_rfl) (by kernel_rfl) (fun _ _ _ h => h) (Or.inl ⟨by rfl, ?hy25_92⟩) (by with_reducible assumption) ?rest25_92
            case hy25_92 => ((intro w hSw; (try dsimp only at hSw); go_simp); (try with_reducible rfl))
            (try simp only [Act.put, List.getElem_toArray, List.getElem_cons_succ, List.getElem_cons_zero, List.setIfInBounds_toArray, List.set_cons_zero, List.set_cons_succ])
            refine wpAnyH_take (i := 26) (oi := _) (v := ?v26_93) rfl (by kernel_rfl) (by kernel_rfl) (by kernel_rfl) (fun _ _ _ h => h) (Or.inl ⟨by rfl, ?hy26_93⟩) (by with_reducible assumption) ?rest26_93
            case hy26_93 => ((intro w hSw; (try dsimp only at hSw); go_simp); (try with_reducible rfl))
            (try simp only [Act.put, List.getElem_toArray, List.getElem_cons_succ, List.getElem_cons_zero, List.setIfInBounds_toArray, List.set_cons_zero, List.set_cons_succ])
            refine wpAnyH_take (i := 27) (oi := _) (v := ?v27_94) rfl (by kernel_rfl) (by kernel_rfl) (by kernel_rfl) (fun _ _ _ h => h) (Or.inl ⟨by rfl, ?hy27_94⟩) (by with_reducible assumption) ?rest27_94
            case hy27_94 => ((intro w hSw; (try dsimp only at hSw); go_simp); (try with_reducible rfl))
            (try simp only [Act.put, List.getElem_toArray, List.getElem_cons_succ, List.getElem_cons_zero, List.setIfInBounds_toArray, List.set_cons_zero, List.set_cons_succ])
            refine wpAnyH_take (i := 28) (oi := _) (v := ?v28_95) rfl (by kernel_rfl) (by kernel_rfl) (by kernel_rfl) (fun _ _ _ h => h) (Or.inl ⟨by rfl, ?hy28_95⟩) (by with_reducible assumption) ?rest28_95
            case hy28_95 => ((intro w hSw; (try dsimp only at hSw); go_simp); (try with_reducible rfl))
            (try simp only [Act.put, List.getElem_toArray, List.getElem_cons_succ, List.getElem_cons_zero, List.setIfInBounds_toArray, List.set_cons_zero, List.set_cons_succ])
            refine wpAnyH_take (i := 29) (oi := _) (v := ?v29_96) rfl (by kernel_rfl) (by kernel_rfl) (by kernel_rfl) (fun _ _ _ h => h) (Or.inl ⟨by rfl, ?hy29_96⟩) (by with_reducible assumption) ?rest29_96
            case hy29_96 => ((intro w hSw; (try dsimp only at hSw); go_simp); (try with_reducible rfl))
            (try simp only [Act.put, List.getElem_toArray, List.getElem_cons_succ, List.getElem_cons_zero, List.setIfInBounds_toArray, List.set_cons_zero, List.set_cons_succ])
            refine wpAnyH_take (i := 30) (oi := _) (v := ?v30_97) rfl (by kernel_rfl) (by kernel_rfl) (by kernel_rfl) (fun _ _ _ h => h) (Or.inl ⟨by rfl, ?hy30_97⟩) (by with_reducible assumption) ?rest30_97
            case hy30_97 => ((intro w hSw; (try dsimp only at hSw); go_simp); (try with_reducible rfl))
            (try simp only [Act.put, List.getElem_toArray, List.getElem_cons_succ, List.getElem_cons_zero, List.setIfInBounds_toArray, List.set_cons_zero, List.set_cons_succ])
            refine wpAnyH_take (i := 31) (oi := _) (v := ?v31_98) rfl (by kernel_rfl) (by kernel_rfl) (by kernel_rfl) (fun _ _ _ h => h) (Or.inl ⟨by rfl, ?hy31_98⟩) (by with_reducible assumption) ?rest31_98
            case hy31_98 => ((intro w hSw; (try dsimp only at hSw); go_simp); (try with_reducible rfl))
            (try simp only [Act.put, List.getElem_toArray, List.getElem_cons_succ, List.getElem_cons_zero, List.setIfInBounds_toArray, List.set_cons_zero, List.set_cons_succ])
            refine wpAnyH_take (i := 32) (oi := _) (v := ?v32_99) rfl (by kernel_rfl) (by kernel_rfl) (by kernel_rfl) (fun _ _ _ h => h) (Or.inl ⟨by rfl, ?hy32_99⟩) (by with_reducible assumption) ?rest32_99
            case hy32_99 => ((intro w hSw; (try dsimp only at hSw); go_simp); (try with_reducible rfl))
            (try simp only [Act.put, List.getElem_toArray, List.getElem_cons_succ, List.getElem_cons_zero, List.setIfInBounds_toArray, List.set_cons_zero, List.set_cons_succ])
            refine wpAnyH_take (i := 33) (oi := _) (v := ?v33_100) rfl (by kernel_rfl) (by kernel_rfl) (by kernel_rfl) (fun _ _ _ h => h) (Or.inl ⟨by rfl, ?hy33_100⟩) (by with_reducible assumption) ?rest33_100
            case hy33_100 => ((intro w hSw; (try dsimp only at hSw); go_simp); (try with_reducible rfl))
            (try simp only [Act.put, List.getElem_toArray, List.getElem_cons_succ, List.getElem_cons_zero, List.setIfInBounds_toArray, List.set_cons_zero, List.set_cons_succ])
            refine wpAnyH_take (i := 34) (oi := _) (v := ?v34_101) rfl (by kernel_rfl) (by kernel_rfl) (by kernel_rfl) (fun _ _ _ h => h) (Or.inl ⟨by rfl, ?hy34_101⟩) (by with_reducible assumption) ?rest34_101
            case hy34_101 => ((intro w hSw; (try dsimp only at hSw); go_simp); (try with_reducible rfl))
            (try simp only [Act.put, List.getElem_toArray, List.getElem_cons_succ, List.getElem_cons_zero, List.setIfInBounds_toArray, List.set_cons_zero, List.set_cons_succ])
            refine wpAnyH_take (i := 35) (oi := _) (v := ?v35_102) rfl (by kernel_rfl) (by kernel_rfl) (by kernel_rfl) (fun _ _ _ h => h) (Or.inl ⟨by rfl, ?hy35_102⟩) (by with_reducible assumption) ?rest35_102
            case hy35_102 => ((intro w hSw; (try dsimp only at hSw); go_simp); (try with_reducible rfl))
            (try simp only [Act.put, List.getElem_toArray, List.getElem_cons_succ, List.getElem_cons_zero, List.setIfInBounds_toArray, List.set_cons_zero, List.set_cons_succ])
            refine wpAnyH_take (i := 36) (oi := _) (v := ?v36_103) rfl (by kernel_rfl) (by kernel_rfl) (by kernel_rfl) (fun _ _ _ h => h) (Or.inl ⟨by rfl, ?hy36_103⟩) (by with_reducible assumption) ?rest36_103
            case hy36_103 => ((intro w hSw; (try dsimp only at hSw); go_simp); (try with_reducible rfl))
            (try simp only [Act.put, List.getElem_toArray, List.getElem_cons_succ, List.getElem_cons_zero, List.setIfInBounds_toArray, List.set_cons_zero, List.set_cons_succ])
            refine wpAnyH_take (i := 37) (oi := _) (v := ?v37_104) rfl (by kernel_rfl) (by kernel_rfl) (by kernel_rfl) (fun _ _ _ h => h) (Or.inl ⟨by rfl, ?hy37_104⟩) (by with_reducible assumption) ?rest37_104
            case hy37_104 => ((intro w hSw; (try dsimp only at hSw); go_simp); (try with_reducible rfl))
            (try simp only [Act.put, List.getElem_toArray, List.getElem_cons_succ, List.getElem_cons_zero, List.setIfInBounds_toArray, List.set_cons_zero, List.set_cons_succ])
            refine wpAnyH_take (i := 38) (oi := _) (v := ?v38_105) rfl (by kernel_rfl) (by kernel_rfl) (by kernel_rfl) (fun _ _ _ h => h) (Or.inl ⟨by rfl, ?hy38_105⟩) (by with_reducible assumption) ?rest38_105
            case hy38_105 => ((intro w hSw; (try dsimp only at hSw); go_simp); (try with_reducible rfl))
            (try simp only [Act.put, List.getElem_toArray, List.getElem_cons_succ, List.getElem_cons_zero, List.setIfInBounds_toArray, List.set_cons_zero, List.set_cons_succ])
            refine wpAnyH_done (by kernel_rfl) (NoPanic.normal ?_) _
            go_wp2_with fail
            go_meet
            exact ⟨by first | rfl | simp, (by assumption : _ ∧ Below w4.heap.size w4 _).2⟩
        case true =>
          go_wp2_with fail
          refine (Y2.out _).mono ?_
          rintro e w2 ⟨rfl, hb2⟩
          have hz2 := hb2.size
          (try simp at hz2)
          have rs_2 : w2.heap[w1.heap.size]? = some (.cells #[.int .i64 u, .string d, .int .i64 (k : Int), .bool f, .bool fs, .bool true] 26 (0, 0)) := (hb2.block _ (by first | (simp; done) | (simp; omega))).trans (by repeat (first | exact heap_new _ _ _ (by first | rfl | (simp; done) | (simp; omega)) | refine (Below.heap_alloc _ _ _ (by first | omega | (simp; done) | (simp; omega))).trans ?_))
          have hw2 : Below w.heap.size w w2 := (by repeat (first | with_reducible exact Below.refl _ _ | with_reducible assumption | with_reducible refine Below.drew ?_ | with_reducible refine Below.alloc ?_ (by first | exact Nat.le_refl _ | omega | (simp; done) | (simp; omega)) _ | with_reducible refine Below.setCell ?_ (by first | exact Nat.le_refl _ | omega | (simp; done) | (simp; omega)) _ | (with_reducible refine ext_trans ?_ (by with_reducible assumption))))
          have lRs_2 : w1.heap.size < w2.heap.size := by omega
          have Rs_2 := Lib.hid rs_2
          have r0_rs_2 := cell_of_row _ _ 0 _ _ _ rs_2
          have r1_rs_2 := cell_of_row _ _ 1 _ _ _ rs_2
          have r2_rs_2 := cell_of_row _ _ 2 _ _ _ rs_2
          have r3_rs_2 := cell_of_row _ _ 3 _ _ _ rs_2
          have r4_rs_2 := cell_of_row _ _ 4 _ _ _ rs_2
          have r5_rs_2 := cell_of_row _ _ 5 _ _ _ rs_2
          have f0_rs_2 := frozen_of_row _ _ 0 _ _ rs_2
          have f1_rs_2 := frozen_of_row _ _ 1 _ _ rs_2
          have f2_rs_2 := frozen_of_row _ _ 2 _ _ rs_2
          have f3_rs_2 := frozen_of_row _ _ 3 _ _ rs_2
          have f4_rs_2 := frozen_of_row _ _ 4 _ _ rs_2
          have f5_rs_2 := frozen_of_row _ _ 5 _ _ rs_2
          simp at r0_rs_2 r1_rs_2 r2_rs_2 r3_rs_2 r4_rs_2 r5_rs_2
          clear rs_2
          go_wp2_with fail
          refine (Y1.out _).mono ?_
          rintro e w3 ⟨rfl, hb3⟩
          have hz3 := hb3.size
          (try simp at hz3)
          have rs_3 := (hb3.block _ (by first | omega | (simp; done) | (simp; omega))).trans ((Below.heap_alloc _ _ _ (by first | exact lRs_2 | (simp; omega))).trans Rs_2.out)
          have rx_3 : w3.heap[w2.heap.size]? = some (.cells #[.int .i64 Q1, .string (d.extract m d.size), .int .i64 Q3, .bool f, .bool Q4, .bool true] 26 (0, 0)) := (hb3.block _ (by first | (simp; done) | (simp; omega))).trans (by repeat (first | exact heap_new _ _ _ (by first | rfl | (simp; done) | (simp; omega)) | refine (Below.heap_alloc _ _ _ (by first | omega | (simp; done) | (simp; omega))).trans ?_))
          have hw3 : Below w.heap.size w w3 := (by repeat (first | with_reducible exact Below.refl _ _ | with_reducible assumption | with_reducible refine Below.drew ?_ | with_reducible refine Below.alloc ?_ (by first | exact Nat.le_refl _ | omega | (simp; done) | (simp; omega)) _ | with_reducible refine Below.setCell ?_ (by first | exact Nat.le_refl _ | omega | (simp; done) | (simp; omega)) _ | (with_reducible refine ext_trans ?_ (by with_reducible assumption))))
          have lRs_3 : w1.heap.size < w3.heap.size := by omega
          have lRx_3 : w2.heap.size < w3.heap.size := by omega
          have Rs_3 := Lib.hid rs_3
          have r0_rs_3 := cell_of_row _ _ 0 _ _ _ rs_3
          have r1_rs_3 := cell_of_row _ _ 1 _ _ _ rs_3
          have r2_rs_3 := cell_of_row _ _ 2 _ _ _ rs_3
          have r3_rs_3 := cell_of_row _ _ 3 _ _ _ rs_3
          have r4_rs_3 := cell_of_row _ _ 4 _ _ _ rs_3
          have r5_rs_3 := cell_of_row _ _ 5 _ _ _ rs_3
          have f0_rs_3 := frozen_of_row _ _ 0 _ _ rs_3
          have f1_rs_3 := frozen_of_row _ _ 1 _ _ rs_3
          have f2_rs_3 := frozen_of_row _ _ 2 _ _ rs_3
          have f3_rs_3 := frozen_of_row _ _ 3 _ _ rs_3
          have f4_rs_3 := frozen_of_row _ _ 4 _ _ rs_3
          have f5_rs_3 := frozen_of_row _ _ 5 _ _ rs_3
          simp at r0_rs_3 r1_rs_3 r2_rs_3 r3_rs_3 r4_rs_3 r5_rs_3
          clear rs_3
          have Rx_3 := Lib.hid rx_3
          have r0_rx_3 := cell_of_row _ _ 0 _ _ _ rx_3
          have r1_rx_3 := cell_of_row _ _ 1 _ _ _ rx_3
          have r2_rx_3 := cell_of_row _ _ 2 _ _ _ rx_3
          have r3_rx_3 := cell_of_row _ _ 3 _ _ _ rx_3
          have r4_rx_3 := cell_of_row _ _ 4 _ _ _ rx_3
          have r5_rx_3 := cell_of_row _ _ 5 _ _ _ rx_3
          have f0_rx_3 := frozen_of_row _ _ 0 _ _ rx_3
          have f1_rx_3 := frozen_of_row _ _ 1 _ _ rx_3
          have f2_rx_3 := frozen_of_row _ _ 2 _ _ rx_3
          have f3_rx_3 := frozen_of_row _ _ 3 _ _ rx_3
          have f4_rx_3 := frozen_of_row _ _ 4 _ _ rx_3
          have f5_rx_3 := frozen_of_row _ _ 5 _ _ rx_3
          simp at r0_rx_3 r1_rx_3 r2_rx_3 r3_rx_3 r4_rx_3 r5_rx_3
          clear rx_3
          clear r0_rs_2 f0_rs_2 r1_rs_2 f1_rs_2 r2_rs_2 f2_rs_2 r3_rs_2 f3_rs_2 r4_rs_2 f4_rs_2 r5_rs_2 f5_rs_2
          go_wp2_with fail
          refine (Y3.out _).mono ?_
          rintro e w' ⟨rfl, rfl⟩
          go_wp2_with fail
          have hb4 : Below w3.heap.size w3 (w3.alloc (.cells #[.int .i64 Q1, .string (d.extract m d.size), .int .i64 Q3, .bool f, .bool Q4, .bool true] 26)) := (by repeat (first | with_reducible exact Below.refl _ _ | with_reducible assumption | with_reducible refine Below.drew ?_ | with_reducible refine Below.alloc ?_ (by first | exact Nat.le_refl _ | omega | (simp; done) | (simp; omega)) _ | with_reducible refine Below.setCell ?_ (by first | exact Nat.le_refl _ | omega | (simp; done) | (simp; omega)) _ | (with_reducible refine ext_trans ?_ (by with_reducible assumption))))
          have ry_4 : (w3.alloc (.cells #[.int .i64 Q1, .string (d.extract m d.size), .int .i64 Q3, .bool f, .bool Q4, .bool true] 26)).heap[w3.heap.size]? = some (.cells #[.int .i64 Q1, .string (d.extract m d.size), .int .i64 Q3, .bool f, .bool Q4, .bool true] 26 (0, 0)) := (by repeat (first | exact heap_new _ _ _ (by first | rfl | (simp; done) | (simp; omega)) | refine (Below.heap_alloc _ _ _ (by first | omega | (simp; done) | (simp; omega))).trans ?_))
          have lNy_4 : w3.heap.size < (w3.alloc (.cells #[.int .i64 Q1, .string (d.extract m d.size), .int .i64 Q3, .bool f, .bool Q4, .bool true] 26)).heap.size := by simp
          generalize (w3.alloc (.cells #[.int .i64 Q1, .string (d.extract m d.size), .int .i64 Q3, .bool f, .bool Q4, .bool true] 26)) = w4 at *
          have hz4 := hb4.size
          (try simp at hz4)
          have rs_4 := (hb4.block _ (by first | omega | (simp; done) | (simp; omega))).trans Rs_3.out
          have rx_4 := (hb4.block _ (by first | omega | (simp; done) | (simp; omega))).trans Rx_3.out
          have hw4 : Below w.heap.size w w4 := (by repeat (first | with_reducible exact Below.refl _ _ | with_reducible assumption | with_reducible refine Below.drew ?_ | with_reducible refine Below.alloc ?_ (by first | exact Nat.le_refl _ | omega | (simp; done) | (simp; omega)) _ | with_reducible refine Below.setCell ?_ (by first | exact Nat.le_refl _ | omega | (simp; done) | (simp; omega)) _ | (with_reducible refine ext_trans ?_ (by with_reducible assumption))))
          have lRs_4 : w1.heap.size < w4.heap.size := by omega
          have lRx_4 : w2.heap.size < w4.heap.size := by omega
          have lRy_4 : w3.heap.size < w4.heap.size := by omega
          have Rs_4 := Lib.hid rs_4
          have r0_rs_4 := cell_of_row _ _ 0 _ _ _ rs_4
          have r1_rs_4 := cell_of_row _ _ 1 _ _ _ rs_4
          have r2_rs_4 := cell_of_row _ _ 2 _ _ _ rs_4
          have r3_rs_4 := cell_of_row _ _ 3 _ _ _ rs_4
          have r4_rs_4 := cell_of_row _ _ 4 _ _ _ rs_4
          have r5_rs_4 := cell_of_row _ _ 5 _ _ _ rs_4
          have f0_rs_4 := frozen_of_row _ _ 0 _ _ rs_4
          have f1_rs_4 := frozen_of_row _ _ 1 _ _ rs_4
          have f2_rs_4 := frozen_of_row _ _ 2 _ _ rs_4
          have f3_rs_4 := frozen_of_row _ _ 3 _ _ rs_4
          have f4_rs_4 := frozen_of_row _ _ 4 _ _ rs_4
          have f5_rs_4 := frozen_of_row _ _ 5 _ _ rs_4
          simp at r0_rs_4 r1_rs_4 r2_rs_4 r3_rs_4 r4_rs_4 r5_rs_4
          clear rs_4
          have Rx_4 := Lib.hid rx_4
          have r0_rx_4 := cell_of_row _ _ 0 _ _ _ rx_4
          have r1_rx_4 := cell_of_row _ _ 1 _ _ _ rx_4
          have r2_rx_4 := cell_of_row _ _ 2 _ _ _ rx_4
          have r3_rx_4 := cell_of_row _ _ 3 _ _ _ rx_4
          have r4_rx_4 := cell_of_row _ _ 4 _ _ _ rx_4
          have r5_rx_4 := cell_of_row _ _ 5 _ _ _ rx_4
          have f0_rx_4 := frozen_of_row _ _ 0 _ _ rx_4
          have f1_rx_4 := frozen_of_row _ _ 1 _ _ rx_4
          have f2_rx_4 := frozen_of_row _ _ 2 _ _ rx_4
          have f3_rx_4 := frozen_of_row _ _ 3 _ _ rx_4
          have f4_rx_4 := frozen_of_row _ _ 4 _ _ rx_4
          have f5_rx_4 := frozen_of_row _ _ 5 _ _ rx_4
          simp at r0_rx_4 r1_rx_4 r2_rx_4 r3_rx_4 r4_rx_4 r5_rx_4
          clear rx_4
          have Ry_4 := Lib.hid ry_4
          have r0_ry_4 := cell_of_row _ _ 0 _ _ _ ry_4
          have r1_ry_4 := cell_of_row _ _ 1 _ _ _ ry_4
          have r2_ry_4 := cell_of_row _ _ 2 _ _ _ ry_4
          have r3_ry_4 := cell_of_row _ _ 3 _ _ _ ry_4
          have r4_ry_4 := cell_of_row _ _ 4 _ _ _ ry_4
          have r5_ry_4 := cell_of_row _ _ 5 _ _ _ ry_4
          have f0_ry_4 := frozen_of_row _ _ 0 _ _ ry_4
          have f1_ry_4 := frozen_of_row _ _ 1 _ _ ry_4
          have f2_ry_4 := frozen_of_row _ _ 2 _ _ ry_4
          have f3_ry_4 := frozen_of_row _ _ 3 _ _ ry_4
          have f4_ry_4 := frozen_of_row _ _ 4 _ _ ry_4
          have f5_ry_4 := frozen_of_row _ _ 5 _ _ ry_4
          simp at r0_ry_4 r1_ry_4 r2_ry_4 r3_ry_4 r4_ry_4 r5_ry_4
          clear ry_4
          clear r0_rs_3 f0_rs_3 r1_rs_3 f1_rs_3 r2_rs_3 f2_rs_3 r3_rs_3 f3_rs_3 r4_rs_3 f4_rs_3 r5_rs_3 f5_rs_3
          clear r0_rx_3 f0_rx_3 r1_rx_3 f1_rx_3 r2_rx_3 f2_rx_3 r3_rx_3 f3_rx_3 r4_rx_3 f4_rx_3 r5_rx_3 f5_rx_3
          go_wp2_with fail
          go_cut [2] (fun z wx => z = .bool true ∧ Below w4.heap.size w4 wx)
          case rest =>
            obtain ⟨rfl, hbz⟩ := hcut
            go_wp2_with fail
            go_ret
            exact ⟨rfl, hw4.trans (hbz.mono hw4.size)⟩
          case first =>
            refine wp_region_noPanic ?_
            refine wp_region_held_drew (S := (fun w' => (∀ b' o, b' < w4.heap.size → w'.cell? ⟨b', o, none⟩ = w4.cell? ⟨b', o, none⟩) ∧ Below w4.heap.size w4 w')) (by kernel_rfl) (by first | exact rg_start _) (fun hHeld => ?_)
            refine wpAnyH_take (i := 0) (oi := _) (v := ?v0_106) rfl (by kernel_rfl) (by kernel_rfl) (by kernel_rfl) (fun _ _ _ h => h) (Or.inl ⟨by rfl, ?hy0_106⟩) (by with_reducible assumption) ?rest0_106
            case hy0_106 => ((intro w hSw; (try dsimp only at hSw); go_simp); (try with_reducible rfl))
            (try simp only [Act.put, List.getElem_toArray, List.getElem_cons_succ, List.getElem_cons_zero, List.setIfInBounds_toArray, List.set_cons_zero, List.set_cons_succ])
            refine wpAnyH_ready (rs := [1]) (by kernel_rfl) (by simp) ?_
            refine AllReadyH.cons (o := _) rfl (fun K hK => ?_) AllReadyH.nil
            go_simp
            go_at_call 19; ((with_reducible refine (Y5.out _).mono ?_); (rintro e wq13 ⟨rfl, hbq13⟩; have hSq13 := rg_keepK (by with_reducible assumption) hbq13))
            go_wp2_with fail
            refine hK.out _ _ ?_ (fun hHeld => ?_)
            · (try dsimp only); (first | with_reducible assumption | (with_reducible apply rg_keep; rotate_left; with_reducible assumption; with_reducible assumption) | with_reducible exact rg_start _ | with_reducible exact rg_alloc (KeptS.out (by with_reducible assumption)) _ | with_reducible exact rg_alloc (by with_reducible assumption) _ | with_reducible exact rg_start_alloc _ _ | ((repeat (with_reducible refine rg_set ?_ _ (by first | exact Nat.le_refl _ | omega | (simp; done) | (simp; omega)) _)); first | with_reducible exact KeptS.out (by with_reducible assumption) | with_reducible assumption | with_reducible exact rg_alloc (KeptS.out (by with_reducible assumption)) _))
            clear hK K
            (try simp only [Act.put, List.getElem_toArray, List.getElem_cons_succ, List.getElem_cons_zero, List.setIfInBounds_toArray, List.set_cons_zero, List.set_cons_succ])
            refine wpAnyH_take (i := 2) (oi := _) (v := ?v2_107) rfl (by kernel_rfl) (by kernel_rfl) (by kernel_rfl) (fun _ _ _ h => h) (Or.inl ⟨by rfl, ?hy2_107⟩) (by with_reducible assumption) ?rest2_107
            case hy2_107 => ((intro w hSw; (try dsimp only at hSw); go_simp); (try with_reducible rfl))
            (try simp only [Act.put, List.getElem_toArray, List.getElem_cons_succ, List.getElem_cons_zero, List.setIfInBounds_toArray, List.set_cons_zero, List.set_cons_succ])
            refine wpAnyH_take (i := 3) (oi := _) (v := ?v3_108) rfl (by kernel_rfl) (by kernel_rfl) (by kernel_rfl) (fun _ _ _ h => h) (Or.inl ⟨by rfl, ?hy3_108⟩) (by with_reducible assumption) ?rest3_108
            case hy3_108 => ((intro w hSw; (try dsimp only at hSw); go_simp); (try with_reducible rfl))
            (try simp only [Act.put, List.getElem_toArray, List.getElem_cons_succ, List.getElem_cons_zero, List.setIfInBounds_toArray, List.set_cons_zero, List.set_cons_succ])
            refine wpAnyH_take (i := 4) (oi := _) (v := ?v4_109) rfl (by kernel_rfl) (by kernel_rfl) (by kernel_rfl) (fun _ _ _ h => h) (Or.inl ⟨by rfl, ?hy4_109⟩) (by with_reducible assumption) ?rest4_109
            case hy4_109 => ((intro w hSw; (try dsimp only at hSw); go_simp); (try with_reducible rfl))
            (try simp only [Act.put, List.getElem_toArray, List.getElem_cons_succ, List.getElem_cons_zero, List.setIfInBounds_toArray, List.set_cons_zero, List.set_cons_succ])
            refine wpAnyH_take (i := 5) (oi := _) (v := ?v5_110) rfl (by kernel_rfl) (by kernel_rfl) (by kernel_rfl) (fun _ _ _ h => h) (Or.inl ⟨by rfl, ?hy5_110⟩) (by with_reducible assumption) ?rest5_110
            case hy5_110 => ((intro w hSw; (try dsimp only at hSw); go_simp); (try with_reducible rfl))
            (try simp only [Act.put, List.getElem_toArray, List.getElem_cons_succ, List.getElem_cons_zero, List.setIfInBounds_toArray, List.set_cons_zero, List.set_cons_succ])
            refine wpAnyH_ready (rs := [6]) (by kernel_rfl) (by simp) ?_
            refine AllReadyH.cons (o := _) rfl (fun K hK => ?_) AllReadyH.nil
            go_simp
            go_at_call 41; ((with_reducible refine (Y4.out _).mono ?_); rintro e w' ⟨rfl, rfl⟩)
            go_wp2_with fail
            refine hK.out _ _ ?_ (fun hHeld => ?_)
            · (try dsimp only); (first | with_reducible assumption | (with_reducible apply rg_keep; rotate_left; with_reducible assumption; with_reducible assumption) | with_reducible exact rg_start _ | with_reducible exact rg_alloc (KeptS.out (by with_reducible assumption)) _ | with_reducible exact rg_alloc (by with_reducible assumption) _ | with_reducible exact rg_start_alloc _ _ | ((repeat (with_reducible refine rg_set ?_ _ (by first | exact Nat.le_refl _ | omega | (simp; done) | (simp; omega)) _)); first | with_reducible exact KeptS.out (by with_reducible assumption) | with_reducible assumption | with_reducible exact rg_alloc (KeptS.out (by with_reducible assumption)) _))
            clear hK K
            (try simp only [Act.put, List.getElem_toArray, List.getElem_cons_succ, List.getElem_cons_zero, List.setIfInBounds_toArray, List.set_cons_zero, List.set_cons_succ])
            refine wpAnyH_take (i := 7) (oi := _) (v := ?v7_111) rfl (by kernel_rfl) (by kernel_rfl) (by kernel_rfl) (fun _ _ _ h => h) (Or.inl ⟨by rfl, ?hy7_111⟩) (by with_reducible assumption) ?rest7_111
            case hy7_111 => ((intro w hSw; (try dsimp only at hSw); go_simp); (try with_reducible rfl))
            (try simp only [Act.put, List.getElem_toArray, List.getElem_cons_succ, List.getElem_cons_zero, List.setIfInBounds_toArray, List.set_cons_zero, List.set_cons_succ])
            refine wpAnyH_take (i := 8) (oi := _) (v := ?v8_112) rfl (by kernel_rfl) (by kernel_rfl) (by kernel_rfl) (fun _ _ _ h => h) (Or.inl ⟨by rfl, ?hy8_112⟩) (by with_reducible assumption) ?rest8_112
            case hy8_112 => ((intro w hSw; (try dsimp only at hSw); go_simp); (try with_reducible rfl))
            (try simp only [Act.put, List.getElem_toArray, List.getElem_cons_succ, List.getElem_cons_zero, List.setIfInBounds_toArray, List.set_cons_zero, List.set_cons_succ])
            refine wpAnyH_take (i := 9) (oi := _) (v := ?v9_113) rfl (by kernel_rfl) (by kernel_rfl) (by kernel_rfl) (fun _ _ _ h => h) (Or.inl ⟨by rfl, ?hy9_113⟩) (by with_reducible assumption) ?rest9_113
            case hy9_113 => ((intro w hSw; (try dsimp only at hSw); go_simp); (try with_reducible rfl))
            (try simp only [Act.put, List.getElem_toArray, List.getElem_cons_succ, List.getElem_cons_zero, List.setIfInBounds_toArray, List.set_cons_zero, List.set_cons_succ])
            refine wpAnyH_take (i := 10) (oi := _) (v := ?v10_114) rfl (by kernel_rfl) (by kernel_rfl) (by kernel_rfl) (fun _ _ _ h => h) (Or.inl ⟨by rfl, ?hy10_114⟩) (by with_reducible assumption) ?rest10_114
            case hy10_114 => ((intro w hSw; (try dsimp only at hSw); go_simp); (try with_reducible rfl))
            (try simp only [Act.put, List.getElem_toArray, List.getElem_cons_succ, List.getElem_cons_zero, List.setIfInBounds_toArray, List.set_cons_zero, List.set_cons_succ])
            refine wpAnyH_take (i := 12) (oi := _) (v := ?v12_115) rfl (by kernel_rfl) (by kernel_rfl) (by kernel_rfl) (fun _ _ _ h => h) (Or.inl ⟨by rfl, ?hy12_115⟩) (by with_reducible assumption) ?rest12_115
            case hy12_115 => ((intro w hSw; (try dsimp only at hSw); go_simp); (try with_reducible rfl))
            (try simp only [Act.put, List.getElem_toArray, List.getElem_cons_succ, List.getElem_cons_zero, List.setIfInBounds_toArray, List.set_cons_zero, List.set_cons_succ])
            refine wpAnyH_ready (rs := [11]) (by kernel_rfl) (by simp) ?_
            refine AllReadyH.cons (o := _) rfl (fun K hK => ?_) AllReadyH.nil
            go_simp
            go_at_call 17; ((with_reducible refine (Y6.out _).mono ?_); (rintro e wq15 ⟨rfl, hbq15⟩; have hSq15 := rg_keepK (by with_reducible assumption) hbq15))
            go_wp2_with fail
            refine hK.out _ _ ?_ (fun hHeld => ?_)
            · (try dsimp only); (first | with_reducible assumption | (with_reducible apply rg_keep; rotate_left; with_reducible assumption; with_reducible assumption) | with_reducible exact rg_start _ | with_reducible exact rg_alloc (KeptS.out (by with_reducible assumption)) _ | with_reducible exact rg_alloc (by with_reducible assumption) _ | with_reducible exact rg_start_alloc _ _ | ((repeat (with_reducible refine rg_set ?_ _ (by first | exact Nat.le_refl _ | omega | (simp; done) | (simp; omega)) _)); first | with_reducible exact KeptS.out (by with_reducible assumption) | with_reducible assumption | with_reducible exact rg_alloc (KeptS.out (by with_reducible assumption)) _))
            clear hK K
            (try simp only [Act.put, List.getElem_toArray, List.getElem_cons_succ, List.getElem_cons_zero, List.setIfInBounds_toArray, List.set_cons_zero, List.set_cons_succ])
            refine wpAnyH_ready (rs := [13]) (by kernel_rfl) (by simp) ?_
            refine AllReadyH.cons (o := _) rfl (fun K hK => ?_) AllReadyH.nil
            go_simp
            go_at_call 17; ((with_reducible refine (Y7.out _).mono ?_); (rintro e wq16 ⟨rfl, hbq16⟩; have hSq16 := rg_keepK (by with_reducible assumption) hbq16))
            go_wp2_with fail
            refine hK.out _ _ ?_ (fun hHeld => ?_)
            · (try dsimp only); (first | with_reducible assumption | (with_reducible apply rg_keep; rotate_left; with_reducible assumption; with_reducible assumption) | with_reducible exact rg_start _ | with_reducible exact rg_alloc (KeptS.out (by with_reducible assumption)) _ | with_reducible exact rg_alloc (by with_reducible assumption) _ | with_reducible exact rg_start_alloc _ _ | ((repeat (with_reducible refine rg_set ?_ _ (by first | exact Nat.le_refl _ | omega | (simp; done) | (simp; omega)) _)); first | with_reducible exact KeptS.out (by with_reducible assumption) | with_reducible assumption | with_reducible exact rg_alloc (KeptS.out (by with_reducible assumption)) _))
            clear hK K
            (try simp only [Act.put, List.getElem_toArray, List.getElem_cons_succ, List.getElem_cons_zero, List.setIfInBounds_toArray, List.set_cons_zero, List.set_cons_succ])
            refine wpAnyH_take (i := 14) (oi := _) (v := ?v14_116) rfl (by kernel_rfl) (by kernel_rfl) (by kernel_rfl) (fun _ _ _ h => h) (Or.inl ⟨by rfl, ?hy14_116⟩) (by with_reducible assumption) ?rest14_116
            case hy14_116 => ((intro w hSw; (try dsimp only at hSw); go_simp); (try with_reducible rfl))
            (try simp only [Act.put, List.getElem_toArray, List.getElem_cons_succ, List.getElem_cons_zero, List.setIfInBounds_toArray, List.set_cons_zero, List.set_cons_succ])
            refine wpAnyH_take (i := 15) (oi := _) (v := ?v15_117) rfl (by kernel_rfl) (by kernel_rfl) (by kernel_rfl) (fun _ _ _ h => h) (Or.inl ⟨by rfl, ?hy15_117⟩) (by with_reducible assumption) ?rest15_117
            case hy15_117 => ((intro w hSw; (try dsimp only at hSw); go_simp); (try with_reducible rfl))
            (try simp only [Act.put, List.getElem_toArray, List.getElem_cons_succ, List.getElem_cons_zero, List.setIfInBounds_toArray, List.set_cons_zero, List.set_cons_succ])
            refine wpAnyH_take (i := 16) (oi := _) (v := ?v16_118) rfl (by kernel_rfl) (by kernel_rfl) (by kernel_rfl) (fun _ _ _ h => h) (Or.inl ⟨by rfl, ?hy16_118⟩) (by with_reducible assumption) ?rest16_118
            case hy16_118 => ((intro w hSw; (try dsimp only at hSw); go_simp); (try with_reducible rfl))
            (try simp only [Act.put, List.getElem_toArray, List.getElem_cons_succ, List.getElem_cons_zero, List.setIfInBounds_toArray, List.set_cons_zero, List.set_cons_succ])
            refine wpAnyH_take (i := 17) (oi := _) (v := ?v17_119) rfl (by kernel_rfl) (by kernel_rfl) (by kernel_rfl) (fun _ _ _ h => h) (Or.inl ⟨by rfl, ?hy17_119⟩) (by with_reducible assumption) ?rest17_119
            case hy17_119 => ((intro w hSw; (try dsimp only at hSw); go_simp); (try with_reducible rfl))
            (try simp only [Act.put, List.getElem_toArray, List.getElem_cons_succ, List.getElem_cons_zero, List.setIfInBounds_toArray, List.set_cons_zero, List.set_cons_succ])
            refine wpAnyH_take (i := 18) (oi := _) (v := ?v18_120) rfl (by kernel_rfl) (by kernel_rfl) (by kernel_rfl) (fun _ _ _ h => h) (Or.inl ⟨by rfl, ?hy18_120⟩) (by with_reducible assumption) ?rest18_120
            case hy18_120 => ((intro w hSw; (try dsimp only at hSw); go_simp); (try with_reducible rfl))
            (try simp only [Act.put, List.getElem_toArray, List.getElem_cons_succ, List.getElem_cons_zero, List.setIfInBounds_toArray, List.set_cons_zero, List.set_cons_succ])
            refine wpAnyH_take (i := 19) (oi := _) (v := ?v19_121) rfl (by kernel_rfl) (by kernel_rfl) (by kernel_rfl) (fun _ _ _ h => h) (Or.inl ⟨by rfl, ?hy19_121⟩) (by with_reducible assumption) ?rest19_121
            case hy19_121 => ((intro w hSw; (try dsimp only at hSw); go_simp); (try with_reducible rfl))
            (try simp only [Act.put, List.getElem_toArray, List.getElem_cons_succ, List.getElem_cons_zero, List.setIfInBounds_toArray, List.set_cons_zero, List.set_cons_succ])
            refine wpAnyH_take (i := 20) (oi := _) (v := ?v20_122) rfl (by kernel_rfl) (by kernel_rfl) (by kernel_rfl) (fun _ _ _ h => h) (Or.inl ⟨by rfl, ?hy20_122⟩) (by with_reducible assumption) ?rest20_122
            case hy20_122 => ((intro w hSw; (try dsimp only at hSw); go_simp); (try with_reducible rfl))
            (try simp only [Act.put, List.getElem_toArray, List.getElem_cons_succ, List.getElem_cons_zero, List.setIfInBounds_toArray, List.set_cons_zero, List.set_cons_succ])
            refine wpAnyH_take (i := 21) (oi := _) (v := ?v21_123) rfl (by kernel_rfl) (by kernel_rfl) (by kernel_rfl) (fun _ _ _ h => h) (Or.inl ⟨by rfl, ?hy21_123⟩) (by with_reducible assumption) ?rest21_123
            case hy21_123 => ((intro w hSw; (try dsimp only at hSw); go_simp); (try with_reducible rfl))
            (try simp only [Act.put, List.getElem_toArray, List.getElem_cons_succ, List.getElem_cons_zero, List.setIfInBounds_toArray, List.set_cons_zero, List.set_cons_succ])
            refine wpAnyH_take (i := 22) (oi := _) (v := ?v22_124) rfl (by kernel_rfl) (by kernel_rfl) (by kernel_rfl) (fun _ _ _ h => h) (Or.inl ⟨by rfl, ?hy22_124⟩) (by with_reducible assumption) ?rest22_124
            case hy22_124 => ((intro w hSw; (try dsimp only at hSw); go_simp); (try with_reducible rfl))
            (try simp only [Act.put, List.getElem_toArray, List.getElem_cons_succ, List.getElem_cons_zero, List.setIfInBounds_toArray, List.set_cons_zero, List.set_cons_succ])
            refine wpAnyH_take (i := 23) (oi := _) (v := ?v23_125) rfl (by kernel_rfl) (by kernel_rfl) (by kernel_rfl) (fun _ _ _ h => h) (Or.inl ⟨by rfl, ?hy23_125⟩) (by with_reducible assumption) ?rest23_125
            case hy23_125 => ((intro w hSw; (try dsimp only at hSw); go_simp); (try with_reducible rfl))
            (try simp only [Act.put, List.getElem_toArray, List.getElem_cons_succ, List.getElem_cons_zero, List.setIfInBounds_toArray, List.set_cons_zero, List.set_cons_succ])
            refine wpAnyH_take (i := 24) (oi := _) (v := ?v24_126) rfl (by kernel_rfl) (by kernel_rfl) (by kernel_rfl) (fun _ _ _ h => h) (Or.inl ⟨by rfl, ?hy24_126⟩) (by with_reducible assumption) ?rest24_126
            case hy24_126 => ((intro w hSw; (try dsimp only at hSw); go_simp); (try with_reducible rfl))
            (try simp only [Act.put, List.getElem_toArray, List.getElem_cons_succ, List.getElem_cons_zero, List.setIfInBounds_toArray, List.set_cons_zero, List.set_cons_succ])
            refine wpAnyH_take (i := 25) (oi := _) (v := ?v25_127) rfl (by kernel_rfl) (by kernel_rfl) (by kernel_rfl) (fun _ _ _ h => h) (Or.inl ⟨by rfl, ?hy25_127⟩) (by with_reducible assumption) ?rest25_127
            case hy25_127 => ((intro w hSw; (try dsimp only at hSw); go_simp); (try with_reducible rfl))
            (try simp only [Act.put, List.getElem_toArray, List.getElem_cons_succ, List.getElem_cons_zero, List.setIfInBounds_toArray, List.set_cons_zero, List.set_cons_succ])
            refine wpAnyH_take (i := 26) (oi := _) (v := ?v26_128) rfl (by kernel_rfl) (by kernel_rfl) (by kernel_rfl) (fun _ _ _ h => h) (Or.inl ⟨by rfl, ?hy26_128⟩) (by with_reducible assumption) ?rest26_128
            case hy26_128 => ((intro w hSw; (try dsimp only at hSw); go_simp); (try with_reducible rfl))
            (try simp only [Act.put, List.getElem_toArray, List.getElem_cons_succ, List.getElem_cons_zero, List.setIfInBounds_toArray, List.set_cons_zero, List.set_cons_succ])
            refine wpAnyH_take (i := 27) (oi := _) (v := ?v27_129) rfl (by kernel_rfl) (by kernel_rfl) (by kernel_rfl) (fun _ _ _ h => h) (Or.inl ⟨by rfl, ?hy27_129⟩) (by with_reducible assumption) ?rest27_129
            case hy27_129 => ((intro w hSw; (try dsimp only at hSw); go_simp); (try with_reducible rfl))
            (try simp only [Act.put, List.getElem_toArray, List.getElem_cons_succ, List.getElem_cons_zero, List.setIfInBounds_toArray, List.set_cons_zero, List.set_cons_succ])
            refine wpAnyH_take (i := 28) (oi := _) (v := ?v28_130) rfl (by kernel_rfl) (by kernel_rfl) (by kernel_rfl) (fun _ _ _ h => h) (Or.inl ⟨by rfl, ?hy28_130⟩) (by with_reducible assumption) ?rest28_130
            case hy28_130 => ((intro w hSw; (try dsimp only at hSw); go_simp); (try with_reducible rfl))
            (try simp only [Act.put, List.getElem_toArray, List.getElem_cons_succ, List.getElem_cons_zero, List.setIfInBounds_toArray, List.set_cons_zero, List.set_cons_succ])
            refine wpAnyH_take (i := 29) (oi := _) (v := ?v29_131) rfl (by kernel_rfl) (by kernel_rfl) (by kernel_rfl) (fun _ _ _ h => h) (Or.inl ⟨by rfl, ?hy29_131⟩) (by with_reducible assumption) ?rest29_131
            case hy29_131 => ((intro w hSw; (try dsimp only at hSw); go_simp); (try with_reducible rfl))
            (try simp only [Act.put, List.getElem_toArray, List.getElem_cons_succ, List.getElem_cons_zero, List.setIfInBounds_toArray, List.set_cons_zero, List.set_cons_succ])
            refine wpAnyH_take (i := 30) (oi := _) (v := ?v30_132) rfl (by kernel_rfl) (by kernel_rfl) (by kernel_rfl) (fun _ _ _ h => h) (Or.inl ⟨by rfl, ?hy30_132⟩) (by with_reducible assumption) ?rest30_132
            case hy30_132 => ((intro w hSw; (try dsimp only at hSw); go_simp); (try with_reducible rfl))
            (try simp only [Act.put, List.getElem_toArray, List.getElem_cons_succ, List.getElem_cons_zero, List.setIfInBounds_toArray, List.set_cons_zero, List.set_cons_succ])
            refine wpAnyH_take (i := 31) (oi := _) (v := undef) rfl (by kernel_rfl) (by kernel_rfl) (by kernel_rfl) (fun _ _ _ h => h) (Or.inr ⟨by rfl, rfl⟩) (by with_reducible assumption) ?rest31_133
            (try simp only [Act.put, List.getElem_toArray, List.getElem_cons_succ, List.getElem_cons_zero, List.setIfInBounds_toArray, List.set_cons_zero, List.set_cons_succ])
            refine wpAnyH_take (i := 32) (oi := _) (v := undef) rfl (by kernel_rfl) (by kernel_rfl) (by kernel_rfl) (fun _ _ _ h => h) (Or.inr ⟨by rfl, rfl⟩) (by with_reducible assumption) ?rest32_134
            (try simp only [Act.put, List.getElem_toArray, List.getElem_cons_succ, List.getElem_cons_zero, List.setIfInBounds_toArray, List.set_cons_zero, List.set_cons_succ])
            refine wpAnyH_take (i := 33) (oi := _) (v := undef) rfl (by kernel_rfl) (by kernel_rfl) (by kernel_rfl) (fun _ _ _ h => h) (Or.inr ⟨by rfl, rfl⟩) (by with_reducible assumption) ?rest33_135
            (try simp only [Act.put, List.getElem_toArray, List.getElem_cons_succ, List.getElem_cons_zero, List.setIfInBounds_toArray, List.set_cons_zero, List.set_cons_succ])
            refine wpAnyH_take (i := 34) (oi := _) (v := undef) rfl (by kernel_rfl) (by kernel_rfl) (by kernel_rfl) (fun _ _ _ h => h) (Or.inr ⟨by rfl, rfl⟩) (by with_reducible assumption) ?rest34_136
            (try simp only [Act.put, List.getElem_toArray, List.getElem_cons_succ, List.getElem_cons_zero, List.setIfInBounds_toArray, List.set_cons_zero, List.set_cons_succ])
            refine wpAnyH_take (i := 35) (oi := _) (v := ?v35_137) rfl (by kernel_rfl) (by kernel_rfl) (by kernel_rfl) (fun _ _ _ h => h) (Or.inl ⟨by rfl, ?hy35_137⟩) (by with_reducible assumption) ?rest35_137
            case hy35_137 => ((intro w hSw; (try dsimp only at hSw); go_simp); (try with_reducible rfl))
            (try simp only [Act.put, List.getElem_toArray, List.getElem_cons_succ, List.getElem_cons_zero, List.setIfInBounds_toArray, List.set_cons_zero, List.set_cons_succ])
            refine wpAnyH_take (i := 36) (oi := _) (v := ?v36_138) rfl (by kernel_rfl) (by kernel_rfl) (by kernel_rfl) (fun _ _ _ h => h) (Or.inl ⟨by rfl, ?hy36_138⟩) (by with_reducible assumption) ?rest36_138
            case hy36_138 => ((intro w hSw; (try dsimp only at hSw); go_simp); (try with_reducible rfl))
            (try simp only [Act.put, List.getElem_toArray, List.getElem_cons_succ, List.getElem_cons_zero, List.setIfInBounds_toArray, List.set_cons_zero, List.set_cons_succ])
            refine wpAnyH_take (i := 37) (oi := _) (v := ?v37_139) rfl (by kernel_rfl) (by kernel_rfl) (by kernel_rfl) (fun _ _ _ h => h) (Or.inl ⟨by rfl, ?hy37_139⟩) (by with_reducible assumption) ?rest37_139
            case hy37_139 => ((intro w hSw; (try dsimp only at hSw); go_simp); (try with_reducible rfl))
            (try simp only [Act.put, List.getElem_toArray, List.getElem_cons_succ, List.getElem_cons_zero, List.setIfInBounds_toArray, List.set_cons_zero, List.set_cons_succ])
            refine wpAnyH_take (i := 38) (oi := _) (v := ?v38_140) rfl (by kernel_rfl) (by kernel_rfl) (by kernel_rfl) (fun _ _ _ h => h) (Or.inl ⟨by rfl, ?hy38_140⟩) (by with_reducible assumption) ?rest38_140
            case hy38_140 => ((intro w hSw; (try dsimp only at hSw); go_simp); (try with_reducible rfl))
            (try simp only [Act.put, List.getElem_toArray, List.getElem_cons_succ, List.getElem_cons_zero, List.setIfInBounds_toArray, List.set_cons_zero, List.set_cons_succ])
            refine wpAnyH_done (by kernel_rfl) (NoPanic.normal ?_) _
            go_wp2_with fail
            go_meet
            exact ⟨by first | rfl | simp, (by assumption : _ ∧ Below w4.heap.size w4 _).2⟩

set_option maxRecDepth 100000 in
theorem FnAcked_lifted (os : Os) (started : os.Started) (H : Type) (enc : TypeId × Value → H) :
    ReturnsInHanded {} Try.checked os 13 .any (Rows.fnAckedSpec.pre6 enc Try.prog Try.f13 Rows.fnAckedRow.domain false) (Rows.fnAckedSpec.post enc Try.prog Try.f13 false true false false) := by
  refine law_lifted (C := Try.checked) own_ started (by kernel_rfl) Try.func13 laid_ rfl ?_ ?_ rfl Try.underlying4
    (ChangeSpec.witness6 (enc := enc) (C := Try.checked) false ⟨#[], #[.slice none 0 0], []⟩ 8 (by kernel_rfl) (by kernel_rfl) (by kernel_rfl) (by kernel_rfl)) ?_
  · intro ds h
    match ds, h with
    | [_], _ => rfl
  · intro t ht
    rw [Try.params13] at ht
    simp at ht
    subst ht
    exact ⟨by kernel_rfl, of_decide_eq_true (by kernel_rfl)⟩
  · intro W base args ds p hval hA hlt
    have hval : ∀ (j : Nat) t v, Try.f13.params[j]? = some t → args[j]? = some v → Value.okWide Try.prog W .any base t v := hval
    have hA : DataW.TrodAll enc Try.prog W 0 (fun _ => true) true Try.f13.params.toList args.toList ds p := hA
    rw [Try.params13] at hA hval
    obtain ⟨v0, d0, rfl, rfl, h0⟩ := trodAll_one hA
    obtain ⟨Aa, na, ca, rfl, wna, wba, wca⟩ := open_bytes (hval 0 49 v0 rfl rfl) h0
    exact FnAcked_walk wna W wba

theorem FnAcked_holds : Rows.FnAckedSaid :=
  OpenClaim.holds_of_wide 13 Try.f13 rfl rfl rfl rfl rfl rfl rfl ⟨rfl, rfl, rfl, rfl, rfl⟩ rfl rfl rfl rfl rfl (by kernel_rfl) Try.func13 (by kernel_rfl)
    (of_decide_eq_true (by kernel_rfl)) (by have hw := wrap_ (P := Try.prog) (fn := Try.f13) (by kernel_rfl); exact hw)
    (fun os started H enc _ => FnAcked_lifted os started H enc)
end Go.Proofs.Ytkkpeienbhbgeaa
