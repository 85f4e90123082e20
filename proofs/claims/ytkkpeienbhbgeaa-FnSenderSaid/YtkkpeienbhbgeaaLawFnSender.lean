/-
  The law FnSender returns true for every input. No condition.
-/
import Derived.Test.YtkkpeienbhbgeaaSdq
import Derived.Test.YtkkpeienbhbgeaaSpl
import Derived.Test.YtkkpeienbhbgeaaSndRw
import Derived.Test.YtkkpeienbhbgeaaSndQ
import Derived.Test.YtkkpeienbhbgeaaSndA
import Derived.Test.YtkkpeienbhbgeaaSndN
import Derived.Test.YtkkpeienbhbgeaaSndM
import Derived.Test.YtkkpeienbhbgeaaSndC
import Derived.Test.YtkkpeienbhbgeaaBytes
import Derived.Test.YtkkpeienbhbgeaaReg
import Derived.Deep.DeepCutAuto
import Derived.Deep.RegionHeld3
import Derived.IntWalk
namespace Go.Proofs.Ytkkpeienbhbgeaa
set_option maxRecDepth 100000
open Go.ChangeShapes Go.WideShapes Go.ChangeAt Go.RowKit Go.Deep

set_option maxHeartbeats 32000000 in
set_option linter.unusedSimpArgs false in
set_option linter.unusedVariables false in
theorem FnSender_walk {A : Option Addr} {n c : Nat} (hn : n ≤ maxLen) (w : World) (hb : Byts w w.heap.size A n) :
    Calls Try.prog 10 #[.slice A n c] w fun e w' => e = .returned (.bool true) ∧ Below w.heap.size w w' := by
  have hlen := hn
  unfold maxLen at hlen
  by_cases hbig : (1048576 : Int) < n
  · go_enter Try.func10, Try.ntmps10
    go_wp2_with fail
    refine (big_any hn _).mono ?_
    rintro e w' ⟨rfl, rfl⟩
    go_wp2_with fail
    go_ret
    exact ⟨rfl, Below.refl _ _⟩
  go_enter Try.func10, Try.ntmps10
  go_wp2_with fail
  refine (big_any hn _).mono ?_
  rintro e w' ⟨rfl, rfl⟩
  go_wp2_with fail
  refine (DrawQueued_any hn hb).mono ?_
  rintro e w1 ⟨u, d, s, f, fs, dn, t, rfl, hG, ht, hb1⟩
  clear hb
  obtain ⟨⟨hu1, hu2⟩, hd49, hs1, hs2⟩ := hG
  have hdm : d.size ≤ maxLen := by unfold maxLen; omega
  have HDM := Lib.hid hdm
  clear hdm
  have hz1 := hb1.size
  have hw1 : Below w.heap.size w w1 := (by repeat (first | with_reducible exact Below.refl _ _ | with_reducible assumption | with_reducible refine Below.drew ?_ | with_reducible refine Below.alloc ?_ (by first | exact Nat.le_refl _ | omega | (simp; done) | (simp; omega)) _ | with_reducible refine Below.setCell ?_ (by first | exact Nat.le_refl _ | omega | (simp; done) | (simp; omega)) _ | (with_reducible refine ext_trans ?_ (by with_reducible assumption))))
  have htm : t.size ≤ maxLen := by unfold maxLen; omega
  have HTM := Lib.hid htm
  clear htm
  obtain ⟨B1, hB1⟩ : ∃ B, sndB u d s f fs dn = B := ⟨_, rfl⟩
  have y3 := fun W => SenderOk_any u d s f fs dn HDM.out W
  have y4 := fun W => sSenderOk_any u d s f fs dn HDM.out W
  rw [hB1] at y3 y4
  have Y3 := Lib.hid y3
  have Y4 := Lib.hid y4
  clear y3 y4
  cases B1
  case false =>
    have Y1 := Lib.hid (fun W => sQueued_no u d s f fs dn t HDM.out (.inl hB1) W)
    have Y2 := Lib.hid (fun W => Queued_no u d s f fs dn t HDM.out (.inl hB1) W)
    clear hB1
    go_wp2_with fail
    refine (Y2.out _).mono ?_
    rintro e w2 ⟨rfl, hb2⟩
    have hz2 := hb2.size
    (try simp at hz2)
    have rs_2 : w2.heap[w1.heap.size]? = some (.cells #[.int .i64 u, .string d, .int .i64 s, .bool f, .bool fs, .bool dn] 26 (0, 0)) := (hb2.block _ (by first | (simp; done) | (simp; omega))).trans (by repeat (first | exact heap_new _ _ _ (by first | rfl | (simp; done) | (simp; omega)) | refine (Below.heap_alloc _ _ _ (by first | omega | (simp; done) | (simp; omega))).trans ?_))
    have hw2 : Below w.heap.size w w2 := (by repeat (first | with_reducible exact Below.refl _ _ | with_reducible assumption | with_reducible refine Below.drew ?_ | with_reducible refine Below.alloc ?_ (by first | exact Nat.le_refl _ | omega | (simp; done) | (simp; omega)) _ | with_reducible refine Below.setCell ?_ (by first | exact Nat.le_refl _ | omega | (simp; done) | (simp; omega)) _ | (with_reducible refine ext_trans ?_ (by with_reducible assumption))))
    have lRs_2 : w1.heap.size < w2.heap.size := by omega
    have Rs_2 := Lib.hid rs_2
    have r0_rs_2 := cell_of_row _ _ 0 _ _ _ rs_2
    have r1_rs_2 := cell_of_row _ _ 1 _ _ _ rs_2
    have r2_rs_2 := cell_of_row _ _ 2 _ _ _ rs_2
    have r3_rs_2 := cell_of_row _ _ 3 _ _ _ rs_2
    have r4_rs_2 := cell_of_row _ _ 4 _ _ _ rs_2
    have r5_rs_2 := cell_of_row _ _ 5 _ _ _ rs_2
    have f0_rs_2 := frozen_of_row _ _ 0 _ _ rs_2
    have f1_rs_2 := frozen_of_row _ _ 1 _ _ rs_2
    have f2_rs_2 := frozen_of_row _ _ 2 _ _ rs_2
    have f3_rs_2 := frozen_of_row _ _ 3 _ _ rs_2
    have f4_rs_2 := frozen_of_row _ _ 4 _ _ rs_2
    have f5_rs_2 := frozen_of_row _ _ 5 _ _ rs_2
    simp at r0_rs_2 r1_rs_2 r2_rs_2 r3_rs_2 r4_rs_2 r5_rs_2
    clear rs_2
    go_wp2_with fail
    refine (Y1.out _).mono ?_
    rintro e w3 ⟨rfl, hb3⟩
    have hz3 := hb3.size
    (try simp at hz3)
    have rs_3 := (hb3.block _ (by first | omega | (simp; done) | (simp; omega))).trans ((Below.heap_alloc _ _ _ (by first | exact lRs_2 | (simp; omega))).trans Rs_2.out)
    have rx_3 : w3.heap[w2.heap.size]? = some (.cells #[.int .i64 u, .string d, .int .i64 s, .bool f, .bool fs, .bool dn] 26 (0, 0)) := (hb3.block _ (by first | (simp; done) | (simp; omega))).trans (by repeat (first | exact heap_new _ _ _ (by first | rfl | (simp; done) | (simp; omega)) | refine (Below.heap_alloc _ _ _ (by first | omega | (simp; done) | (simp; omega))).trans ?_))
    have hw3 : Below w.heap.size w w3 := (by repeat (first | with_reducible exact Below.refl _ _ | with_reducible assumption | with_reducible refine Below.drew ?_ | with_reducible refine Below.alloc ?_ (by first | exact Nat.le_refl _ | omega | (simp; done) | (simp; omega)) _ | with_reducible refine Below.setCell ?_ (by first | exact Nat.le_refl _ | omega | (simp; done) | (simp; omega)) _ | (with_reducible refine ext_trans ?_ (by with_reducible assumption))))
    have lRs_3 : w1.heap.size < w3.heap.size := by omega
    have lRx_3 : w2.heap.size < w3.heap.size := by omega
    have Rs_3 := Lib.hid rs_3
    have r0_rs_3 := cell_of_row _ _ 0 _ _ _ rs_3
    have r1_rs_3 := cell_of_row _ _ 1 _ _ _ rs_3
    have r2_rs_3 := cell_of_row _ _ 2 _ _ _ rs_3
    have r3_rs_3 := cell_of_row _ _ 3 _ _ _ rs_3
    have r4_rs_3 := cell_of_row _ _ 4 _ _ _ rs_3
    have r5_rs_3 := cell_of_row _ _ 5 _ _ _ rs_3
    have f0_rs_3 := frozen_of_row _ _ 0 _ _ rs_3
    have f1_rs_3 := frozen_of_row _ _ 1 _ _ rs_3
    have f2_rs_3 := frozen_of_row _ _ 2 _ _ rs_3
    have f3_rs_3 := frozen_of_row _ _ 3 _ _ rs_3
    have f4_rs_3 := frozen_of_row _ _ 4 _ _ rs_3
    have f5_rs_3 := frozen_of_row _ _ 5 _ _ rs_3
    simp at r0_rs_3 r1_rs_3 r2_rs_3 r3_rs_3 r4_rs_3 r5_rs_3
    clear rs_3
    have Rx_3 := Lib.hid rx_3
    have r0_rx_3 := cell_of_row _ _ 0 _ _ _ rx_3
    have r1_rx_3 := cell_of_row _ _ 1 _ _ _ rx_3
    have r2_rx_3 := cell_of_row _ _ 2 _ _ _ rx_3
    have r3_rx_3 := cell_of_row _ _ 3 _ _ _ rx_3
    have r4_rx_3 := cell_of_row _ _ 4 _ _ _ rx_3
    have r5_rx_3 := cell_of_row _ _ 5 _ _ _ rx_3
    have f0_rx_3 := frozen_of_row _ _ 0 _ _ rx_3
    have f1_rx_3 := frozen_of_row _ _ 1 _ _ rx_3
    have f2_rx_3 := frozen_of_row _ _ 2 _ _ rx_3
    have f3_rx_3 := frozen_of_row _ _ 3 _ _ rx_3
    have f4_rx_3 := frozen_of_row _ _ 4 _ _ rx_3
    have f5_rx_3 := frozen_of_row _ _ 5 _ _ rx_3
    simp at r0_rx_3 r1_rx_3 r2_rx_3 r3_rx_3 r4_rx_3 r5_rx_3
    clear rx_3
    clear r0_rs_2 f0_rs_2 r1_rs_2 f1_rs_2 r2_rs_2 f2_rs_2 r3_rs_2 f3_rs_2 r4_rs_2 f4_rs_2 r5_rs_2 f5_rs_2
    go_wp2_with fail
    have hb4 : Below w3.heap.size w3 (w3.alloc (.cells #[.int .i64 u, .string d, .int .i64 s, .bool f, .bool fs, .bool dn] 26)) := (by repeat (first | with_reducible exact Below.refl _ _ | with_reducible assumption | with_reducible refine Below.drew ?_ | with_reducible refine Below.alloc ?_ (by first | exact Nat.le_refl _ | omega | (simp; done) | (simp; omega)) _ | with_reducible refine Below.setCell ?_ (by first | exact Nat.le_refl _ | omega | (simp; done) | (simp; omega)) _ | (with_reducible refine ext_trans ?_ (by with_reducible assumption))))
    have ry_4 : (w3.alloc (.cells #[.int .i64 u, .string d, .int .i64 s, .bool f, .bool fs, .bool dn] 26)).heap[w3.heap.size]? = some (.cells #[.int .i64 u, .string d, .int .i64 s, .bool f, .bool fs, .bool dn] 26 (0, 0)) := (by repeat (first | exact heap_new _ _ _ (by first | rfl | (simp; done) | (simp; omega)) | refine (Below.heap_alloc _ _ _ (by first | omega | (simp; done) | (simp; omega))).trans ?_))
    have lNy_4 : w3.heap.size < (w3.alloc (.cells #[.int .i64 u, .string d, .int .i64 s, .bool f, .bool fs, .bool dn] 26)).heap.size := by simp
    generalize (w3.alloc (.cells #[.int .i64 u, .string d, .int .i64 s, .bool f, .bool fs, .bool dn] 26)) = w4 at *
    have hz4 := hb4.size
    (try simp at hz4)
    have rs_4 := (hb4.block _ (by first | omega | (simp; done) | (simp; omega))).trans Rs_3.out
    have rx_4 := (hb4.block _ (by first | omega | (simp; done) | (simp; omega))).trans Rx_3.out
    have hw4 : Below w.heap.size w w4 := (by repeat (first | with_reducible exact Below.refl _ _ | with_reducible assumption | with_reducible refine Below.drew ?_ | with_reducible refine Below.alloc ?_ (by first | exact Nat.le_refl _ | omega | (simp; done) | (simp; omega)) _ | with_reducible refine Below.setCell ?_ (by first | exact Nat.le_refl _ | omega | (simp; done) | (simp; omega)) _ | (with_reducible refine ext_trans ?_ (by with_reducible assumption))))
    have lRs_4 : w1.heap.size < w4.heap.size := by omega
    have lRx_4 : w2.heap.size < w4.heap.size := by omega
    have lRy_4 : w3.heap.size < w4.heap.size := by omega
    have Rs_4 := Lib.hid rs_4
    have r0_rs_4 := cell_of_row _ _ 0 _ _ _ rs_4
    have r1_rs_4 := cell_of_row _ _ 1 _ _ _ rs_4
    have r2_rs_4 := cell_of_row _ _ 2 _ _ _ rs_4
    have r3_rs_4 := cell_of_row _ _ 3 _ _ _ rs_4
    have r4_rs_4 := cell_of_row _ _ 4 _ _ _ rs_4
    have r5_rs_4 := cell_of_row _ _ 5 _ _ _ rs_4
    have f0_rs_4 := frozen_of_row _ _ 0 _ _ rs_4
    have f1_rs_4 := frozen_of_row _ _ 1 _ _ rs_4
    have f2_rs_4 := frozen_of_row _ _ 2 _ _ rs_4
    have f3_rs_4 := frozen_of_row _ _ 3 _ _ rs_4
    have f4_rs_4 := frozen_of_row _ _ 4 _ _ rs_4
    have f5_rs_4 := frozen_of_row _ _ 5 _ _ rs_4
    simp at r0_rs_4 r1_rs_4 r2_rs_4 r3_rs_4 r4_rs_4 r5_rs_4
    clear rs_4
    have Rx_4 := Lib.hid rx_4
    have r0_rx_4 := cell_of_row _ _ 0 _ _ _ rx_4
    have r1_rx_4 := cell_of_row _ _ 1 _ _ _ rx_4
    have r2_rx_4 := cell_of_row _ _ 2 _ _ _ rx_4
    have r3_rx_4 := cell_of_row _ _ 3 _ _ _ rx_4
    have r4_rx_4 := cell_of_row _ _ 4 _ _ _ rx_4
    have r5_rx_4 := cell_of_row _ _ 5 _ _ _ rx_4
    have f0_rx_4 := frozen_of_row _ _ 0 _ _ rx_4
    have f1_rx_4 := frozen_of_row _ _ 1 _ _ rx_4
    have f2_rx_4 := frozen_of_row _ _ 2 _ _ rx_4
    have f3_rx_4 := frozen_of_row _ _ 3 _ _ rx_4
    have f4_rx_4 := frozen_of_row _ _ 4 _ _ rx_4
    have f5_rx_4 := frozen_of_row _ _ 5 _ _ rx_4
    simp at r0_rx_4 r1_rx_4 r2_rx_4 r3_rx_4 r4_rx_4 r5_rx_4
    clear rx_4
    have Ry_4 := Lib.hid ry_4
    have r0_ry_4 := cell_of_row _ _ 0 _ _ _ ry_4
    have r1_ry_4 := cell_of_row _ _ 1 _ _ _ ry_4
    have r2_ry_4 := cell_of_row _ _ 2 _ _ _ ry_4
    have r3_ry_4 := cell_of_row _ _ 3 _ _ _ ry_4
    have r4_ry_4 := cell_of_row _ _ 4 _ _ _ ry_4
    have r5_ry_4 := cell_of_row _ _ 5 _ _ _ ry_4
    have f0_ry_4 := frozen_of_row _ _ 0 _ _ ry_4
    have f1_ry_4 := frozen_of_row _ _ 1 _ _ ry_4
    have f2_ry_4 := frozen_of_row _ _ 2 _ _ ry_4
    have f3_ry_4 := frozen_of_row _ _ 3 _ _ ry_4
    have f4_ry_4 := frozen_of_row _ _ 4 _ _ ry_4
    have f5_ry_4 := frozen_of_row _ _ 5 _ _ ry_4
    simp at r0_ry_4 r1_ry_4 r2_ry_4 r3_ry_4 r4_ry_4 r5_ry_4
    clear ry_4
    clear r0_rs_3 f0_rs_3 r1_rs_3 f1_rs_3 r2_rs_3 f2_rs_3 r3_rs_3 f3_rs_3 r4_rs_3 f4_rs_3 r5_rs_3 f5_rs_3
    clear r0_rx_3 f0_rx_3 r1_rx_3 f1_rx_3 r2_rx_3 f2_rx_3 r3_rx_3 f3_rx_3 r4_rx_3 f4_rx_3 r5_rx_3 f5_rx_3
    go_wp2_with fail
    go_cut [42] (fun z wx => z = .bool false ∧ Below w4.heap.size w4 wx)
    case first =>
      first | go_region_held3 (fun w' => (∀ b' o, b' < (w4).heap.size → w'.cell? ⟨b', o, none⟩ = (w4).cell? ⟨b', o, none⟩) ∧ Below (w4).heap.size (w4) w') (first | with_reducible assumption | (with_reducible apply rg_keep; rotate_left; with_reducible assumption; with_reducible assumption) | with_reducible exact rg_start _ | with_reducible exact rg_alloc (KeptS.out (by with_reducible assumption)) _ | with_reducible exact rg_alloc (by with_reducible assumption) _ | with_reducible exact rg_start_alloc _ _ | ((repeat (with_reducible refine rg_set ?_ _ (by first | exact Nat.le_refl _ | omega | (simp; done) | (simp; omega)) _)); first | with_reducible exact KeptS.out (by with_reducible assumption) | with_reducible assumption | with_reducible exact rg_alloc (KeptS.out (by with_reducible assumption)) _)) (first | (go_at_call 19; ((with_reducible refine (Y3.out _).mono ?_); (rintro e wA ⟨rfl, hbA⟩; have hSA := rg_keepK (by first | with_reducible assumption | exact KeptS.out (by with_reducible assumption)) hbA))) | (go_at_call 18; ((with_reducible refine (Y4.out _).mono ?_); (rintro e wC ⟨rfl, hbC⟩; have hSC := rg_keepK (by first | with_reducible assumption | exact KeptS.out (by with_reducible assumption)) hbC)))) | fail
      all_goals (go_wp2_with fail; go_meet; exact ⟨by simp, (by assumption : _ ∧ Below w4.heap.size w4 wC).2⟩)
    case rest =>
    obtain ⟨rfl, hb5⟩ := hcut
    rename World => w5
    have hz5 := hb5.size
    (try simp at hz5)
    have rs_5 := (hb5.block _ (by first | omega | (simp; done) | (simp; omega))).trans Rs_4.out
    have rx_5 := (hb5.block _ (by first | omega | (simp; done) | (simp; omega))).trans Rx_4.out
    have ry_5 := (hb5.block _ (by first | omega | (simp; done) | (simp; omega))).trans Ry_4.out
    have hw5 : Below w.heap.size w w5 := (by repeat (first | with_reducible exact Below.refl _ _ | with_reducible assumption | with_reducible refine Below.drew ?_ | with_reducible refine Below.alloc ?_ (by first | exact Nat.le_refl _ | omega | (simp; done) | (simp; omega)) _ | with_reducible refine Below.setCell ?_ (by first | exact Nat.le_refl _ | omega | (simp; done) | (simp; omega)) _ | (with_reducible refine ext_trans ?_ (by with_reducible assumption))))
    have lRs_5 : w1.heap.size < w5.heap.size := by omega
    have lRx_5 : w2.heap.size < w5.heap.size := by omega
    have lRy_5 : w3.heap.size < w5.heap.size := by omega
    have Rs_5 := Lib.hid rs_5
    have r0_rs_5 := cell_of_row _ _ 0 _ _ _ rs_5
    have r1_rs_5 := cell_of_row _ _ 1 _ _ _ rs_5
    have r2_rs_5 := cell_of_row _ _ 2 _ _ _ rs_5
    have r3_rs_5 := cell_of_row _ _ 3 _ _ _ rs_5
    have r4_rs_5 := cell_of_row _ _ 4 _ _ _ rs_5
    have r5_rs_5 := cell_of_row _ _ 5 _ _ _ rs_5
    have f0_rs_5 := frozen_of_row _ _ 0 _ _ rs_5
    have f1_rs_5 := frozen_of_row _ _ 1 _ _ rs_5
    have f2_rs_5 := frozen_of_row _ _ 2 _ _ rs_5
    have f3_rs_5 := frozen_of_row _ _ 3 _ _ rs_5
    have f4_rs_5 := frozen_of_row _ _ 4 _ _ rs_5
    have f5_rs_5 := frozen_of_row _ _ 5 _ _ rs_5
    simp at r0_rs_5 r1_rs_5 r2_rs_5 r3_rs_5 r4_rs_5 r5_rs_5
    clear rs_5
    have Rx_5 := Lib.hid rx_5
    have r0_rx_5 := cell_of_row _ _ 0 _ _ _ rx_5
    have r1_rx_5 := cell_of_row _ _ 1 _ _ _ rx_5
    have r2_rx_5 := cell_of_row _ _ 2 _ _ _ rx_5
    have r3_rx_5 := cell_of_row _ _ 3 _ _ _ rx_5
    have r4_rx_5 := cell_of_row _ _ 4 _ _ _ rx_5
    have r5_rx_5 := cell_of_row _ _ 5 _ _ _ rx_5
    have f0_rx_5 := frozen_of_row _ _ 0 _ _ rx_5
    have f1_rx_5 := frozen_of_row _ _ 1 _ _ rx_5
    have f2_rx_5 := frozen_of_row _ _ 2 _ _ rx_5
    have f3_rx_5 := frozen_of_row _ _ 3 _ _ rx_5
    have f4_rx_5 := frozen_of_row _ _ 4 _ _ rx_5
    have f5_rx_5 := frozen_of_row _ _ 5 _ _ rx_5
    simp at r0_rx_5 r1_rx_5 r2_rx_5 r3_rx_5 r4_rx_5 r5_rx_5
    clear rx_5
    have Ry_5 := Lib.hid ry_5
    have r0_ry_5 := cell_of_row _ _ 0 _ _ _ ry_5
    have r1_ry_5 := cell_of_row _ _ 1 _ _ _ ry_5
    have r2_ry_5 := cell_of_row _ _ 2 _ _ _ ry_5
    have r3_ry_5 := cell_of_row _ _ 3 _ _ _ ry_5
    have r4_ry_5 := cell_of_row _ _ 4 _ _ _ ry_5
    have r5_ry_5 := cell_of_row _ _ 5 _ _ _ ry_5
    have f0_ry_5 := frozen_of_row _ _ 0 _ _ ry_5
    have f1_ry_5 := frozen_of_row _ _ 1 _ _ ry_5
    have f2_ry_5 := frozen_of_row _ _ 2 _ _ ry_5
    have f3_ry_5 := frozen_of_row _ _ 3 _ _ ry_5
    have f4_ry_5 := frozen_of_row _ _ 4 _ _ ry_5
    have f5_ry_5 := frozen_of_row _ _ 5 _ _ ry_5
    simp at r0_ry_5 r1_ry_5 r2_ry_5 r3_ry_5 r4_ry_5 r5_ry_5
    clear ry_5
    clear r0_rs_4 f0_rs_4 r1_rs_4 f1_rs_4 r2_rs_4 f2_rs_4 r3_rs_4 f3_rs_4 r4_rs_4 f4_rs_4 r5_rs_4 f5_rs_4
    clear r0_rx_4 f0_rx_4 r1_rx_4 f1_rx_4 r2_rx_4 f2_rx_4 r3_rx_4 f3_rx_4 r4_rx_4 f4_rx_4 r5_rx_4 f5_rx_4
    clear r0_ry_4 f0_ry_4 r1_ry_4 f1_ry_4 r2_ry_4 f2_ry_4 r3_ry_4 f3_ry_4 r4_ry_4 f4_ry_4 r5_ry_4 f5_ry_4
    go_wp2_with fail
    refine (Y4.out _).mono ?_
    rintro e w6 ⟨rfl, hb6⟩
    have hz6 := hb6.size
    (try simp at hz6)
    have rs_6 := (hb6.block _ (by first | omega | (simp; done) | (simp; omega))).trans Rs_5.out
    have rx_6 := (hb6.block _ (by first | omega | (simp; done) | (simp; omega))).trans Rx_5.out
    have ry_6 := (hb6.block _ (by first | omega | (simp; done) | (simp; omega))).trans Ry_5.out
    have hw6 : Below w.heap.size w w6 := (by repeat (first | with_reducible exact Below.refl _ _ | with_reducible assumption | with_reducible refine Below.drew ?_ | with_reducible refine Below.alloc ?_ (by first | exact Nat.le_refl _ | omega | (simp; done) | (simp; omega)) _ | with_reducible refine Below.setCell ?_ (by first | exact Nat.le_refl _ | omega | (simp; done) | (simp; omega)) _ | (with_reducible refine ext_trans ?_ (by with_reducible assumption))))
    have lRs_6 : w1.heap.size < w6.heap.size := by omega
    have lRx_6 : w2.heap.size < w6.heap.size := by omega
    have lRy_6 : w3.heap.size < w6.heap.size := by omega
    have Rs_6 := Lib.hid rs_6
    have r0_rs_6 := cell_of_row _ _ 0 _ _ _ rs_6
    have r1_rs_6 := cell_of_row _ _ 1 _ _ _ rs_6
    have r2_rs_6 := cell_of_row _ _ 2 _ _ _ rs_6
    have r3_rs_6 := cell_of_row _ _ 3 _ _ _ rs_6
    have r4_rs_6 := cell_of_row _ _ 4 _ _ _ rs_6
    have r5_rs_6 := cell_of_row _ _ 5 _ _ _ rs_6
    have f0_rs_6 := frozen_of_row _ _ 0 _ _ rs_6
    have f1_rs_6 := frozen_of_row _ _ 1 _ _ rs_6
    have f2_rs_6 := frozen_of_row _ _ 2 _ _ rs_6
    have f3_rs_6 := frozen_of_row _ _ 3 _ _ rs_6
    have f4_rs_6 := frozen_of_row _ _ 4 _ _ rs_6
    have f5_rs_6 := frozen_of_row _ _ 5 _ _ rs_6
    simp at r0_rs_6 r1_rs_6 r2_rs_6 r3_rs_6 r4_rs_6 r5_rs_6
    clear rs_6
    have Rx_6 := Lib.hid rx_6
    have r0_rx_6 := cell_of_row _ _ 0 _ _ _ rx_6
    have r1_rx_6 := cell_of_row _ _ 1 _ _ _ rx_6
    have r2_rx_6 := cell_of_row _ _ 2 _ _ _ rx_6
    have r3_rx_6 := cell_of_row _ _ 3 _ _ _ rx_6
    have r4_rx_6 := cell_of_row _ _ 4 _ _ _ rx_6
    have r5_rx_6 := cell_of_row _ _ 5 _ _ _ rx_6
    have f0_rx_6 := frozen_of_row _ _ 0 _ _ rx_6
    have f1_rx_6 := frozen_of_row _ _ 1 _ _ rx_6
    have f2_rx_6 := frozen_of_row _ _ 2 _ _ rx_6
    have f3_rx_6 := frozen_of_row _ _ 3 _ _ rx_6
    have f4_rx_6 := frozen_of_row _ _ 4 _ _ rx_6
    have f5_rx_6 := frozen_of_row _ _ 5 _ _ rx_6
    simp at r0_rx_6 r1_rx_6 r2_rx_6 r3_rx_6 r4_rx_6 r5_rx_6
    clear rx_6
    have Ry_6 := Lib.hid ry_6
    have r0_ry_6 := cell_of_row _ _ 0 _ _ _ ry_6
    have r1_ry_6 := cell_of_row _ _ 1 _ _ _ ry_6
    have r2_ry_6 := cell_of_row _ _ 2 _ _ _ ry_6
    have r3_ry_6 := cell_of_row _ _ 3 _ _ _ ry_6
    have r4_ry_6 := cell_of_row _ _ 4 _ _ _ ry_6
    have r5_ry_6 := cell_of_row _ _ 5 _ _ _ ry_6
    have f0_ry_6 := frozen_of_row _ _ 0 _ _ ry_6
    have f1_ry_6 := frozen_of_row _ _ 1 _ _ ry_6
    have f2_ry_6 := frozen_of_row _ _ 2 _ _ ry_6
    have f3_ry_6 := frozen_of_row _ _ 3 _ _ ry_6
    have f4_ry_6 := frozen_of_row _ _ 4 _ _ ry_6
    have f5_ry_6 := frozen_of_row _ _ 5 _ _ ry_6
    simp at r0_ry_6 r1_ry_6 r2_ry_6 r3_ry_6 r4_ry_6 r5_ry_6
    clear ry_6
    clear r0_rs_5 f0_rs_5 r1_rs_5 f1_rs_5 r2_rs_5 f2_rs_5 r3_rs_5 f3_rs_5 r4_rs_5 f4_rs_5 r5_rs_5 f5_rs_5
    clear r0_rx_5 f0_rx_5 r1_rx_5 f1_rx_5 r2_rx_5 f2_rx_5 r3_rx_5 f3_rx_5 r4_rx_5 f4_rx_5 r5_rx_5 f5_rx_5
    clear r0_ry_5 f0_ry_5 r1_ry_5 f1_ry_5 r2_ry_5 f2_ry_5 r3_ry_5 f3_ry_5 r4_ry_5 f4_ry_5 r5_ry_5 f5_ry_5
    go_wp2_with fail
    go_ret
    exact ⟨by first | rfl | simp, hw6⟩
  case true =>
    cases f
    case true =>
      have Y1 := Lib.hid (fun W => sQueued_no u d s true fs dn t HDM.out (.inr rfl) W)
      have Y2 := Lib.hid (fun W => Queued_no u d s true fs dn t HDM.out (.inr rfl) W)
      clear hB1
      go_wp2_with fail
      refine (Y2.out _).mono ?_
      rintro e w2 ⟨rfl, hb2⟩
      have hz2 := hb2.size
      (try simp at hz2)
      have rs_2 : w2.heap[w1.heap.size]? = some (.cells #[.int .i64 u, .string d, .int .i64 s, .bool true, .bool fs, .bool dn] 26 (0, 0)) := (hb2.block _ (by first | (simp; done) | (simp; omega))).trans (by repeat (first | exact heap_new _ _ _ (by first | rfl | (simp; done) | (simp; omega)) | refine (Below.heap_alloc _ _ _ (by first | omega | (simp; done) | (simp; omega))).trans ?_))
      have hw2 : Below w.heap.size w w2 := (by repeat (first | with_reducible exact Below.refl _ _ | with_reducible assumption | with_reducible refine Below.drew ?_ | with_reducible refine Below.alloc ?_ (by first | exact Nat.le_refl _ | omega | (simp; done) | (simp; omega)) _ | with_reducible refine Below.setCell ?_ (by first | exact Nat.le_refl _ | omega | (simp; done) | (simp; omega)) _ | (with_reducible refine ext_trans ?_ (by with_reducible assumption))))
      have lRs_2 : w1.heap.size < w2.heap.size := by omega
      have Rs_2 := Lib.hid rs_2
      have r0_rs_2 := cell_of_row _ _ 0 _ _ _ rs_2
      have r1_rs_2 := cell_of_row _ _ 1 _ _ _ rs_2
      have r2_rs_2 := cell_of_row _ _ 2 _ _ _ rs_2
      have r3_rs_2 := cell_of_row _ _ 3 _ _ _ rs_2
      have r4_rs_2 := cell_of_row _ _ 4 _ _ _ rs_2
      have r5_rs_2 := cell_of_row _ _ 5 _ _ _ rs_2
      have f0_rs_2 := frozen_of_row _ _ 0 _ _ rs_2
      have f1_rs_2 := frozen_of_row _ _ 1 _ _ rs_2
      have f2_rs_2 := frozen_of_row _ _ 2 _ _ rs_2
      have f3_rs_2 := frozen_of_row _ _ 3 _ _ rs_2
      have f4_rs_2 := frozen_of_row _ _ 4 _ _ rs_2
      have f5_rs_2 := frozen_of_row _ _ 5 _ _ rs_2
      simp at r0_rs_2 r1_rs_2 r2_rs_2 r3_rs_2 r4_rs_2 r5_rs_2
      clear rs_2
      go_wp2_with fail
      refine (Y1.out _).mono ?_
      rintro e w3 ⟨rfl, hb3⟩
      have hz3 := hb3.size
      (try simp at hz3)
      have rs_3 := (hb3.block _ (by first | omega | (simp; done) | (simp; omega))).trans ((Below.heap_alloc _ _ _ (by first | exact lRs_2 | (simp; omega))).trans Rs_2.out)
      have rx_3 : w3.heap[w2.heap.size]? = some (.cells #[.int .i64 u, .string d, .int .i64 s, .bool true, .bool fs, .bool dn] 26 (0, 0)) := (hb3.block _ (by first | (simp; done) | (simp; omega))).trans (by repeat (first | exact heap_new _ _ _ (by first | rfl | (simp; done) | (simp; omega)) | refine (Below.heap_alloc _ _ _ (by first | omega | (simp; done) | (simp; omega))).trans ?_))
      have hw3 : Below w.heap.size w w3 := (by repeat (first | with_reducible exact Below.refl _ _ | with_reducible assumption | with_reducible refine Below.drew ?_ | with_reducible refine Below.alloc ?_ (by first | exact Nat.le_refl _ | omega | (simp; done) | (simp; omega)) _ | with_reducible refine Below.setCell ?_ (by first | exact Nat.le_refl _ | omega | (simp; done) | (simp; omega)) _ | (with_reducible refine ext_trans ?_ (by with_reducible assumption))))
      have lRs_3 : w1.heap.size < w3.heap.size := by omega
      have lRx_3 : w2.heap.size < w3.heap.size := by omega
      have Rs_3 := Lib.hid rs_3
      have r0_rs_3 := cell_of_row _ _ 0 _ _ _ rs_3
      have r1_rs_3 := cell_of_row _ _ 1 _ _ _ rs_3
      have r2_rs_3 := cell_of_row _ _ 2 _ _ _ rs_3
      have r3_rs_3 := cell_of_row _ _ 3 _ _ _ rs_3
      have r4_rs_3 := cell_of_row _ _ 4 _ _ _ rs_3
      have r5_rs_3 := cell_of_row _ _ 5 _ _ _ rs_3
      have f0_rs_3 := frozen_of_row _ _ 0 _ _ rs_3
      have f1_rs_3 := frozen_of_row _ _ 1 _ _ rs_3
      have f2_rs_3 := frozen_of_row _ _ 2 _ _ rs_3
      have f3_rs_3 := frozen_of_row _ _ 3 _ _ rs_3
      have f4_rs_3 := frozen_of_row _ _ 4 _ _ rs_3
      have f5_rs_3 := frozen_of_row _ _ 5 _ _ rs_3
      simp at r0_rs_3 r1_rs_3 r2_rs_3 r3_rs_3 r4_rs_3 r5_rs_3
      clear rs_3
      have Rx_3 := Lib.hid rx_3
      have r0_rx_3 := cell_of_row _ _ 0 _ _ _ rx_3
      have r1_rx_3 := cell_of_row _ _ 1 _ _ _ rx_3
      have r2_rx_3 := cell_of_row _ _ 2 _ _ _ rx_3
      have r3_rx_3 := cell_of_row _ _ 3 _ _ _ rx_3
      have r4_rx_3 := cell_of_row _ _ 4 _ _ _ rx_3
      have r5_rx_3 := cell_of_row _ _ 5 _ _ _ rx_3
      have f0_rx_3 := frozen_of_row _ _ 0 _ _ rx_3
      have f1_rx_3 := frozen_of_row _ _ 1 _ _ rx_3
      have f2_rx_3 := frozen_of_row _ _ 2 _ _ rx_3
      have f3_rx_3 := frozen_of_row _ _ 3 _ _ rx_3
      have f4_rx_3 := frozen_of_row _ _ 4 _ _ rx_3
      have f5_rx_3 := frozen_of_row _ _ 5 _ _ rx_3
      simp at r0_rx_3 r1_rx_3 r2_rx_3 r3_rx_3 r4_rx_3 r5_rx_3
      clear rx_3
      clear r0_rs_2 f0_rs_2 r1_rs_2 f1_rs_2 r2_rs_2 f2_rs_2 r3_rs_2 f3_rs_2 r4_rs_2 f4_rs_2 r5_rs_2 f5_rs_2
      go_wp2_with fail
      have hb4 : Below w3.heap.size w3 (w3.alloc (.cells #[.int .i64 u, .string d, .int .i64 s, .bool true, .bool fs, .bool dn] 26)) := (by repeat (first | with_reducible exact Below.refl _ _ | with_reducible assumption | with_reducible refine Below.drew ?_ | with_reducible refine Below.alloc ?_ (by first | exact Nat.le_refl _ | omega | (simp; done) | (simp; omega)) _ | with_reducible refine Below.setCell ?_ (by first | exact Nat.le_refl _ | omega | (simp; done) | (simp; omega)) _ | (with_reducible refine ext_trans ?_ (by with_reducible assumption))))
      have ry_4 : (w3.alloc (.cells #[.int .i64 u, .string d, .int .i64 s, .bool true, .bool fs, .bool dn] 26)).heap[w3.heap.size]? = some (.cells #[.int .i64 u, .string d, .int .i64 s, .bool true, .bool fs, .bool dn] 26 (0, 0)) := (by repeat (first | exact heap_new _ _ _ (by first | rfl | (simp; done) | (simp; omega)) | refine (Below.heap_alloc _ _ _ (by first | omega | (simp; done) | (simp; omega))).trans ?_))
      have lNy_4 : w3.heap.size < (w3.alloc (.cells #[.int .i64 u, .string d, .int .i64 s, .bool true, .bool fs, .bool dn] 26)).heap.size := by simp
      generalize (w3.alloc (.cells #[.int .i64 u, .string d, .int .i64 s, .bool true, .bool fs, .bool dn] 26)) = w4 at *
      have hz4 := hb4.size
      (try simp at hz4)
      have rs_4 := (hb4.block _ (by first | omega | (simp; done) | (simp; omega))).trans Rs_3.out
      have rx_4 := (hb4.block _ (by first | omega | (simp; done) | (simp; omega))).trans Rx_3.out
      have hw4 : Below w.heap.size w w4 := (by repeat (first | with_reducible exact Below.refl _ _ | with_reducible assumption | with_reducible refine Below.drew ?_ | with_reducible refine Below.alloc ?_ (by first | exact Nat.le_refl _ | omega | (simp; done) | (simp; omega)) _ | with_reducible refine Below.setCell ?_ (by first | exact Nat.le_refl _ | omega | (simp; done) | (simp; omega)) _ | (with_reducible refine ext_trans ?_ (by with_reducible assumption))))
      have lRs_4 : w1.heap.size < w4.heap.size := by omega
      have lRx_4 : w2.heap.size < w4.heap.size := by omega
      have lRy_4 : w3.heap.size < w4.heap.size := by omega
      have Rs_4 := Lib.hid rs_4
      have r0_rs_4 := cell_of_row _ _ 0 _ _ _ rs_4
      have r1_rs_4 := cell_of_row _ _ 1 _ _ _ rs_4
      have r2_rs_4 := cell_of_row _ _ 2 _ _ _ rs_4
      have r3_rs_4 := cell_of_row _ _ 3 _ _ _ rs_4
      have r4_rs_4 := cell_of_row _ _ 4 _ _ _ rs_4
      have r5_rs_4 := cell_of_row _ _ 5 _ _ _ rs_4
      have f0_rs_4 := frozen_of_row _ _ 0 _ _ rs_4
      have f1_rs_4 := frozen_of_row _ _ 1 _ _ rs_4
      have f2_rs_4 := frozen_of_row _ _ 2 _ _ rs_4
      have f3_rs_4 := frozen_of_row _ _ 3 _ _ rs_4
      have f4_rs_4 := frozen_of_row _ _ 4 _ _ rs_4
      have f5_rs_4 := frozen_of_row _ _ 5 _ _ rs_4
      simp at r0_rs_4 r1_rs_4 r2_rs_4 r3_rs_4 r4_rs_4 r5_rs_4
      clear rs_4
      have Rx_4 := Lib.hid rx_4
      have r0_rx_4 := cell_of_row _ _ 0 _ _ _ rx_4
      have r1_rx_4 := cell_of_row _ _ 1 _ _ _ rx_4
      have r2_rx_4 := cell_of_row _ _ 2 _ _ _ rx_4
      have r3_rx_4 := cell_of_row _ _ 3 _ _ _ rx_4
      have r4_rx_4 := cell_of_row _ _ 4 _ _ _ rx_4
      have r5_rx_4 := cell_of_row _ _ 5 _ _ _ rx_4
      have f0_rx_4 := frozen_of_row _ _ 0 _ _ rx_4
      have f1_rx_4 := frozen_of_row _ _ 1 _ _ rx_4
      have f2_rx_4 := frozen_of_row _ _ 2 _ _ rx_4
      have f3_rx_4 := frozen_of_row _ _ 3 _ _ rx_4
      have f4_rx_4 := frozen_of_row _ _ 4 _ _ rx_4
      have f5_rx_4 := frozen_of_row _ _ 5 _ _ rx_4
      simp at r0_rx_4 r1_rx_4 r2_rx_4 r3_rx_4 r4_rx_4 r5_rx_4
      clear rx_4
      have Ry_4 := Lib.hid ry_4
      have r0_ry_4 := cell_of_row _ _ 0 _ _ _ ry_4
      have r1_ry_4 := cell_of_row _ _ 1 _ _ _ ry_4
      have r2_ry_4 := cell_of_row _ _ 2 _ _ _ ry_4
      have r3_ry_4 := cell_of_row _ _ 3 _ _ _ ry_4
      have r4_ry_4 := cell_of_row _ _ 4 _ _ _ ry_4
      have r5_ry_4 := cell_of_row _ _ 5 _ _ _ ry_4
      have f0_ry_4 := frozen_of_row _ _ 0 _ _ ry_4
      have f1_ry_4 := frozen_of_row _ _ 1 _ _ ry_4
      have f2_ry_4 := frozen_of_row _ _ 2 _ _ ry_4
      have f3_ry_4 := frozen_of_row _ _ 3 _ _ ry_4
      have f4_ry_4 := frozen_of_row _ _ 4 _ _ ry_4
      have f5_ry_4 := frozen_of_row _ _ 5 _ _ ry_4
      simp at r0_ry_4 r1_ry_4 r2_ry_4 r3_ry_4 r4_ry_4 r5_ry_4
      clear ry_4
      clear r0_rs_3 f0_rs_3 r1_rs_3 f1_rs_3 r2_rs_3 f2_rs_3 r3_rs_3 f3_rs_3 r4_rs_3 f4_rs_3 r5_rs_3 f5_rs_3
      clear r0_rx_3 f0_rx_3 r1_rx_3 f1_rx_3 r2_rx_3 f2_rx_3 r3_rx_3 f3_rx_3 r4_rx_3 f4_rx_3 r5_rx_3 f5_rx_3
      go_wp2_with fail
      go_cut [42] (fun z wx => z = .bool false ∧ Below w4.heap.size w4 wx)
      case first =>
        first | go_region_held3 (fun w' => (∀ b' o, b' < (w4).heap.size → w'.cell? ⟨b', o, none⟩ = (w4).cell? ⟨b', o, none⟩) ∧ Below (w4).heap.size (w4) w') (first | with_reducible assumption | (with_reducible apply rg_keep; rotate_left; with_reducible assumption; with_reducible assumption) | with_reducible exact rg_start _ | with_reducible exact rg_alloc (KeptS.out (by with_reducible assumption)) _ | with_reducible exact rg_alloc (by with_reducible assumption) _ | with_reducible exact rg_start_alloc _ _ | ((repeat (with_reducible refine rg_set ?_ _ (by first | exact Nat.le_refl _ | omega | (simp; done) | (simp; omega)) _)); first | with_reducible exact KeptS.out (by with_reducible assumption) | with_reducible assumption | with_reducible exact rg_alloc (KeptS.out (by with_reducible assumption)) _)) (first | (go_at_call 19; ((with_reducible refine (Y3.out _).mono ?_); (rintro e wA ⟨rfl, hbA⟩; have hSA := rg_keepK (by first | with_reducible assumption | exact KeptS.out (by with_reducible assumption)) hbA))) | (go_at_call 18; ((with_reducible refine (Y4.out _).mono ?_); (rintro e wC ⟨rfl, hbC⟩; have hSC := rg_keepK (by first | with_reducible assumption | exact KeptS.out (by with_reducible assumption)) hbC)))) | fail
        all_goals (go_wp2_with fail; go_meet; exact ⟨by simp, (by assumption : _ ∧ Below w4.heap.size w4 wC).2⟩)
      case rest =>
      obtain ⟨rfl, hb5⟩ := hcut
      rename World => w5
      have hz5 := hb5.size
      (try simp at hz5)
      have rs_5 := (hb5.block _ (by first | omega | (simp; done) | (simp; omega))).trans Rs_4.out
      have rx_5 := (hb5.block _ (by first | omega | (simp; done) | (simp; omega))).trans Rx_4.out
      have ry_5 := (hb5.block _ (by first | omega | (simp; done) | (simp; omega))).trans Ry_4.out
      have hw5 : Below w.heap.size w w5 := (by repeat (first | with_reducible exact Below.refl _ _ | with_reducible assumption | with_reducible refine Below.drew ?_ | with_reducible refine Below.alloc ?_ (by first | exact Nat.le_refl _ | omega | (simp; done) | (simp; omega)) _ | with_reducible refine Below.setCell ?_ (by first | exact Nat.le_refl _ | omega | (simp; done) | (simp; omega)) _ | (with_reducible refine ext_trans ?_ (by with_reducible assumption))))
      have lRs_5 : w1.heap.size < w5.heap.size := by omega
      have lRx_5 : w2.heap.size < w5.heap.size := by omega
      have lRy_5 : w3.heap.size < w5.heap.size := by omega
      have Rs_5 := Lib.hid rs_5
      have r0_rs_5 := cell_of_row _ _ 0 _ _ _ rs_5
      have r1_rs_5 := cell_of_row _ _ 1 _ _ _ rs_5
      have r2_rs_5 := cell_of_row _ _ 2 _ _ _ rs_5
      have r3_rs_5 := cell_of_row _ _ 3 _ _ _ rs_5
      have r4_rs_5 := cell_of_row _ _ 4 _ _ _ rs_5
      have r5_rs_5 := cell_of_row _ _ 5 _ _ _ rs_5
      have f0_rs_5 := frozen_of_row _ _ 0 _ _ rs_5
      have f1_rs_5 := frozen_of_row _ _ 1 _ _ rs_5
      have f2_rs_5 := frozen_of_row _ _ 2 _ _ rs_5
      have f3_rs_5 := frozen_of_row _ _ 3 _ _ rs_5
      have f4_rs_5 := frozen_of_row _ _ 4 _ _ rs_5
      have f5_rs_5 := frozen_of_row _ _ 5 _ _ rs_5
      simp at r0_rs_5 r1_rs_5 r2_rs_5 r3_rs_5 r4_rs_5 r5_rs_5
      clear rs_5
      have Rx_5 := Lib.hid rx_5
      have r0_rx_5 := cell_of_row _ _ 0 _ _ _ rx_5
      have r1_rx_5 := cell_of_row _ _ 1 _ _ _ rx_5
      have r2_rx_5 := cell_of_row _ _ 2 _ _ _ rx_5
      have r3_rx_5 := cell_of_row _ _ 3 _ _ _ rx_5
      have r4_rx_5 := cell_of_row _ _ 4 _ _ _ rx_5
      have r5_rx_5 := cell_of_row _ _ 5 _ _ _ rx_5
      have f0_rx_5 := frozen_of_row _ _ 0 _ _ rx_5
      have f1_rx_5 := frozen_of_row _ _ 1 _ _ rx_5
      have f2_rx_5 := frozen_of_row _ _ 2 _ _ rx_5
      have f3_rx_5 := frozen_of_row _ _ 3 _ _ rx_5
      have f4_rx_5 := frozen_of_row _ _ 4 _ _ rx_5
      have f5_rx_5 := frozen_of_row _ _ 5 _ _ rx_5
      simp at r0_rx_5 r1_rx_5 r2_rx_5 r3_rx_5 r4_rx_5 r5_rx_5
      clear rx_5
      have Ry_5 := Lib.hid ry_5
      have r0_ry_5 := cell_of_row _ _ 0 _ _ _ ry_5
      have r1_ry_5 := cell_of_row _ _ 1 _ _ _ ry_5
      have r2_ry_5 := cell_of_row _ _ 2 _ _ _ ry_5
      have r3_ry_5 := cell_of_row _ _ 3 _ _ _ ry_5
      have r4_ry_5 := cell_of_row _ _ 4 _ _ _ ry_5
      have r5_ry_5 := cell_of_row _ _ 5 _ _ _ ry_5
      have f0_ry_5 := frozen_of_row _ _ 0 _ _ ry_5
      have f1_ry_5 := frozen_of_row _ _ 1 _ _ ry_5
      have f2_ry_5 := frozen_of_row _ _ 2 _ _ ry_5
      have f3_ry_5 := frozen_of_row _ _ 3 _ _ ry_5
      have f4_ry_5 := frozen_of_row _ _ 4 _ _ ry_5
      have f5_ry_5 := frozen_of_row _ _ 5 _ _ ry_5
      simp at r0_ry_5 r1_ry_5 r2_ry_5 r3_ry_5 r4_ry_5 r5_ry_5
      clear ry_5
      clear r0_rs_4 f0_rs_4 r1_rs_4 f1_rs_4 r2_rs_4 f2_rs_4 r3_rs_4 f3_rs_4 r4_rs_4 f4_rs_4 r5_rs_4 f5_rs_4
      clear r0_rx_4 f0_rx_4 r1_rx_4 f1_rx_4 r2_rx_4 f2_rx_4 r3_rx_4 f3_rx_4 r4_rx_4 f4_rx_4 r5_rx_4 f5_rx_4
      clear r0_ry_4 f0_ry_4 r1_ry_4 f1_ry_4 r2_ry_4 f2_ry_4 r3_ry_4 f3_ry_4 r4_ry_4 f4_ry_4 r5_ry_4 f5_ry_4
      go_wp2_with fail
      refine (Y4.out _).mono ?_
      rintro e w6 ⟨rfl, hb6⟩
      have hz6 := hb6.size
      (try simp at hz6)
      have rs_6 := (hb6.block _ (by first | omega | (simp; done) | (simp; omega))).trans Rs_5.out
      have rx_6 := (hb6.block _ (by first | omega | (simp; done) | (simp; omega))).trans Rx_5.out
      have ry_6 := (hb6.block _ (by first | omega | (simp; done) | (simp; omega))).trans Ry_5.out
      have hw6 : Below w.heap.size w w6 := (by repeat (first | with_reducible exact Below.refl _ _ | with_reducible assumption | with_reducible refine Below.drew ?_ | with_reducible refine Below.alloc ?_ (by first | exact Nat.le_refl _ | omega | (simp; done) | (simp; omega)) _ | with_reducible refine Below.setCell ?_ (by first | exact Nat.le_refl _ | omega | (simp; done) | (simp; omega)) _ | (with_reducible refine ext_trans ?_ (by with_reducible assumption))))
      have lRs_6 : w1.heap.size < w6.heap.size := by omega
      have lRx_6 : w2.heap.size < w6.heap.size := by omega
      have lRy_6 : w3.heap.size < w6.heap.size := by omega
      have Rs_6 := Lib.hid rs_6
      have r0_rs_6 := cell_of_row _ _ 0 _ _ _ rs_6
      have r1_rs_6 := cell_of_row _ _ 1 _ _ _ rs_6
      have r2_rs_6 := cell_of_row _ _ 2 _ _ _ rs_6
      have r3_rs_6 := cell_of_row _ _ 3 _ _ _ rs_6
      have r4_rs_6 := cell_of_row _ _ 4 _ _ _ rs_6
      have r5_rs_6 := cell_of_row _ _ 5 _ _ _ rs_6
      have f0_rs_6 := frozen_of_row _ _ 0 _ _ rs_6
      have f1_rs_6 := frozen_of_row _ _ 1 _ _ rs_6
      have f2_rs_6 := frozen_of_row _ _ 2 _ _ rs_6
      have f3_rs_6 := frozen_of_row _ _ 3 _ _ rs_6
      have f4_rs_6 := frozen_of_row _ _ 4 _ _ rs_6
      have f5_rs_6 := frozen_of_row _ _ 5 _ _ rs_6
      simp at r0_rs_6 r1_rs_6 r2_rs_6 r3_rs_6 r4_rs_6 r5_rs_6
      clear rs_6
      have Rx_6 := Lib.hid rx_6
      have r0_rx_6 := cell_of_row _ _ 0 _ _ _ rx_6
      have r1_rx_6 := cell_of_row _ _ 1 _ _ _ rx_6
      have r2_rx_6 := cell_of_row _ _ 2 _ _ _ rx_6
      have r3_rx_6 := cell_of_row _ _ 3 _ _ _ rx_6
      have r4_rx_6 := cell_of_row _ _ 4 _ _ _ rx_6
      have r5_rx_6 := cell_of_row _ _ 5 _ _ _ rx_6
      have f0_rx_6 := frozen_of_row _ _ 0 _ _ rx_6
      have f1_rx_6 := frozen_of_row _ _ 1 _ _ rx_6
      have f2_rx_6 := frozen_of_row _ _ 2 _ _ rx_6
      have f3_rx_6 := frozen_of_row _ _ 3 _ _ rx_6
      have f4_rx_6 := frozen_of_row _ _ 4 _ _ rx_6
      have f5_rx_6 := frozen_of_row _ _ 5 _ _ rx_6
      simp at r0_rx_6 r1_rx_6 r2_rx_6 r3_rx_6 r4_rx_6 r5_rx_6
      clear rx_6
      have Ry_6 := Lib.hid ry_6
      have r0_ry_6 := cell_of_row _ _ 0 _ _ _ ry_6
      have r1_ry_6 := cell_of_row _ _ 1 _ _ _ ry_6
      have r2_ry_6 := cell_of_row _ _ 2 _ _ _ ry_6
      have r3_ry_6 := cell_of_row _ _ 3 _ _ _ ry_6
      have r4_ry_6 := cell_of_row _ _ 4 _ _ _ ry_6
      have r5_ry_6 := cell_of_row _ _ 5 _ _ _ ry_6
      have f0_ry_6 := frozen_of_row _ _ 0 _ _ ry_6
      have f1_ry_6 := frozen_of_row _ _ 1 _ _ ry_6
      have f2_ry_6 := frozen_of_row _ _ 2 _ _ ry_6
      have f3_ry_6 := frozen_of_row _ _ 3 _ _ ry_6
      have f4_ry_6 := frozen_of_row _ _ 4 _ _ ry_6
      have f5_ry_6 := frozen_of_row _ _ 5 _ _ ry_6
      simp at r0_ry_6 r1_ry_6 r2_ry_6 r3_ry_6 r4_ry_6 r5_ry_6
      clear ry_6
      clear r0_rs_5 f0_rs_5 r1_rs_5 f1_rs_5 r2_rs_5 f2_rs_5 r3_rs_5 f3_rs_5 r4_rs_5 f4_rs_5 r5_rs_5 f5_rs_5
      clear r0_rx_5 f0_rx_5 r1_rx_5 f1_rx_5 r2_rx_5 f2_rx_5 r3_rx_5 f3_rx_5 r4_rx_5 f4_rx_5 r5_rx_5 f5_rx_5
      clear r0_ry_5 f0_ry_5 r1_ry_5 f1_ry_5 r2_ry_5 f2_ry_5 r3_ry_5 f3_ry_5 r4_ry_5 f4_ry_5 r5_ry_5 f5_ry_5
      go_wp2_with fail
      go_ret
      exact ⟨by first | rfl | simp, hw6⟩
    case false =>
      obtain ⟨rfl, rfl, c3, c4, c5⟩ := sndB_queued (t := t) hB1
      have h48 := sndB_le hB1
      have y1 := fun W => sQueued_yes u d s false false t HDM.out HTM.out hB1 h48 W
      have y2 := fun W => Queued_yes u d s false false t HDM.out HTM.out hB1 h48 W
      obtain ⟨q, hq⟩ : ∃ X, qn d t = X := ⟨_, rfl⟩
      rw [hq] at y1 y2 c3 c4 c5
      obtain ⟨XD, hXD⟩ : ∃ X, d ++ t.extract 0 q = X := ⟨_, rfl⟩
      rw [hXD] at y1 y2 c3 c5
      have y5 := fun W => SenderOk_any u XD s false false false (by have := sndB_le c3; unfold maxLen; omega) W
      rw [c3] at y5
      have y6 := fun W => NextOf_any u XD s false false false W
      have y7 := fun W => NextOf_any u d s false false false W
      have hq4 : (q : Int) ≤ (t.size : Int) := by omega
      have hdq : ¬ 9223372036854775807 < d.size + q := by omega
      have hdq2 : d.size + q ≤ 9223372036854775807 := by omega
      have Y1 := Lib.hid y1
      have Y2 := Lib.hid y2
      have Y5 := Lib.hid y5
      have Y6 := Lib.hid y6
      have Y7 := Lib.hid y7
      have HXD := Lib.hid hXD
      clear y1 y2 y5 y6 y7 c3 hq hB1 hXD
      by_cases hqt : q = t.size
      case pos =>
        have hqe : ((q : Int) == (t.size : Int)) = true := by simp [hqt]
        clear hqt c5
        go_wp2_with fail
        refine (Y2.out _).mono ?_
        rintro e w2 ⟨rfl, hb2⟩
        have hz2 := hb2.size
        (try simp at hz2)
        have rs_2 : w2.heap[w1.heap.size]? = some (.cells #[.int .i64 u, .string d, .int .i64 s, .bool false, .bool false, .bool false] 26 (0, 0)) := (hb2.block _ (by first | (simp; done) | (simp; omega))).trans (by repeat (first | exact heap_new _ _ _ (by first | rfl | (simp; done) | (simp; omega)) | refine (Below.heap_alloc _ _ _ (by first | omega | (simp; done) | (simp; omega))).trans ?_))
        have hw2 : Below w.heap.size w w2 := (by repeat (first | with_reducible exact Below.refl _ _ | with_reducible assumption | with_reducible refine Below.drew ?_ | with_reducible refine Below.alloc ?_ (by first | exact Nat.le_refl _ | omega | (simp; done) | (simp; omega)) _ | with_reducible refine Below.setCell ?_ (by first | exact Nat.le_refl _ | omega | (simp; done) | (simp; omega)) _ | (with_reducible refine ext_trans ?_ (by with_reducible assumption))))
        have lRs_2 : w1.heap.size < w2.heap.size := by omega
        have Rs_2 := Lib.hid rs_2
        have r0_rs_2 := cell_of_row _ _ 0 _ _ _ rs_2
        have r1_rs_2 := cell_of_row _ _ 1 _ _ _ rs_2
        have r2_rs_2 := cell_of_row _ _ 2 _ _ _ rs_2
        have r3_rs_2 := cell_of_row _ _ 3 _ _ _ rs_2
        have r4_rs_2 := cell_of_row _ _ 4 _ _ _ rs_2
        have r5_rs_2 := cell_of_row _ _ 5 _ _ _ rs_2
        have f0_rs_2 := frozen_of_row _ _ 0 _ _ rs_2
        have f1_rs_2 := frozen_of_row _ _ 1 _ _ rs_2
        have f2_rs_2 := frozen_of_row _ _ 2 _ _ rs_2
        have f3_rs_2 := frozen_of_row _ _ 3 _ _ rs_2
        have f4_rs_2 := frozen_of_row _ _ 4 _ _ rs_2
        have f5_rs_2 := frozen_of_row _ _ 5 _ _ rs_2
        simp at r0_rs_2 r1_rs_2 r2_rs_2 r3_rs_2 r4_rs_2 r5_rs_2
        clear rs_2
        go_wp2_with fail
        refine (Y1.out _).mono ?_
        rintro e w3 ⟨rfl, hb3⟩
        have hz3 := hb3.size
        (try simp at hz3)
        have rs_3 := (hb3.block _ (by first | omega | (simp; done) | (simp; omega))).trans ((Below.heap_alloc _ _ _ (by first | exact lRs_2 | (simp; omega))).trans Rs_2.out)
        have rx_3 : w3.heap[w2.heap.size]? = some (.cells #[.int .i64 u, .string XD, .int .i64 s, .bool false, .bool false, .bool false] 26 (0, 0)) := (hb3.block _ (by first | (simp; done) | (simp; omega))).trans (by repeat (first | exact heap_new _ _ _ (by first | rfl | (simp; done) | (simp; omega)) | refine (Below.heap_alloc _ _ _ (by first | omega | (simp; done) | (simp; omega))).trans ?_))
        have hw3 : Below w.heap.size w w3 := (by repeat (first | with_reducible exact Below.refl _ _ | with_reducible assumption | with_reducible refine Below.drew ?_ | with_reducible refine Below.alloc ?_ (by first | exact Nat.le_refl _ | omega | (simp; done) | (simp; omega)) _ | with_reducible refine Below.setCell ?_ (by first | exact Nat.le_refl _ | omega | (simp; done) | (simp; omega)) _ | (with_reducible refine ext_trans ?_ (by with_reducible assumption))))
        have lRs_3 : w1.heap.size < w3.heap.size := by omega
        have lRx_3 : w2.heap.size < w3.heap.size := by omega
        have Rs_3 := Lib.hid rs_3
        have r0_rs_3 := cell_of_row _ _ 0 _ _ _ rs_3
        have r1_rs_3 := cell_of_row _ _ 1 _ _ _ rs_3
        have r2_rs_3 := cell_of_row _ _ 2 _ _ _ rs_3
        have r3_rs_3 := cell_of_row _ _ 3 _ _ _ rs_3
        have r4_rs_3 := cell_of_row _ _ 4 _ _ _ rs_3
        have r5_rs_3 := cell_of_row _ _ 5 _ _ _ rs_3
        have f0_rs_3 := frozen_of_row _ _ 0 _ _ rs_3
        have f1_rs_3 := frozen_of_row _ _ 1 _ _ rs_3
        have f2_rs_3 := frozen_of_row _ _ 2 _ _ rs_3
        have f3_rs_3 := frozen_of_row _ _ 3 _ _ rs_3
        have f4_rs_3 := frozen_of_row _ _ 4 _ _ rs_3
        have f5_rs_3 := frozen_of_row _ _ 5 _ _ rs_3
        simp at r0_rs_3 r1_rs_3 r2_rs_3 r3_rs_3 r4_rs_3 r5_rs_3
        clear rs_3
        have Rx_3 := Lib.hid rx_3
        have r0_rx_3 := cell_of_row _ _ 0 _ _ _ rx_3
        have r1_rx_3 := cell_of_row _ _ 1 _ _ _ rx_3
        have r2_rx_3 := cell_of_row _ _ 2 _ _ _ rx_3
        have r3_rx_3 := cell_of_row _ _ 3 _ _ _ rx_3
        have r4_rx_3 := cell_of_row _ _ 4 _ _ _ rx_3
        have r5_rx_3 := cell_of_row _ _ 5 _ _ _ rx_3
        have f0_rx_3 := frozen_of_row _ _ 0 _ _ rx_3
        have f1_rx_3 := frozen_of_row _ _ 1 _ _ rx_3
        have f2_rx_3 := frozen_of_row _ _ 2 _ _ rx_3
        have f3_rx_3 := frozen_of_row _ _ 3 _ _ rx_3
        have f4_rx_3 := frozen_of_row _ _ 4 _ _ rx_3
        have f5_rx_3 := frozen_of_row _ _ 5 _ _ rx_3
        simp at r0_rx_3 r1_rx_3 r2_rx_3 r3_rx_3 r4_rx_3 r5_rx_3
        clear rx_3
        clear r0_rs_2 f0_rs_2 r1_rs_2 f1_rs_2 r2_rs_2 f2_rs_2 r3_rs_2 f3_rs_2 r4_rs_2 f4_rs_2 r5_rs_2 f5_rs_2
        go_wp2_with fail
        have hb4 : Below w3.heap.size w3 (w3.alloc (.cells #[.int .i64 u, .string XD, .int .i64 s, .bool false, .bool false, .bool false] 26)) := (by repeat (first | with_reducible exact Below.refl _ _ | with_reducible assumption | with_reducible refine Below.drew ?_ | with_reducible refine Below.alloc ?_ (by first | exact Nat.le_refl _ | omega | (simp; done) | (simp; omega)) _ | with_reducible refine Below.setCell ?_ (by first | exact Nat.le_refl _ | omega | (simp; done) | (simp; omega)) _ | (with_reducible refine ext_trans ?_ (by with_reducible assumption))))
        have ry_4 : (w3.alloc (.cells #[.int .i64 u, .string XD, .int .i64 s, .bool false, .bool false, .bool false] 26)).heap[w3.heap.size]? = some (.cells #[.int .i64 u, .string XD, .int .i64 s, .bool false, .bool false, .bool false] 26 (0, 0)) := (by repeat (first | exact heap_new _ _ _ (by first | rfl | (simp; done) | (simp; omega)) | refine (Below.heap_alloc _ _ _ (by first | omega | (simp; done) | (simp; omega))).trans ?_))
        have lNy_4 : w3.heap.size < (w3.alloc (.cells #[.int .i64 u, .string XD, .int .i64 s, .bool false, .bool false, .bool false] 26)).heap.size := by simp
        generalize (w3.alloc (.cells #[.int .i64 u, .string XD, .int .i64 s, .bool false, .bool false, .bool false] 26)) = w4 at *
        have hz4 := hb4.size
        (try simp at hz4)
        have rs_4 := (hb4.block _ (by first | omega | (simp; done) | (simp; omega))).trans Rs_3.out
        have rx_4 := (hb4.block _ (by first | omega | (simp; done) | (simp; omega))).trans Rx_3.out
        have hw4 : Below w.heap.size w w4 := (by repeat (first | with_reducible exact Below.refl _ _ | with_reducible assumption | with_reducible refine Below.drew ?_ | with_reducible refine Below.alloc ?_ (by first | exact Nat.le_refl _ | omega | (simp; done) | (simp; omega)) _ | with_reducible refine Below.setCell ?_ (by first | exact Nat.le_refl _ | omega | (simp; done) | (simp; omega)) _ | (with_reducible refine ext_trans ?_ (by with_reducible assumption))))
        have lRs_4 : w1.heap.size < w4.heap.size := by omega
        have lRx_4 : w2.heap.size < w4.heap.size := by omega
        have lRy_4 : w3.heap.size < w4.heap.size := by omega
        have Rs_4 := Lib.hid rs_4
        have r0_rs_4 := cell_of_row _ _ 0 _ _ _ rs_4
        have r1_rs_4 := cell_of_row _ _ 1 _ _ _ rs_4
        have r2_rs_4 := cell_of_row _ _ 2 _ _ _ rs_4
        have r3_rs_4 := cell_of_row _ _ 3 _ _ _ rs_4
        have r4_rs_4 := cell_of_row _ _ 4 _ _ _ rs_4
        have r5_rs_4 := cell_of_row _ _ 5 _ _ _ rs_4
        have f0_rs_4 := frozen_of_row _ _ 0 _ _ rs_4
        have f1_rs_4 := frozen_of_row _ _ 1 _ _ rs_4
        have f2_rs_4 := frozen_of_row _ _ 2 _ _ rs_4
        have f3_rs_4 := frozen_of_row _ _ 3 _ _ rs_4
        have f4_rs_4 := frozen_of_row _ _ 4 _ _ rs_4
        have f5_rs_4 := frozen_of_row _ _ 5 _ _ rs_4
        simp at r0_rs_4 r1_rs_4 r2_rs_4 r3_rs_4 r4_rs_4 r5_rs_4
        clear rs_4
        have Rx_4 := Lib.hid rx_4
        have r0_rx_4 := cell_of_row _ _ 0 _ _ _ rx_4
        have r1_rx_4 := cell_of_row _ _ 1 _ _ _ rx_4
        have r2_rx_4 := cell_of_row _ _ 2 _ _ _ rx_4
        have r3_rx_4 := cell_of_row _ _ 3 _ _ _ rx_4
        have r4_rx_4 := cell_of_row _ _ 4 _ _ _ rx_4
        have r5_rx_4 := cell_of_row _ _ 5 _ _ _ rx_4
        have f0_rx_4 := frozen_of_row _ _ 0 _ _ rx_4
        have f1_rx_4 := frozen_of_row _ _ 1 _ _ rx_4
        have f2_rx_4 := frozen_of_row _ _ 2 _ _ rx_4
        have f3_rx_4 := frozen_of_row _ _ 3 _ _ rx_4
        have f4_rx_4 := frozen_of_row _ _ 4 _ _ rx_4
        have f5_rx_4 := frozen_of_row _ _ 5 _ _ rx_4
        simp at r0_rx_4 r1_rx_4 r2_rx_4 r3_rx_4 r4_rx_4 r5_rx_4
        clear rx_4
        have Ry_4 := Lib.hid ry_4
        have r0_ry_4 := cell_of_row _ _ 0 _ _ _ ry_4
        have r1_ry_4 := cell_of_row _ _ 1 _ _ _ ry_4
        have r2_ry_4 := cell_of_row _ _ 2 _ _ _ ry_4
        have r3_ry_4 := cell_of_row _ _ 3 _ _ _ ry_4
        have r4_ry_4 := cell_of_row _ _ 4 _ _ _ ry_4
        have r5_ry_4 := cell_of_row _ _ 5 _ _ _ ry_4
        have f0_ry_4 := frozen_of_row _ _ 0 _ _ ry_4
        have f1_ry_4 := frozen_of_row _ _ 1 _ _ ry_4
        have f2_ry_4 := frozen_of_row _ _ 2 _ _ ry_4
        have f3_ry_4 := frozen_of_row _ _ 3 _ _ ry_4
        have f4_ry_4 := frozen_of_row _ _ 4 _ _ ry_4
        have f5_ry_4 := frozen_of_row _ _ 5 _ _ ry_4
        simp at r0_ry_4 r1_ry_4 r2_ry_4 r3_ry_4 r4_ry_4 r5_ry_4
        clear ry_4
        clear r0_rs_3 f0_rs_3 r1_rs_3 f1_rs_3 r2_rs_3 f2_rs_3 r3_rs_3 f3_rs_3 r4_rs_3 f4_rs_3 r5_rs_3 f5_rs_3
        clear r0_rx_3 f0_rx_3 r1_rx_3 f1_rx_3 r2_rx_3 f2_rx_3 r3_rx_3 f3_rx_3 r4_rx_3 f4_rx_3 r5_rx_3 f5_rx_3
        go_wp2_with fail
        go_cut [42] (fun z wx => z = .bool false ∧ Below w4.heap.size w4 wx)
        case first =>
          first | go_region_held3 (fun w' => (∀ b' o, b' < (w4).heap.size → w'.cell? ⟨b', o, none⟩ = (w4).cell? ⟨b', o, none⟩) ∧ Below (w4).heap.size (w4) w') (first | with_reducible assumption | (with_reducible apply rg_keep; rotate_left; with_reducible assumption; with_reducible assumption) | with_reducible exact rg_start _ | with_reducible exact rg_alloc (KeptS.out (by with_reducible assumption)) _ | with_reducible exact rg_alloc (by with_reducible assumption) _ | with_reducible exact rg_start_alloc _ _ | ((repeat (with_reducible refine rg_set ?_ _ (by first | exact Nat.le_refl _ | omega | (simp; done) | (simp; omega)) _)); first | with_reducible exact KeptS.out (by with_reducible assumption) | with_reducible assumption | with_reducible exact rg_alloc (KeptS.out (by with_reducible assumption)) _)) (first | (go_at_call 19; ((with_reducible refine (Y3.out _).mono ?_); (rintro e wA ⟨rfl, hbA⟩; have hSA := rg_keepK (by first | with_reducible assumption | exact KeptS.out (by with_reducible assumption)) hbA))) | (go_at_call 18; ((with_reducible refine (Y4.out _).mono ?_); (rintro e wC ⟨rfl, hbC⟩; have hSC := rg_keepK (by first | with_reducible assumption | exact KeptS.out (by with_reducible assumption)) hbC)))) | fail
          all_goals (go_wp2_with fail; go_meet; exact ⟨by simp, (by assumption : _ ∧ Below w4.heap.size w4 wC).2⟩)
        case rest =>
        obtain ⟨rfl, hb5⟩ := hcut
        rename World => w5
        have hz5 := hb5.size
        (try simp at hz5)
        have rs_5 := (hb5.block _ (by first | omega | (simp; done) | (simp; omega))).trans Rs_4.out
        have rx_5 := (hb5.block _ (by first | omega | (simp; done) | (simp; omega))).trans Rx_4.out
        have ry_5 := (hb5.block _ (by first | omega | (simp; done) | (simp; omega))).trans Ry_4.out
        have hw5 : Below w.heap.size w w5 := (by repeat (first | with_reducible exact Below.refl _ _ | with_reducible assumption | with_reducible refine Below.drew ?_ | with_reducible refine Below.alloc ?_ (by first | exact Nat.le_refl _ | omega | (simp; done) | (simp; omega)) _ | with_reducible refine Below.setCell ?_ (by first | exact Nat.le_refl _ | omega | (simp; done) | (simp; omega)) _ | (with_reducible refine ext_trans ?_ (by with_reducible assumption))))
        have lRs_5 : w1.heap.size < w5.heap.size := by omega
        have lRx_5 : w2.heap.size < w5.heap.size := by omega
        have lRy_5 : w3.heap.size < w5.heap.size := by omega
        have Rs_5 := Lib.hid rs_5
        have r0_rs_5 := cell_of_row _ _ 0 _ _ _ rs_5
        have r1_rs_5 := cell_of_row _ _ 1 _ _ _ rs_5
        have r2_rs_5 := cell_of_row _ _ 2 _ _ _ rs_5
        have r3_rs_5 := cell_of_row _ _ 3 _ _ _ rs_5
        have r4_rs_5 := cell_of_row _ _ 4 _ _ _ rs_5
        have r5_rs_5 := cell_of_row _ _ 5 _ _ _ rs_5
        have f0_rs_5 := frozen_of_row _ _ 0 _ _ rs_5
        have f1_rs_5 := frozen_of_row _ _ 1 _ _ rs_5
        have f2_rs_5 := frozen_of_row _ _ 2 _ _ rs_5
        have f3_rs_5 := frozen_of_row _ _ 3 _ _ rs_5
        have f4_rs_5 := frozen_of_row _ _ 4 _ _ rs_5
        have f5_rs_5 := frozen_of_row _ _ 5 _ _ rs_5
        simp at r0_rs_5 r1_rs_5 r2_rs_5 r3_rs_5 r4_rs_5 r5_rs_5
        clear rs_5
        have Rx_5 := Lib.hid rx_5
        have r0_rx_5 := cell_of_row _ _ 0 _ _ _ rx_5
        have r1_rx_5 := cell_of_row _ _ 1 _ _ _ rx_5
        have r2_rx_5 := cell_of_row _ _ 2 _ _ _ rx_5
        have r3_rx_5 := cell_of_row _ _ 3 _ _ _ rx_5
        have r4_rx_5 := cell_of_row _ _ 4 _ _ _ rx_5
        have r5_rx_5 := cell_of_row _ _ 5 _ _ _ rx_5
        have f0_rx_5 := frozen_of_row _ _ 0 _ _ rx_5
        have f1_rx_5 := frozen_of_row _ _ 1 _ _ rx_5
        have f2_rx_5 := frozen_of_row _ _ 2 _ _ rx_5
        have f3_rx_5 := frozen_of_row _ _ 3 _ _ rx_5
        have f4_rx_5 := frozen_of_row _ _ 4 _ _ rx_5
        have f5_rx_5 := frozen_of_row _ _ 5 _ _ rx_5
        simp at r0_rx_5 r1_rx_5 r2_rx_5 r3_rx_5 r4_rx_5 r5_rx_5
        clear rx_5
        have Ry_5 := Lib.hid ry_5
        have r0_ry_5 := cell_of_row _ _ 0 _ _ _ ry_5
        have r1_ry_5 := cell_of_row _ _ 1 _ _ _ ry_5
        have r2_ry_5 := cell_of_row _ _ 2 _ _ _ ry_5
        have r3_ry_5 := cell_of_row _ _ 3 _ _ _ ry_5
        have r4_ry_5 := cell_of_row _ _ 4 _ _ _ ry_5
        have r5_ry_5 := cell_of_row _ _ 5 _ _ _ ry_5
        have f0_ry_5 := frozen_of_row _ _ 0 _ _ ry_5
        have f1_ry_5 := frozen_of_row _ _ 1 _ _ ry_5
        have f2_ry_5 := frozen_of_row _ _ 2 _ _ ry_5
        have f3_ry_5 := frozen_of_row _ _ 3 _ _ ry_5
        have f4_ry_5 := frozen_of_row _ _ 4 _ _ ry_5
        have f5_ry_5 := frozen_of_row _ _ 5 _ _ ry_5
        simp at r0_ry_5 r1_ry_5 r2_ry_5 r3_ry_5 r4_ry_5 r5_ry_5
        clear ry_5
        clear r0_rs_4 f0_rs_4 r1_rs_4 f1_rs_4 r2_rs_4 f2_rs_4 r3_rs_4 f3_rs_4 r4_rs_4 f4_rs_4 r5_rs_4 f5_rs_4
        clear r0_rx_4 f0_rx_4 r1_rx_4 f1_rx_4 r2_rx_4 f2_rx_4 r3_rx_4 f3_rx_4 r4_rx_4 f4_rx_4 r5_rx_4 f5_rx_4
        clear r0_ry_4 f0_ry_4 r1_ry_4 f1_ry_4 r2_ry_4 f2_ry_4 r3_ry_4 f3_ry_4 r4_ry_4 f4_ry_4 r5_ry_4 f5_ry_4
        go_wp2_with fail
        refine (Y4.out _).mono ?_
        rintro e w6 ⟨rfl, hb6⟩
        have hz6 := hb6.size
        (try simp at hz6)
        have rs_6 := (hb6.block _ (by first | omega | (simp; done) | (simp; omega))).trans Rs_5.out
        have rx_6 := (hb6.block _ (by first | omega | (simp; done) | (simp; omega))).trans Rx_5.out
        have ry_6 := (hb6.block _ (by first | omega | (simp; done) | (simp; omega))).trans Ry_5.out
        have hw6 : Below w.heap.size w w6 := (by repeat (first | with_reducible exact Below.refl _ _ | with_reducible assumption | with_reducible refine Below.drew ?_ | with_reducible refine Below.alloc ?_ (by first | exact Nat.le_refl _ | omega | (simp; done) | (simp; omega)) _ | with_reducible refine Below.setCell ?_ (by first | exact Nat.le_refl _ | omega | (simp; done) | (simp; omega)) _ | (with_reducible refine ext_trans ?_ (by with_reducible assumption))))
        have lRs_6 : w1.heap.size < w6.heap.size := by omega
        have lRx_6 : w2.heap.size < w6.heap.size := by omega
        have lRy_6 : w3.heap.size < w6.heap.size := by omega
        have Rs_6 := Lib.hid rs_6
        have r0_rs_6 := cell_of_row _ _ 0 _ _ _ rs_6
        have r1_rs_6 := cell_of_row _ _ 1 _ _ _ rs_6
        have r2_rs_6 := cell_of_row _ _ 2 _ _ _ rs_6
        have r3_rs_6 := cell_of_row _ _ 3 _ _ _ rs_6
        have r4_rs_6 := cell_of_row _ _ 4 _ _ _ rs_6
        have r5_rs_6 := cell_of_row _ _ 5 _ _ _ rs_6
        have f0_rs_6 := frozen_of_row _ _ 0 _ _ rs_6
        have f1_rs_6 := frozen_of_row _ _ 1 _ _ rs_6
        have f2_rs_6 := frozen_of_row _ _ 2 _ _ rs_6
        have f3_rs_6 := frozen_of_row _ _ 3 _ _ rs_6
        have f4_rs_6 := frozen_of_row _ _ 4 _ _ rs_6
        have f5_rs_6 := frozen_of_row _ _ 5 _ _ rs_6
        simp at r0_rs_6 r1_rs_6 r2_rs_6 r3_rs_6 r4_rs_6 r5_rs_6
        clear rs_6
        have Rx_6 := Lib.hid rx_6
        have r0_rx_6 := cell_of_row _ _ 0 _ _ _ rx_6
        have r1_rx_6 := cell_of_row _ _ 1 _ _ _ rx_6
        have r2_rx_6 := cell_of_row _ _ 2 _ _ _ rx_6
        have r3_rx_6 := cell_of_row _ _ 3 _ _ _ rx_6
        have r4_rx_6 := cell_of_row _ _ 4 _ _ _ rx_6
        have r5_rx_6 := cell_of_row _ _ 5 _ _ _ rx_6
        have f0_rx_6 := frozen_of_row _ _ 0 _ _ rx_6
        have f1_rx_6 := frozen_of_row _ _ 1 _ _ rx_6
        have f2_rx_6 := frozen_of_row _ _ 2 _ _ rx_6
        have f3_rx_6 := frozen_of_row _ _ 3 _ _ rx_6
        have f4_rx_6 := frozen_of_row _ _ 4 _ _ rx_6
        have f5_rx_6 := frozen_of_row _ _ 5 _ _ rx_6
        simp at r0_rx_6 r1_rx_6 r2_rx_6 r3_rx_6 r4_rx_6 r5_rx_6
        clear rx_6
        have Ry_6 := Lib.hid ry_6
        have r0_ry_6 := cell_of_row _ _ 0 _ _ _ ry_6
        have r1_ry_6 := cell_of_row _ _ 1 _ _ _ ry_6
        have r2_ry_6 := cell_of_row _ _ 2 _ _ _ ry_6
        have r3_ry_6 := cell_of_row _ _ 3 _ _ _ ry_6
        have r4_ry_6 := cell_of_row _ _ 4 _ _ _ ry_6
        have r5_ry_6 := cell_of_row _ _ 5 _ _ _ ry_6
        have f0_ry_6 := frozen_of_row _ _ 0 _ _ ry_6
        have f1_ry_6 := frozen_of_row _ _ 1 _ _ ry_6
        have f2_ry_6 := frozen_of_row _ _ 2 _ _ ry_6
        have f3_ry_6 := frozen_of_row _ _ 3 _ _ ry_6
        have f4_ry_6 := frozen_of_row _ _ 4 _ _ ry_6
        have f5_ry_6 := frozen_of_row _ _ 5 _ _ ry_6
        simp at r0_ry_6 r1_ry_6 r2_ry_6 r3_ry_6 r4_ry_6 r5_ry_6
        clear ry_6
        clear r0_rs_5 f0_rs_5 r1_rs_5 f1_rs_5 r2_rs_5 f2_rs_5 r3_rs_5 f3_rs_5 r4_rs_5 f4_rs_5 r5_rs_5 f5_rs_5
        clear r0_rx_5 f0_rx_5 r1_rx_5 f1_rx_5 r2_rx_5 f2_rx_5 r3_rx_5 f3_rx_5 r4_rx_5 f4_rx_5 r5_rx_5 f5_rx_5
        clear r0_ry_5 f0_ry_5 r1_ry_5 f1_ry_5 r2_ry_5 f2_ry_5 r3_ry_5 f3_ry_5 r4_ry_5 f4_ry_5 r5_ry_5 f5_ry_5
        have hxd := HXD.out
        go_wp2_with fail
        go_cut [2] (fun z wx => z = .bool true ∧ Below w6.heap.size w6 wx)
        case rest =>
          obtain ⟨rfl, hbz⟩ := hcut
          go_wp2_with fail
          go_ret
          exact ⟨rfl, hw6.trans (hbz.mono hw6.size)⟩
        case first =>
          refine wp_region_noPanic ?_
          refine wp_region_held_drew (S := (fun w' => (∀ b' o, b' < w6.heap.size → w'.cell? ⟨b', o, none⟩ = w6.cell? ⟨b', o, none⟩) ∧ Below w6.heap.size w6 w')) (by kernel_rfl) (by first | exact rg_start _) (fun hHeld => ?_)
          refine wpAnyH_take (i := 0) (oi := _) (v := ?v0_1) rfl (by kernel_rfl) (by kernel_rfl) (by kernel_rfl) (fun _ _ _ h => h) (Or.inl ⟨by rfl, ?hy0_1⟩) (by with_reducible assumption) ?rest0_1
          case hy0_1 => ((intro w hSw; (try dsimp only at hSw); go_simp); (try with_reducible rfl))
          (try simp only [Act.put, List.getElem_toArray, List.getElem_cons_succ, List.getElem_cons_zero, List.setIfInBounds_toArray, List.set_cons_zero, List.set_cons_succ])
          refine wpAnyH_ready (rs := [1]) (by kernel_rfl) (by simp) ?_
          refine AllReadyH.cons (o := _) rfl (fun K hK => ?_) AllReadyH.nil
          go_simp
          go_at_call 19; ((with_reducible refine (Y5.out _).mono ?_); (rintro e wq1 ⟨rfl, hbq1⟩; have hSq1 := rg_keepK (by with_reducible assumption) hbq1))
          go_wp2_with fail
          refine hK.out _ _ ?_ (fun hHeld => ?_)
          · (try dsimp only); (first | with_reducible assumption | (with_reducible apply rg_keep; rotate_left; with_reducible assumption; with_reducible assumption) | with_reducible exact rg_start _ | with_reducible exact rg_alloc (KeptS.out (by with_reducible assumption)) _ | with_reducible exact rg_alloc (by with_reducible assumption) _ | with_reducible exact rg_start_alloc _ _ | ((repeat (with_reducible refine rg_set ?_ _ (by first | exact Nat.le_refl _ | omega | (simp; done) | (simp; omega)) _)); first | with_reducible exact KeptS.out (by with_reducible assumption) | with_reducible assumption | with_reducible exact rg_alloc (KeptS.out (by with_reducible assumption)) _))
          clear hK K
          (try simp only [Act.put, List.getElem_toArray, List.getElem_cons_succ, List.getElem_cons_zero, List.setIfInBounds_toArray, List.set_cons_zero, List.set_cons_succ])
          refine wpAnyH_take (i := 2) (oi := _) (v := ?v2_2) rfl (by kernel_rfl) (by kernel_rfl) (by kernel_rfl) (fun _ _ _ h => h) (Or.inl ⟨by rfl, ?hy2_2⟩) (by with_reducible assumption) ?rest2_2
          case hy2_2 => ((intro w hSw; (try dsimp only at hSw); go_simp); (try with_reducible rfl))
          (try simp only [Act.put, List.getElem_toArray, List.getElem_cons_succ, List.getElem_cons_zero, List.setIfInBounds_toArray, List.set_cons_zero, List.set_cons_succ])
          refine wpAnyH_take (i := 3) (oi := _) (v := ?v3_3) rfl (by kernel_rfl) (by kernel_rfl) (by kernel_rfl) (fun _ _ _ h => h) (Or.inl ⟨by rfl, ?hy3_3⟩) (by with_reducible assumption) ?rest3_3
          case hy3_3 => ((intro w hSw; (try dsimp only at hSw); go_simp); (try with_reducible rfl))
          (try simp only [Act.put, List.getElem_toArray, List.getElem_cons_succ, List.getElem_cons_zero, List.setIfInBounds_toArray, List.set_cons_zero, List.set_cons_succ])
          refine wpAnyH_take (i := 4) (oi := _) (v := ?v4_4) rfl (by kernel_rfl) (by kernel_rfl) (by kernel_rfl) (fun _ _ _ h => h) (Or.inl ⟨by rfl, ?hy4_4⟩) (by with_reducible assumption) ?rest4_4
          case hy4_4 => ((intro w hSw; (try dsimp only at hSw); go_simp); (try with_reducible rfl))
          (try simp only [Act.put, List.getElem_toArray, List.getElem_cons_succ, List.getElem_cons_zero, List.setIfInBounds_toArray, List.set_cons_zero, List.set_cons_succ])
          refine wpAnyH_take (i := 5) (oi := _) (v := ?v5_5) rfl (by kernel_rfl) (by kernel_rfl) (by kernel_rfl) (fun _ _ _ h => h) (Or.inl ⟨by rfl, ?hy5_5⟩) (by with_reducible assumption) ?rest5_5
          case hy5_5 => ((intro w hSw; (try dsimp only at hSw); go_simp); (try with_reducible rfl))
          (try simp only [Act.put, List.getElem_toArray, List.getElem_cons_succ, List.getElem_cons_zero, List.setIfInBounds_toArray, List.set_cons_zero, List.set_cons_succ])
          refine wpAnyH_take (i := 6) (oi := _) (v := ?v6_6) rfl (by kernel_rfl) (by kernel_rfl) (by kernel_rfl) (fun _ _ _ h => h) (Or.inl ⟨by rfl, ?hy6_6⟩) (by with_reducible assumption) ?rest6_6
          case hy6_6 => ((intro w hSw; (try dsimp only at hSw); go_simp); (try with_reducible rfl))
          (try simp only [Act.put, List.getElem_toArray, List.getElem_cons_succ, List.getElem_cons_zero, List.setIfInBounds_toArray, List.set_cons_zero, List.set_cons_succ])
          refine wpAnyH_take (i := 7) (oi := _) (v := ?v7_7) rfl (by kernel_rfl) (by kernel_rfl) (by kernel_rfl) (fun _ _ _ h => h) (Or.inl ⟨by rfl, ?hy7_7⟩) (by with_reducible assumption) ?rest7_7
          case hy7_7 => ((intro w hSw; (try dsimp only at hSw); go_simp); (try with_reducible rfl))
          (try simp only [Act.put, List.getElem_toArray, List.getElem_cons_succ, List.getElem_cons_zero, List.setIfInBounds_toArray, List.set_cons_zero, List.set_cons_succ])
          refine wpAnyH_take (i := 8) (oi := _) (v := ?v8_8) rfl (by kernel_rfl) (by kernel_rfl) (by kernel_rfl) (fun _ _ _ h => h) (Or.inl ⟨by rfl, ?hy8_8⟩) (by with_reducible assumption) ?rest8_8
          case hy8_8 => ((intro w hSw; (try dsimp only at hSw); go_simp); (try with_reducible rfl))
          (try simp only [Act.put, List.getElem_toArray, List.getElem_cons_succ, List.getElem_cons_zero, List.setIfInBounds_toArray, List.set_cons_zero, List.set_cons_succ])
          refine wpAnyH_take (i := 9) (oi := _) (v := ?v9_9) rfl (by kernel_rfl) (by kernel_rfl) (by kernel_rfl) (fun _ _ _ h => h) (Or.inl ⟨by rfl, ?hy9_9⟩) (by with_reducible assumption) ?rest9_9
          case hy9_9 => ((intro w hSw; (try dsimp only at hSw); go_simp); (try with_reducible rfl))
          (try simp only [Act.put, List.getElem_toArray, List.getElem_cons_succ, List.getElem_cons_zero, List.setIfInBounds_toArray, List.set_cons_zero, List.set_cons_succ])
          refine wpAnyH_take (i := 10) (oi := _) (v := ?v10_10) rfl (by kernel_rfl) (by kernel_rfl) (by kernel_rfl) (fun _ _ _ h => h) (Or.inl ⟨by rfl, ?hy10_10⟩) (by with_reducible assumption) ?rest10_10
          case hy10_10 => ((intro w hSw; (try dsimp only at hSw); go_simp); (try with_reducible rfl))
          (try simp only [Act.put, List.getElem_toArray, List.getElem_cons_succ, List.getElem_cons_zero, List.setIfInBounds_toArray, List.set_cons_zero, List.set_cons_succ])
          refine wpAnyH_take (i := 11) (oi := _) (v := ?v11_11) rfl (by kernel_rfl) (by kernel_rfl) (by kernel_rfl) (fun _ _ _ h => h) (Or.inl ⟨by rfl, ?hy11_11⟩) (by with_reducible assumption) ?rest11_11
          case hy11_11 => ((intro w hSw; (try dsimp only at hSw); go_simp); (try with_reducible rfl))
          (try simp only [Act.put, List.getElem_toArray, List.getElem_cons_succ, List.getElem_cons_zero, List.setIfInBounds_toArray, List.set_cons_zero, List.set_cons_succ])
          refine wpAnyH_take (i := 12) (oi := _) (v := ?v12_12) rfl (by kernel_rfl) (by kernel_rfl) (by kernel_rfl) (fun _ _ _ h => h) (Or.inl ⟨by rfl, ?hy12_12⟩) (by with_reducible assumption) ?rest12_12
          case hy12_12 => ((intro w hSw; (try dsimp only at hSw); go_simp); (try with_reducible rfl))
          (try simp only [Act.put, List.getElem_toArray, List.getElem_cons_succ, List.getElem_cons_zero, List.setIfInBounds_toArray, List.set_cons_zero, List.set_cons_succ])
          refine wpAnyH_take (i := 13) (oi := _) (v := ?v13_13) rfl (by kernel_rfl) (by kernel_rfl) (by kernel_rfl) (fun _ _ _ h => h) (Or.inl ⟨by rfl, ?hy13_13⟩) (by with_reducible assumption) ?rest13_13
          case hy13_13 => ((intro w hSw; (try dsimp only at hSw); go_simp); (try with_reducible rfl))
          (try simp only [Act.put, List.getElem_toArray, List.getElem_cons_succ, List.getElem_cons_zero, List.setIfInBounds_toArray, List.set_cons_zero, List.set_cons_succ])
          refine wpAnyH_take (i := 14) (oi := _) (v := ?v14_14) rfl (by kernel_rfl) (by kernel_rfl) (by kernel_rfl) (fun _ _ _ h => h) (Or.inl ⟨by rfl, ?hy14_14⟩) (by with_reducible assumption) ?rest14_14
          case hy14_14 => ((intro w hSw; (try dsimp only at hSw); go_simp); (try with_reducible rfl))
          (try simp only [Act.put, List.getElem_toArray, List.getElem_cons_succ, List.getElem_cons_zero, List.setIfInBounds_toArray, List.set_cons_zero, List.set_cons_succ])
          refine wpAnyH_take (i := 16) (oi := _) (v := ?v16_15) rfl (by kernel_rfl) (by kernel_rfl) (by kernel_rfl) (fun _ _ _ h => h) (Or.inl ⟨by rfl, ?hy16_15⟩) (by with_reducible assumption) ?rest16_15
          case hy16_15 => ((intro w hSw; (try dsimp only at hSw); go_simp); (try with_reducible rfl))
          (try simp only [Act.put, List.getElem_toArray, List.getElem_cons_succ, List.getElem_cons_zero, List.setIfInBounds_toArray, List.set_cons_zero, List.set_cons_succ])
          refine wpAnyH_ready (rs := [15]) (by kernel_rfl) (by simp) ?_
          refine AllReadyH.cons (o := _) rfl (fun K hK => ?_) AllReadyH.nil
          go_simp
          go_at_call 17; ((with_reducible refine (Y6.out _).mono ?_); (rintro e wq2 ⟨rfl, hbq2⟩; have hSq2 := rg_keepK (by with_reducible assumption) hbq2))
          go_wp2_with fail
          refine hK.out _ _ ?_ (fun hHeld => ?_)
          · (try dsimp only); (first | with_reducible assumption | (with_reducible apply rg_keep; rotate_left; with_reducible assumption; with_reducible assumption) | with_reducible exact rg_start _ | with_reducible exact rg_alloc (KeptS.out (by with_reducible assumption)) _ | with_reducible exact rg_alloc (by with_reducible assumption) _ | with_reducible exact rg_start_alloc _ _ | ((repeat (with_reducible refine rg_set ?_ _ (by first | exact Nat.le_refl _ | omega | (simp; done) | (simp; omega)) _)); first | with_reducible exact KeptS.out (by with_reducible assumption) | with_reducible assumption | with_reducible exact rg_alloc (KeptS.out (by with_reducible assumption)) _))
          clear hK K
          (try simp only [Act.put, List.getElem_toArray, List.getElem_cons_succ, List.getElem_cons_zero, List.setIfInBounds_toArray, List.set_cons_zero, List.set_cons_succ])
          refine wpAnyH_ready (rs := [17]) (by kernel_rfl) (by simp) ?_
          refine AllReadyH.cons (o := _) rfl (fun K hK => ?_) AllReadyH.nil
          go_simp
          go_at_call 17; ((with_reducible refine (Y7.out _).mono ?_); (rintro e wq3 ⟨rfl, hbq3⟩; have hSq3 := rg_keepK (by with_reducible assumption) hbq3))
          go_wp2_with fail
          refine hK.out _ _ ?_ (fun hHeld => ?_)
          · (try dsimp only); (first | with_reducible assumption | (with_reducible apply rg_keep; rotate_left; with_reducible assumption; with_reducible assumption) | with_reducible exact rg_start _ | with_reducible exact rg_alloc (KeptS.out (by with_reducible assumption)) _ | with_reducible exact rg_alloc (by with_reducible assumption) _ | with_reducible exact rg_start_alloc _ _ | ((repeat (with_reducible refine rg_set ?_ _ (by first | exact Nat.le_refl _ | omega | (simp; done) | (simp; omega)) _)); first | with_reducible exact KeptS.out (by with_reducible assumption) | with_reducible assumption | with_reducible exact rg_alloc (KeptS.out (by with_reducible assumption)) _))
          clear hK K
          (try simp only [Act.put, List.getElem_toArray, List.getElem_cons_succ, List.getElem_cons_zero, List.setIfInBounds_toArray, List.set_cons_zero, List.set_cons_succ])
          refine wpAnyH_take (i := 18) (oi := _) (v := ?v18_16) rfl (by kernel_rfl) (by kernel_rfl) (by kernel_rfl) (fun _ _ _ h => h) (Or.inl ⟨by rfl, ?hy18_16⟩) (by with_reducible assumption) ?rest18_16
          case hy18_16 => ((intro w hSw; (try dsimp only at hSw); go_simp); (try with_reducible rfl))
          (try simp only [Act.put, List.getElem_toArray, List.getElem_cons_succ, List.getElem_cons_zero, List.setIfInBounds_toArray, List.set_cons_zero, List.set_cons_succ])
          refine wpAnyH_take (i := 19) (oi := _) (v := ?v19_17) rfl (by kernel_rfl) (by kernel_rfl) (by kernel_rfl) (fun _ _ _ h => h) (Or.inl ⟨by rfl, ?hy19_17⟩) (by with_reducible assumption) ?rest19_17
          case hy19_17 => ((intro w hSw; (try dsimp only at hSw); go_simp); (try with_reducible rfl))
          (try simp only [Act.put, List.getElem_toArray, List.getElem_cons_succ, List.getElem_cons_zero, List.setIfInBounds_toArray, List.set_cons_zero, List.set_cons_succ])
          refine wpAnyH_take (i := 20) (oi := _) (v := ?v20_18) rfl (by kernel_rfl) (by kernel_rfl) (by kernel_rfl) (fun _ _ _ h => h) (Or.inl ⟨by rfl, ?hy20_18⟩) (by with_reducible assumption) ?rest20_18
          case hy20_18 => ((intro w hSw; (try dsimp only at hSw); go_simp); (try with_reducible rfl))
          (try simp only [Act.put, List.getElem_toArray, List.getElem_cons_succ, List.getElem_cons_zero, List.setIfInBounds_toArray, List.set_cons_zero, List.set_cons_succ])
          refine wpAnyH_take (i := 21) (oi := _) (v := ?v21_19) rfl (by kernel_rfl) (by kernel_rfl) (by kernel_rfl) (fun _ _ _ h => h) (Or.inl ⟨by rfl, ?hy21_19⟩) (by with_reducible assumption) ?rest21_19
          case hy21_19 => ((intro w hSw; (try dsimp only at hSw); go_simp); (try with_reducible rfl))
          (try simp only [Act.put, List.getElem_toArray, List.getElem_cons_succ, List.getElem_cons_zero, List.setIfInBounds_toArray, List.set_cons_zero, List.set_cons_succ])
          refine wpAnyH_take (i := 22) (oi := _) (v := ?v22_20) rfl (by kernel_rfl) (by kernel_rfl) (by kernel_rfl) (fun _ _ _ h => h) (Or.inl ⟨by rfl, ?hy22_20⟩) (by with_reducible assumption) ?rest22_20
          case hy22_20 => ((intro w hSw; (try dsimp only at hSw); go_simp); (try with_reducible rfl))
          (try simp only [Act.put, List.getElem_toArray, List.getElem_cons_succ, List.getElem_cons_zero, List.setIfInBounds_toArray, List.set_cons_zero, List.set_cons_succ])
          refine wpAnyH_take (i := 23) (oi := _) (v := ?v23_21) rfl (by kernel_rfl) (by kernel_rfl) (by kernel_rfl) (fun _ _ _ h => h) (Or.inl ⟨by rfl, ?hy23_21⟩) (by with_reducible assumption) ?rest23_21
          case hy23_21 => ((intro w hSw; (try dsimp only at hSw); go_simp); (try with_reducible rfl))
          (try simp only [Act.put, List.getElem_toArray, List.getElem_cons_succ, List.getElem_cons_zero, List.setIfInBounds_toArray, List.set_cons_zero, List.set_cons_succ])
          refine wpAnyH_take (i := 24) (oi := _) (v := ?v24_22) rfl (by kernel_rfl) (by kernel_rfl) (by kernel_rfl) (fun _ _ _ h => h) (Or.inl ⟨by rfl, ?hy24_22⟩) (by with_reducible assumption) ?rest24_22
          case hy24_22 => ((intro w hSw; (try dsimp only at hSw); go_simp); (try with_reducible rfl))
          (try simp only [Act.put, List.getElem_toArray, List.getElem_cons_succ, List.getElem_cons_zero, List.setIfInBounds_toArray, List.set_cons_zero, List.set_cons_succ])
          refine wpAnyH_take (i := 25) (oi := _) (v := ?v25_23) rfl (by kernel_rfl) (by kernel_rfl) (by kernel_rfl) (fun _ _ _ h => h) (Or.inl ⟨by rfl, ?hy25_23⟩) (by with_reducible assumption) ?rest25_23
          case hy25_23 => ((intro w hSw; (try dsimp only at hSw); go_simp); (try with_reducible rfl))
          (try simp only [Act.put, List.getElem_toArray, List.getElem_cons_succ, List.getElem_cons_zero, List.setIfInBounds_toArray, List.set_cons_zero, List.set_cons_succ])
          refine wpAnyH_take (i := 26) (oi := _) (v := undef) rfl (by kernel_rfl) (by kernel_rfl) (by kernel_rfl) (fun _ _ _ h => h) (Or.inr ⟨by rfl, rfl⟩) (by with_reducible assumption) ?rest26_24
          (try simp only [Act.put, List.getElem_toArray, List.getElem_cons_succ, List.getElem_cons_zero, List.setIfInBounds_toArray, List.set_cons_zero, List.set_cons_succ])
          refine wpAnyH_take (i := 27) (oi := _) (v := undef) rfl (by kernel_rfl) (by kernel_rfl) (by kernel_rfl) (fun _ _ _ h => h) (Or.inr ⟨by rfl, rfl⟩) (by with_reducible assumption) ?rest27_25
          (try simp only [Act.put, List.getElem_toArray, List.getElem_cons_succ, List.getElem_cons_zero, List.setIfInBounds_toArray, List.set_cons_zero, List.set_cons_succ])
          refine wpAnyH_take (i := 28) (oi := _) (v := undef) rfl (by kernel_rfl) (by kernel_rfl) (by kernel_rfl) (fun _ _ _ h => h) (Or.inr ⟨by rfl, rfl⟩) (by with_reducible assumption) ?rest28_26
          (try simp only [Act.put, List.getElem_toArray, List.getElem_cons_succ, List.getElem_cons_zero, List.setIfInBounds_toArray, List.set_cons_zero, List.set_cons_succ])
          refine wpAnyH_take (i := 29) (oi := _) (v := undef) rfl (by kernel_rfl) (by kernel_rfl) (by kernel_rfl) (fun _ _ _ h => h) (Or.inr ⟨by rfl, rfl⟩) (by with_reducible assumption) ?rest29_27
          (try simp only [Act.put, List.getElem_toArray, List.getElem_cons_succ, List.getElem_cons_zero, List.setIfInBounds_toArray, List.set_cons_zero, List.set_cons_succ])
          refine wpAnyH_take (i := 30) (oi := _) (v := ?v30_28) rfl (by kernel_rfl) (by kernel_rfl) (by kernel_rfl) (fun _ _ _ h => h) (Or.inl ⟨by rfl, ?hy30_28⟩) (by with_reducible assumption) ?rest30_28
          case hy30_28 => ((intro w hSw; (try dsimp only at hSw); go_simp); (try with_reducible rfl))
          (try simp only [Act.put, List.getElem_toArray, List.getElem_cons_succ, List.getElem_cons_zero, List.setIfInBounds_toArray, List.set_cons_zero, List.set_cons_succ])
          refine wpAnyH_take (i := 31) (oi := _) (v := ?v31_29) rfl (by kernel_rfl) (by kernel_rfl) (by kernel_rfl) (fun _ _ _ h => h) (Or.inl ⟨by rfl, ?hy31_29⟩) (by with_reducible assumption) ?rest31_29
          case hy31_29 => ((intro w hSw; (try dsimp only at hSw); go_simp); (try with_reducible rfl))
          (try simp only [Act.put, List.getElem_toArray, List.getElem_cons_succ, List.getElem_cons_zero, List.setIfInBounds_toArray, List.set_cons_zero, List.set_cons_succ])
          refine wpAnyH_take (i := 32) (oi := _) (v := ?v32_30) rfl (by kernel_rfl) (by kernel_rfl) (by kernel_rfl) (fun _ _ _ h => h) (Or.inl ⟨by rfl, ?hy32_30⟩) (by with_reducible assumption) ?rest32_30
          case hy32_30 => ((intro w hSw; (try dsimp only at hSw); go_simp); (try with_reducible rfl))
          (try simp only [Act.put, List.getElem_toArray, List.getElem_cons_succ, List.getElem_cons_zero, List.setIfInBounds_toArray, List.set_cons_zero, List.set_cons_succ])
          refine wpAnyH_done (by kernel_rfl) (NoPanic.normal ?_) _
          go_wp2_with fail
          go_meet
          exact ⟨by first | rfl | simp, (by assumption : _ ∧ Below w6.heap.size w6 _).2⟩
      case neg =>
        have hqe : ((q : Int) == (t.size : Int)) = false := by simp; omega
        have hxs : (XD.size : Int) = 48 := by omega
        have hxe : ((XD.size : Int) == 48) = true := by simp [hxs]
        clear hqt c5 hxs
        go_wp2_with fail
        refine (Y2.out _).mono ?_
        rintro e w2 ⟨rfl, hb2⟩
        have hz2 := hb2.size
        (try simp at hz2)
        have rs_2 : w2.heap[w1.heap.size]? = some (.cells #[.int .i64 u, .string d, .int .i64 s, .bool false, .bool false, .bool false] 26 (0, 0)) := (hb2.block _ (by first | (simp; done) | (simp; omega))).trans (by repeat (first | exact heap_new _ _ _ (by first | rfl | (simp; done) | (simp; omega)) | refine (Below.heap_alloc _ _ _ (by first | omega | (simp; done) | (simp; omega))).trans ?_))
        have hw2 : Below w.heap.size w w2 := (by repeat (first | with_reducible exact Below.refl _ _ | with_reducible assumption | with_reducible refine Below.drew ?_ | with_reducible refine Below.alloc ?_ (by first | exact Nat.le_refl _ | omega | (simp; done) | (simp; omega)) _ | with_reducible refine Below.setCell ?_ (by first | exact Nat.le_refl _ | omega | (simp; done) | (simp; omega)) _ | (with_reducible refine ext_trans ?_ (by with_reducible assumption))))
        have lRs_2 : w1.heap.size < w2.heap.size := by omega
        have Rs_2 := Lib.hid rs_2
        have r0_rs_2 := cell_of_row _ _ 0 _ _ _ rs_2
        have r1_rs_2 := cell_of_row _ _ 1 _ _ _ rs_2
        have r2_rs_2 := cell_of_row _ _ 2 _ _ _ rs_2
        have r3_rs_2 := cell_of_row _ _ 3 _ _ _ rs_2
        have r4_rs_2 := cell_of_row _ _ 4 _ _ _ rs_2
        have r5_rs_2 := cell_of_row _ _ 5 _ _ _ rs_2
        have f0_rs_2 := frozen_of_row _ _ 0 _ _ rs_2
        have f1_rs_2 := frozen_of_row _ _ 1 _ _ rs_2
        have f2_rs_2 := frozen_of_row _ _ 2 _ _ rs_2
        have f3_rs_2 := frozen_of_row _ _ 3 _ _ rs_2
        have f4_rs_2 := frozen_of_row _ _ 4 _ _ rs_2
        have f5_rs_2 := frozen_of_row _ _ 5 _ _ rs_2
        simp at r0_rs_2 r1_rs_2 r2_rs_2 r3_rs_2 r4_rs_2 r5_rs_2
        clear rs_2
        go_wp2_with fail
        refine (Y1.out _).mono ?_
        rintro e w3 ⟨rfl, hb3⟩
        have hz3 := hb3.size
        (try simp at hz3)
        have rs_3 := (hb3.block _ (by first | omega | (simp; done) | (simp; omega))).trans ((Below.heap_alloc _ _ _ (by first | exact lRs_2 | (simp; omega))).trans Rs_2.out)
        have rx_3 : w3.heap[w2.heap.size]? = some (.cells #[.int .i64 u, .string XD, .int .i64 s, .bool false, .bool false, .bool false] 26 (0, 0)) := (hb3.block _ (by first | (simp; done) | (simp; omega))).trans (by repeat (first | exact heap_new _ _ _ (by first | rfl | (simp; done) | (simp; omega)) | refine (Below.heap_alloc _ _ _ (by first | omega | (simp; done) | (simp; omega))).trans ?_))
        have hw3 : Below w.heap.size w w3 := (by repeat (first | with_reducible exact Below.refl _ _ | with_reducible assumption | with_reducible refine Below.drew ?_ | with_reducible refine Below.alloc ?_ (by first | exact Nat.le_refl _ | omega | (simp; done) | (simp; omega)) _ | with_reducible refine Below.setCell ?_ (by first | exact Nat.le_refl _ | omega | (simp; done) | (simp; omega)) _ | (with_reducible refine ext_trans ?_ (by with_reducible assumption))))
        have lRs_3 : w1.heap.size < w3.heap.size := by omega
        have lRx_3 : w2.heap.size < w3.heap.size := by omega
        have Rs_3 := Lib.hid rs_3
        have r0_rs_3 := cell_of_row _ _ 0 _ _ _ rs_3
        have r1_rs_3 := cell_of_row _ _ 1 _ _ _ rs_3
        have r2_rs_3 := cell_of_row _ _ 2 _ _ _ rs_3
        have r3_rs_3 := cell_of_row _ _ 3 _ _ _ rs_3
        have r4_rs_3 := cell_of_row _ _ 4 _ _ _ rs_3
        have r5_rs_3 := cell_of_row _ _ 5 _ _ _ rs_3
        have f0_rs_3 := frozen_of_row _ _ 0 _ _ rs_3
        have f1_rs_3 := frozen_of_row _ _ 1 _ _ rs_3
        have f2_rs_3 := frozen_of_row _ _ 2 _ _ rs_3
        have f3_rs_3 := frozen_of_row _ _ 3 _ _ rs_3
        have f4_rs_3 := frozen_of_row _ _ 4 _ _ rs_3
        have f5_rs_3 := frozen_of_row _ _ 5 _ _ rs_3
        simp at r0_rs_3 r1_rs_3 r2_rs_3 r3_rs_3 r4_rs_3 r5_rs_3
        clear rs_3
        have Rx_3 := Lib.hid rx_3
        have r0_rx_3 := cell_of_row _ _ 0 _ _ _ rx_3
        have r1_rx_3 := cell_of_row _ _ 1 _ _ _ rx_3
        have r2_rx_3 := cell_of_row _ _ 2 _ _ _ rx_3
        have r3_rx_3 := cell_of_row _ _ 3 _ _ _ rx_3
        have r4_rx_3 := cell_of_row _ _ 4 _ _ _ rx_3
        have r5_rx_3 := cell_of_row _ _ 5 _ _ _ rx_3
        have f0_rx_3 := frozen_of_row _ _ 0 _ _ rx_3
        have f1_rx_3 := frozen_of_row _ _ 1 _ _ rx_3
        have f2_rx_3 := frozen_of_row _ _ 2 _ _ rx_3
        have f3_rx_3 := frozen_of_row _ _ 3 _ _ rx_3
        have f4_rx_3 := frozen_of_row _ _ 4 _ _ rx_3
        have f5_rx_3 := frozen_of_row _ _ 5 _ _ rx_3
        simp at r0_rx_3 r1_rx_3 r2_rx_3 r3_rx_3 r4_rx_3 r5_rx_3
        clear rx_3
        clear r0_rs_2 f0_rs_2 r1_rs_2 f1_rs_2 r2_rs_2 f2_rs_2 r3_rs_2 f3_rs_2 r4_rs_2 f4_rs_2 r5_rs_2 f5_rs_2
        go_wp2_with fail
        have hb4 : Below w3.heap.size w3 (w3.alloc (.cells #[.int .i64 u, .string XD, .int .i64 s, .bool false, .bool false, .bool false] 26)) := (by repeat (first | with_reducible exact Below.refl _ _ | with_reducible assumption | with_reducible refine Below.drew ?_ | with_reducible refine Below.alloc ?_ (by first | exact Nat.le_refl _ | omega | (simp; done) | (simp; omega)) _ | with_reducible refine Below.setCell ?_ (by first | exact Nat.le_refl _ | omega | (simp; done) | (simp; omega)) _ | (with_reducible refine ext_trans ?_ (by with_reducible assumption))))
        have ry_4 : (w3.alloc (.cells #[.int .i64 u, .string XD, .int .i64 s, .bool false, .bool false, .bool false] 26)).heap[w3.heap.size]? = some (.cells #[.int .i64 u, .string XD, .int .i64 s, .bool false, .bool false, .bool false] 26 (0, 0)) := (by repeat (first | exact heap_new _ _ _ (by first | rfl | (simp; done) | (simp; omega)) | refine (Below.heap_alloc _ _ _ (by first | omega | (simp; done) | (simp; omega))).trans ?_))
        have lNy_4 : w3.heap.size < (w3.alloc (.cells #[.int .i64 u, .string XD, .int .i64 s, .bool false, .bool false, .bool false] 26)).heap.size := by simp
        generalize (w3.alloc (.cells #[.int .i64 u, .string XD, .int .i64 s, .bool false, .bool false, .bool false] 26)) = w4 at *
        have hz4 := hb4.size
        (try simp at hz4)
        have rs_4 := (hb4.block _ (by first | omega | (simp; done) | (simp; omega))).trans Rs_3.out
        have rx_4 := (hb4.block _ (by first | omega | (simp; done) | (simp; omega))).trans Rx_3.out
        have hw4 : Below w.heap.size w w4 := (by repeat (first | with_reducible exact Below.refl _ _ | with_reducible assumption | with_reducible refine Below.drew ?_ | with_reducible refine Below.alloc ?_ (by first | exact Nat.le_refl _ | omega | (simp; done) | (simp; omega)) _ | with_reducible refine Below.setCell ?_ (by first | exact Nat.le_refl _ | omega | (simp; done) | (simp; omega)) _ | (with_reducible refine ext_trans ?_ (by with_reducible assumption))))
        have lRs_4 : w1.heap.size < w4.heap.size := by omega
        have lRx_4 : w2.heap.size < w4.heap.size := by omega
        have lRy_4 : w3.heap.size < w4.heap.size := by omega
        have Rs_4 := Lib.hid rs_4
        have r0_rs_4 := cell_of_row _ _ 0 _ _ _ rs_4
        have r1_rs_4 := cell_of_row _ _ 1 _ _ _ rs_4
        have r2_rs_4 := cell_of_row _ _ 2 _ _ _ rs_4
        have r3_rs_4 := cell_of_row _ _ 3 _ _ _ rs_4
        have r4_rs_4 := cell_of_row _ _ 4 _ _ _ rs_4
        have r5_rs_4 := cell_of_row _ _ 5 _ _ _ rs_4
        have f0_rs_4 := frozen_of_row _ _ 0 _ _ rs_4
        have f1_rs_4 := frozen_of_row _ _ 1 _ _ rs_4
        have f2_rs_4 := frozen_of_row _ _ 2 _ _ rs_4
        have f3_rs_4 := frozen_of_row _ _ 3 _ _ rs_4
        have f4_rs_4 := frozen_of_row _ _ 4 _ _ rs_4
        have f5_rs_4 := frozen_of_row _ _ 5 _ _ rs_4
        simp at r0_rs_4 r1_rs_4 r2_rs_4 r3_rs_4 r4_rs_4 r5_rs_4
        clear rs_4
        have Rx_4 := Lib.hid rx_4
        have r0_rx_4 := cell_of_row _ _ 0 _ _ _ rx_4
        have r1_rx_4 := cell_of_row _ _ 1 _ _ _ rx_4
        have r2_rx_4 := cell_of_row _ _ 2 _ _ _ rx_4
        have r3_rx_4 := cell_of_row _ _ 3 _ _ _ rx_4
        have r4_rx_4 := cell_of_row _ _ 4 _ _ _ rx_4
        have r5_rx_4 := cell_of_row _ _ 5 _ _ _ rx_4
        have f0_rx_4 := frozen_of_row _ _ 0 _ _ rx_4
        have f1_rx_4 := frozen_of_row _ _ 1 _ _ rx_4
        have f2_rx_4 := frozen_of_row _ _ 2 _ _ rx_4
        have f3_rx_4 := frozen_of_row _ _ 3 _ _ rx_4
        have f4_rx_4 := frozen_of_row _ _ 4 _ _ rx_4
        have f5_rx_4 := frozen_of_row _ _ 5 _ _ rx_4
        simp at r0_rx_4 r1_rx_4 r2_rx_4 r3_rx_4 r4_rx_4 r5_rx_4
        clear rx_4
        have Ry_4 := Lib.hid ry_4
        have r0_ry_4 := cell_of_row _ _ 0 _ _ _ ry_4
        have r1_ry_4 := cell_of_row _ _ 1 _ _ _ ry_4
        have r2_ry_4 := cell_of_row _ _ 2 _ _ _ ry_4
        have r3_ry_4 := cell_of_row _ _ 3 _ _ _ ry_4
        have r4_ry_4 := cell_of_row _ _ 4 _ _ _ ry_4
        have r5_ry_4 := cell_of_row _ _ 5 _ _ _ ry_4
        have f0_ry_4 := frozen_of_row _ _ 0 _ _ ry_4
        have f1_ry_4 := frozen_of_row _ _ 1 _ _ ry_4
        have f2_ry_4 := frozen_of_row _ _ 2 _ _ ry_4
        have f3_ry_4 := frozen_of_row _ _ 3 _ _ ry_4
        have f4_ry_4 := frozen_of_row _ _ 4 _ _ ry_4
        have f5_ry_4 := frozen_of_row _ _ 5 _ _ ry_4
        simp at r0_ry_4 r1_ry_4 r2_ry_4 r3_ry_4 r4_ry_4 r5_ry_4
        clear ry_4
        clear r0_rs_3 f0_rs_3 r1_rs_3 f1_rs_3 r2_rs_3 f2_rs_3 r3_rs_3 f3_rs_3 r4_rs_3 f4_rs_3 r5_rs_3 f5_rs_3
        clear r0_rx_3 f0_rx_3 r1_rx_3 f1_rx_3 r2_rx_3 f2_rx_3 r3_rx_3 f3_rx_3 r4_rx_3 f4_rx_3 r5_rx_3 f5_rx_3
        go_wp2_with fail
        go_cut [42] (fun z wx => z = .bool false ∧ Below w4.heap.size w4 wx)
        case first =>
          first | go_region_held3 (fun w' => (∀ b' o, b' < (w4).heap.size → w'.cell? ⟨b', o, none⟩ = (w4).cell? ⟨b', o, none⟩) ∧ Below (w4).heap.size (w4) w') (first | with_reducible assumption | (with_reducible apply rg_keep; rotate_left; with_reducible assumption; with_reducible assumption) | with_reducible exact rg_start _ | with_reducible exact rg_alloc (KeptS.out (by with_reducible assumption)) _ | with_reducible exact rg_alloc (by with_reducible assumption) _ | with_reducible exact rg_start_alloc _ _ | ((repeat (with_reducible refine rg_set ?_ _ (by first | exact Nat.le_refl _ | omega | (simp; done) | (simp; omega)) _)); first | with_reducible exact KeptS.out (by with_reducible assumption) | with_reducible assumption | with_reducible exact rg_alloc (KeptS.out (by with_reducible assumption)) _)) (first | (go_at_call 19; ((with_reducible refine (Y3.out _).mono ?_); (rintro e wA ⟨rfl, hbA⟩; have hSA := rg_keepK (by first | with_reducible assumption | exact KeptS.out (by with_reducible assumption)) hbA))) | (go_at_call 18; ((with_reducible refine (Y4.out _).mono ?_); (rintro e wC ⟨rfl, hbC⟩; have hSC := rg_keepK (by first | with_reducible assumption | exact KeptS.out (by with_reducible assumption)) hbC)))) | fail
          all_goals (go_wp2_with fail; go_meet; exact ⟨by simp, (by assumption : _ ∧ Below w4.heap.size w4 wC).2⟩)
        case rest =>
        obtain ⟨rfl, hb5⟩ := hcut
        rename World => w5
        have hz5 := hb5.size
        (try simp at hz5)
        have rs_5 := (hb5.block _ (by first | omega | (simp; done) | (simp; omega))).trans Rs_4.out
        have rx_5 := (hb5.block _ (by first | omega | (simp; done) | (simp; omega))).trans Rx_4.out
        have ry_5 := (hb5.block _ (by first | omega | (simp; done) | (simp; omega))).trans Ry_4.out
        have hw5 : Below w.heap.size w w5 := (by repeat (first | with_reducible exact Below.refl _ _ | with_reducible assumption | with_reducible refine Below.drew ?_ | with_reducible refine Below.alloc ?_ (by first | exact Nat.le_refl _ | omega | (simp; done) | (simp; omega)) _ | with_reducible refine Below.setCell ?_ (by first | exact Nat.le_refl _ | omega | (simp; done) | (simp; omega)) _ | (with_reducible refine ext_trans ?_ (by with_reducible assumption))))
        have lRs_5 : w1.heap.size < w5.heap.size := by omega
        have lRx_5 : w2.heap.size < w5.heap.size := by omega
        have lRy_5 : w3.heap.size < w5.heap.size := by omega
        have Rs_5 := Lib.hid rs_5
        have r0_rs_5 := cell_of_row _ _ 0 _ _ _ rs_5
        have r1_rs_5 := cell_of_row _ _ 1 _ _ _ rs_5
        have r2_rs_5 := cell_of_row _ _ 2 _ _ _ rs_5
        have r3_rs_5 := cell_of_row _ _ 3 _ _ _ rs_5
        have r4_rs_5 := cell_of_row _ _ 4 _ _ _ rs_5
        have r5_rs_5 := cell_of_row _ _ 5 _ _ _ rs_5
        have f0_rs_5 := frozen_of_row _ _ 0 _ _ rs_5
        have f1_rs_5 := frozen_of_row _ _ 1 _ _ rs_5
        have f2_rs_5 := frozen_of_row _ _ 2 _ _ rs_5
        have f3_rs_5 := frozen_of_row _ _ 3 _ _ rs_5
        have f4_rs_5 := frozen_of_row _ _ 4 _ _ rs_5
        have f5_rs_5 := frozen_of_row _ _ 5 _ _ rs_5
        simp at r0_rs_5 r1_rs_5 r2_rs_5 r3_rs_5 r4_rs_5 r5_rs_5
        clear rs_5
        have Rx_5 := Lib.hid rx_5
        have r0_rx_5 := cell_of_row _ _ 0 _ _ _ rx_5
        have r1_rx_5 := cell_of_row _ _ 1 _ _ _ rx_5
        have r2_rx_5 := cell_of_row _ _ 2 _ _ _ rx_5
        have r3_rx_5 := cell_of_row _ _ 3 _ _ _ rx_5
        have r4_rx_5 := cell_of_row _ _ 4 _ _ _ rx_5
        have r5_rx_5 := cell_of_row _ _ 5 _ _ _ rx_5
        have f0_rx_5 := frozen_of_row _ _ 0 _ _ rx_5
        have f1_rx_5 := frozen_of_row _ _ 1 _ _ rx_5
        have f2_rx_5 := frozen_of_row _ _ 2 _ _ rx_5
        have f3_rx_5 := frozen_of_row _ _ 3 _ _ rx_5
        have f4_rx_5 := frozen_of_row _ _ 4 _ _ rx_5
        have f5_rx_5 := frozen_of_row _ _ 5 _ _ rx_5
        simp at r0_rx_5 r1_rx_5 r2_rx_5 r3_rx_5 r4_rx_5 r5_rx_5
        clear rx_5
        have Ry_5 := Lib.hid ry_5
        have r0_ry_5 := cell_of_row _ _ 0 _ _ _ ry_5
        have r1_ry_5 := cell_of_row _ _ 1 _ _ _ ry_5
        have r2_ry_5 := cell_of_row _ _ 2 _ _ _ ry_5
        have r3_ry_5 := cell_of_row _ _ 3 _ _ _ ry_5
        have r4_ry_5 := cell_of_row _ _ 4 _ _ _ ry_5
        have r5_ry_5 := cell_of_row _ _ 5 _ _ _ ry_5
        have f0_ry_5 := frozen_of_row _ _ 0 _ _ ry_5
        have f1_ry_5 := frozen_of_row _ _ 1 _ _ ry_5
        have f2_ry_5 := frozen_of_row _ _ 2 _ _ ry_5
        have f3_ry_5 := frozen_of_row _ _ 3 _ _ ry_5
        have f4_ry_5 := frozen_of_row _ _ 4 _ _ ry_5
        have f5_ry_5 := frozen_of_row _ _ 5 _ _ ry_5
        simp at r0_ry_5 r1_ry_5 r2_ry_5 r3_ry_5 r4_ry_5 r5_ry_5
        clear ry_5
        clear r0_rs_4 f0_rs_4 r1_rs_4 f1_rs_4 r2_rs_4 f2_rs_4 r3_rs_4 f3_rs_4 r4_rs_4 f4_rs_4 r5_rs_4 f5_rs_4
        clear r0_rx_4 f0_rx_4 r1_rx_4 f1_rx_4 r2_rx_4 f2_rx_4 r3_rx_4 f3_rx_4 r4_rx_4 f4_rx_4 r5_rx_4 f5_rx_4
        clear r0_ry_4 f0_ry_4 r1_ry_4 f1_ry_4 r2_ry_4 f2_ry_4 r3_ry_4 f3_ry_4 r4_ry_4 f4_ry_4 r5_ry_4 f5_ry_4
        go_wp2_with fail
        refine (Y4.out _).mono ?_
        rintro e w6 ⟨rfl, hb6⟩
        have hz6 := hb6.size
        (try simp at hz6)
        have rs_6 := (hb6.block _ (by first | omega | (simp; done) | (simp; omega))).trans Rs_5.out
        have rx_6 := (hb6.block _ (by first | omega | (simp; done) | (simp; omega))).trans Rx_5.out
        have ry_6 := (hb6.block _ (by first | omega | (simp; done) | (simp; omega))).trans Ry_5.out
        have hw6 : Below w.heap.size w w6 := (by repeat (first | with_reducible exact Below.refl _ _ | with_reducible assumption | with_reducible refine Below.drew ?_ | with_reducible refine Below.alloc ?_ (by first | exact Nat.le_refl _ | omega | (simp; done) | (simp; omega)) _ | with_reducible refine Below.setCell ?_ (by first | exact Nat.le_refl _ | omega | (simp; done) | (simp; omega)) _ | (with_reducible refine ext_trans ?_ (by with_reducible assumption))))
        have lRs_6 : w1.heap.size < w6.heap.size := by omega
        have lRx_6 : w2.heap.size < w6.heap.size := by omega
        have lRy_6 : w3.heap.size < w6.heap.size := by omega
        have Rs_6 := Lib.hid rs_6
        have r0_rs_6 := cell_of_row _ _ 0 _ _ _ rs_6
        have r1_rs_6 := cell_of_row _ _ 1 _ _ _ rs_6
        have r2_rs_6 := cell_of_row _ _ 2 _ _ _ rs_6
        have r3_rs_6 := cell_of_row _ _ 3 _ _ _ rs_6
        have r4_rs_6 := cell_of_row _ _ 4 _ _ _ rs_6
        have r5_rs_6 := cell_of_row _ _ 5 _ _ _ rs_6
        have f0_rs_6 := frozen_of_row _ _ 0 _ _ rs_6
        have f1_rs_6 := frozen_of_row _ _ 1 _ _ rs_6
        have f2_rs_6 := frozen_of_row _ _ 2 _ _ rs_6
        have f3_rs_6 := frozen_of_row _ _ 3 _ _ rs_6
        have f4_rs_6 := frozen_of_row _ _ 4 _ _ rs_6
        have f5_rs_6 := frozen_of_row _ _ 5 _ _ rs_6
        simp at r0_rs_6 r1_rs_6 r2_rs_6 r3_rs_6 r4_rs_6 r5_rs_6
        clear rs_6
        have Rx_6 := Lib.hid rx_6
        have r0_rx_6 := cell_of_row _ _ 0 _ _ _ rx_6
        have r1_rx_6 := cell_of_row _ _ 1 _ _ _ rx_6
        have r2_rx_6 := cell_of_row _ _ 2 _ _ _ rx_6
        have r3_rx_6 := cell_of_row _ _ 3 _ _ _ rx_6
        have r4_rx_6 := cell_of_row _ _ 4 _ _ _ rx_6
        have r5_rx_6 := cell_of_row _ _ 5 _ _ _ rx_6
        have f0_rx_6 := frozen_of_row _ _ 0 _ _ rx_6
        have f1_rx_6 := frozen_of_row _ _ 1 _ _ rx_6
        have f2_rx_6 := frozen_of_row _ _ 2 _ _ rx_6
        have f3_rx_6 := frozen_of_row _ _ 3 _ _ rx_6
        have f4_rx_6 := frozen_of_row _ _ 4 _ _ rx_6
        have f5_rx_6 := frozen_of_row _ _ 5 _ _ rx_6
        simp at r0_rx_6 r1_rx_6 r2_rx_6 r3_rx_6 r4_rx_6 r5_rx_6
        clear rx_6
        have Ry_6 := Lib.hid ry_6
        have r0_ry_6 := cell_of_row _ _ 0 _ _ _ ry_6
        have r1_ry_6 := cell_of_row _ _ 1 _ _ _ ry_6
        have r2_ry_6 := cell_of_row _ _ 2 _ _ _ ry_6
        have r3_ry_6 := cell_of_row _ _ 3 _ _ _ ry_6
        have r4_ry_6 := cell_of_row _ _ 4 _ _ _ ry_6
        have r5_ry_6 := cell_of_row _ _ 5 _ _ _ ry_6
        have f0_ry_6 := frozen_of_row _ _ 0 _ _ ry_6
        have f1_ry_6 := frozen_of_row _ _ 1 _ _ ry_6
        have f2_ry_6 := frozen_of_row _ _ 2 _ _ ry_6
        have f3_ry_6 := frozen_of_row _ _ 3 _ _ ry_6
        have f4_ry_6 := frozen_of_row _ _ 4 _ _ ry_6
        have f5_ry_6 := frozen_of_row _ _ 5 _ _ ry_6
        simp at r0_ry_6 r1_ry_6 r2_ry_6 r3_ry_6 r4_ry_6 r5_ry_6
        clear ry_6
        clear r0_rs_5 f0_rs_5 r1_rs_5 f1_rs_5 r2_rs_5 f2_rs_5 r3_rs_5 f3_rs_5 r4_rs_5 f4_rs_5 r5_rs_5 f5_rs_5
        clear r0_rx_5 f0_rx_5 r1_rx_5 f1_rx_5 r2_rx_5 f2_rx_5 r3_rx_5 f3_rx_5 r4_rx_5 f4_rx_5 r5_rx_5 f5_rx_5
        clear r0_ry_5 f0_ry_5 r1_ry_5 f1_ry_5 r2_ry_5 f2_ry_5 r3_ry_5 f3_ry_5 r4_ry_5 f4_ry_5 r5_ry_5 f5_ry_5
        have hxd := HXD.out
        go_wp2_with fail
        go_cut [2] (fun z wx => z = .bool true ∧ Below w6.heap.size w6 wx)
        case rest =>
          obtain ⟨rfl, hbz⟩ := hcut
          go_wp2_with fail
          go_ret
          exact ⟨rfl, hw6.trans (hbz.mono hw6.size)⟩
        case first =>
          refine wp_region_noPanic ?_
          refine wp_region_held_drew (S := (fun w' => (∀ b' o, b' < w6.heap.size → w'.cell? ⟨b', o, none⟩ = w6.cell? ⟨b', o, none⟩) ∧ Below w6.heap.size w6 w')) (by kernel_rfl) (by first | exact rg_start _) (fun hHeld => ?_)
          refine wpAnyH_take (i := 0) (oi := _) (v := ?v0_31) rfl (by kernel_rfl) (by kernel_rfl) (by kernel_rfl) (fun _ _ _ h => h) (Or.inl ⟨by rfl, ?hy0_31⟩) (by with_reducible assumption) ?rest0_31
          case hy0_31 => ((intro w hSw; (try dsimp only at hSw); go_simp); (try with_reducible rfl))
          (try simp only [Act.put, List.getElem_toArray, List.getElem_cons_succ, List.getElem_cons_zero, List.setIfInBounds_toArray, List.set_cons_zero, List.set_cons_succ])
          refine wpAnyH_ready (rs := [1]) (by kernel_rfl) (by simp) ?_
          refine AllReadyH.cons (o := _) rfl (fun K hK => ?_) AllReadyH.nil
          go_simp
          go_at_call 19; ((with_reducible refine (Y5.out _).mono ?_); (rintro e wq4 ⟨rfl, hbq4⟩; have hSq4 := rg_keepK (by with_reducible assumption) hbq4))
          go_wp2_with fail
          refine hK.out _ _ ?_ (fun hHeld => ?_)
          · (try dsimp only); (first | with_reducible assumption | (with_reducible apply rg_keep; rotate_left; with_reducible assumption; with_reducible assumption) | with_reducible exact rg_start _ | with_reducible exact rg_alloc (KeptS.out (by with_reducible assumption)) _ | with_reducible exact rg_alloc (by with_reducible assumption) _ | with_reducible exact rg_start_alloc _ _ | ((repeat (with_reducible refine rg_set ?_ _ (by first | exact Nat.le_refl _ | omega | (simp; done) | (simp; omega)) _)); first | with_reducible exact KeptS.out (by with_reducible assumption) | with_reducible assumption | with_reducible exact rg_alloc (KeptS.out (by with_reducible assumption)) _))
          clear hK K
          (try simp only [Act.put, List.getElem_toArray, List.getElem_cons_succ, List.getElem_cons_zero, List.setIfInBounds_toArray, List.set_cons_zero, List.set_cons_succ])
          refine wpAnyH_take (i := 2) (oi := _) (v := ?v2_32) rfl (by kernel_rfl) (by kernel_rfl) (by kernel_rfl) (fun _ _ _ h => h) (Or.inl ⟨by rfl, ?hy2_32⟩) (by with_reducible assumption) ?rest2_32
          case hy2_32 => ((intro w hSw; (try dsimp only at hSw); go_simp); (try with_reducible rfl))
          (try simp only [Act.put, List.getElem_toArray, List.getElem_cons_succ, List.getElem_cons_zero, List.setIfInBounds_toArray, List.set_cons_zero, List.set_cons_succ])
          refine wpAnyH_take (i := 3) (oi := _) (v := ?v3_33) rfl (by kernel_rfl) (by kernel_rfl) (by kernel_rfl) (fun _ _ _ h => h) (Or.inl ⟨by rfl, ?hy3_33⟩) (by with_reducible assumption) ?rest3_33
          case hy3_33 => ((intro w hSw; (try dsimp only at hSw); go_simp); (try with_reducible rfl))
          (try simp only [Act.put, List.getElem_toArray, List.getElem_cons_succ, List.getElem_cons_zero, List.setIfInBounds_toArray, List.set_cons_zero, List.set_cons_succ])
          refine wpAnyH_take (i := 4) (oi := _) (v := ?v4_34) rfl (by kernel_rfl) (by kernel_rfl) (by kernel_rfl) (fun _ _ _ h => h) (Or.inl ⟨by rfl, ?hy4_34⟩) (by with_reducible assumption) ?rest4_34
          case hy4_34 => ((intro w hSw; (try dsimp only at hSw); go_simp); (try with_reducible rfl))
          (try simp only [Act.put, List.getElem_toArray, List.getElem_cons_succ, List.getElem_cons_zero, List.setIfInBounds_toArray, List.set_cons_zero, List.set_cons_succ])
          refine wpAnyH_take (i := 5) (oi := _) (v := ?v5_35) rfl (by kernel_rfl) (by kernel_rfl) (by kernel_rfl) (fun _ _ _ h => h) (Or.inl ⟨by rfl, ?hy5_35⟩) (by with_reducible assumption) ?rest5_35
          case hy5_35 => ((intro w hSw; (try dsimp only at hSw); go_simp); (try with_reducible rfl))
          (try simp only [Act.put, List.getElem_toArray, List.getElem_cons_succ, List.getElem_cons_zero, List.setIfInBounds_toArray, List.set_cons_zero, List.set_cons_succ])
          refine wpAnyH_take (i := 6) (oi := _) (v := ?v6_36) rfl (by kernel_rfl) (by kernel_rfl) (by kernel_rfl) (fun _ _ _ h => h) (Or.inl ⟨by rfl, ?hy6_36⟩) (by with_reducible assumption) ?rest6_36
          case hy6_36 => ((intro w hSw; (try dsimp only at hSw); go_simp); (try with_reducible rfl))
          (try simp only [Act.put, List.getElem_toArray, List.getElem_cons_succ, List.getElem_cons_zero, List.setIfInBounds_toArray, List.set_cons_zero, List.set_cons_succ])
          refine wpAnyH_take (i := 7) (oi := _) (v := ?v7_37) rfl (by kernel_rfl) (by kernel_rfl) (by kernel_rfl) (fun _ _ _ h => h) (Or.inl ⟨by rfl, ?hy7_37⟩) (by with_reducible assumption) ?rest7_37
          case hy7_37 => ((intro w hSw; (try dsimp only at hSw); go_simp); (try with_reducible rfl))
          (try simp only [Act.put, List.getElem_toArray, List.getElem_cons_succ, List.getElem_cons_zero, List.setIfInBounds_toArray, List.set_cons_zero, List.set_cons_succ])
          refine wpAnyH_take (i := 8) (oi := _) (v := ?v8_38) rfl (by kernel_rfl) (by kernel_rfl) (by kernel_rfl) (fun _ _ _ h => h) (Or.inl ⟨by rfl, ?hy8_38⟩) (by with_reducible assumption) ?rest8_38
          case hy8_38 => ((intro w hSw; (try dsimp only at hSw); go_simp); (try with_reducible rfl))
          (try simp only [Act.put, List.getElem_toArray, List.getElem_cons_succ, List.getElem_cons_zero, List.setIfInBounds_toArray, List.set_cons_zero, List.set_cons_succ])
          refine wpAnyH_take (i := 9) (oi := _) (v := ?v9_39) rfl (by kernel_rfl) (by kernel_rfl) (by kernel_rfl) (fun _ _ _ h => h) (Or.inl ⟨by rfl, ?hy9_39⟩) (by with_reducible assumption) ?rest9_39
          case hy9_39 => ((intro w hSw; (try dsimp only at hSw); go_simp); (try with_reducible rfl))
          (try simp only [Act.put, List.getElem_toArray, List.getElem_cons_succ, List.getElem_cons_zero, List.setIfInBounds_toArray, List.set_cons_zero, List.set_cons_succ])
          refine wpAnyH_take (i := 10) (oi := _) (v := ?v10_40) rfl (by kernel_rfl) (by kernel_rfl) (by kernel_rfl) (fun _ _ _ h => h) (Or.inl ⟨by rfl, ?hy10_40⟩) (by with_reducible assumption) ?rest10_40
          case hy10_40 => ((intro w hSw; (try dsimp only at hSw); go_simp); (try with_reducible rfl))
          (try simp only [Act.put, List.getElem_toArray, List.getElem_cons_succ, List.getElem_cons_zero, List.setIfInBounds_toArray, List.set_cons_zero, List.set_cons_succ])
          refine wpAnyH_take (i := 11) (oi := _) (v := ?v11_41) rfl (by kernel_rfl) (by kernel_rfl) (by kernel_rfl) (fun _ _ _ h => h) (Or.inl ⟨by rfl, ?hy11_41⟩) (by with_reducible assumption) ?rest11_41
          case hy11_41 => ((intro w hSw; (try dsimp only at hSw); go_simp); (try with_reducible rfl))
          (try simp only [Act.put, List.getElem_toArray, List.getElem_cons_succ, List.getElem_cons_zero, List.setIfInBounds_toArray, List.set_cons_zero, List.set_cons_succ])
          refine wpAnyH_take (i := 12) (oi := _) (v := ?v12_42) rfl (by kernel_rfl) (by kernel_rfl) (by kernel_rfl) (fun _ _ _ h => h) (Or.inl ⟨by rfl, ?hy12_42⟩) (by with_reducible assumption) ?rest12_42
          case hy12_42 => ((intro w hSw; (try dsimp only at hSw); go_simp); (try with_reducible rfl))
          (try simp only [Act.put, List.getElem_toArray, List.getElem_cons_succ, List.getElem_cons_zero, List.setIfInBounds_toArray, List.set_cons_zero, List.set_cons_succ])
          refine wpAnyH_take (i := 13) (oi := _) (v := ?v13_43) rfl (by kernel_rfl) (by kernel_rfl) (by kernel_rfl) (fun _ _ _ h => h) (Or.inl ⟨by rfl, ?hy13_43⟩) (by with_reducible assumption) ?rest13_43
          case hy13_43 => ((intro w hSw; (try dsimp only at hSw); go_simp); (try with_reducible rfl))
          (try simp only [Act.put, List.getElem_toArray, List.getElem_cons_succ, List.getElem_cons_zero, List.setIfInBounds_toArray, List.set_cons_zero, List.set_cons_succ])
          refine wpAnyH_take (i := 14) (oi := _) (v := ?v14_44) rfl (by kernel_rfl) (by kernel_rfl) (by kernel_rfl) (fun _ _ _ h => h) (Or.inl ⟨by rfl, ?hy14_44⟩) (by with_reducible assumption) ?rest14_44
          case hy14_44 => ((intro w hSw; (try dsimp only at hSw); go_simp); (try with_reducible rfl))
          (try simp only [Act.put, List.getElem_toArray, List.getElem_cons_succ, List.getElem_cons_zero, List.setIfInBounds_toArray, List.set_cons_zero, List.set_cons_succ])
          refine wpAnyH_take (i := 16) (oi := _) (v := ?v16_45) rfl (by kernel_rfl) (by kernel_rfl) (by kernel_rfl) (fun _ _ _ h => h) (Or.inl ⟨by rfl, ?hy16_45⟩) (by with_reducible assumption) ?rest16_45
          case hy16_45 => ((intro w hSw; (try dsimp only at hSw); go_simp); (try with_reducible rfl))
          (try simp only [Act.put, List.getElem_toArray, List.getElem_cons_succ, List.getElem_cons_zero, List.setIfInBounds_toArray, List.set_cons_zero, List.set_cons_succ])
          refine wpAnyH_ready (rs := [15]) (by kernel_rfl) (by simp) ?_
          refine AllReadyH.cons (o := _) rfl (fun K hK => ?_) AllReadyH.nil
          go_simp
          go_at_call 17; ((with_reducible refine (Y6.out _).mono ?_); (rintro e wq5 ⟨rfl, hbq5⟩; have hSq5 := rg_keepK (by with_reducible assumption) hbq5))
          go_wp2_with fail
          refine hK.out _ _ ?_ (fun hHeld => ?_)
          · (try dsimp only); (first | with_reducible assumption | (with_reducible apply rg_keep; rotate_left; with_reducible assumption; with_reducible assumption) | with_reducible exact rg_start _ | with_reducible exact rg_alloc (KeptS.out (by with_reducible assumption)) _ | with_reducible exact rg_alloc (by with_reducible assumption) _ | with_reducible exact rg_start_alloc _ _ | ((repeat (with_reducible refine rg_set ?_ _ (by first | exact Nat.le_refl _ | omega | (simp; done) | (simp; omega)) _)); first | with_reducible exact KeptS.out (by with_reducible assumption) | with_reducible assumption | with_reducible exact rg_alloc (KeptS.out (by with_reducible assumption)) _))
          clear hK K
          (try simp only [Act.put, List.getElem_toArray, List.getElem_cons_succ, List.getElem_cons_zero, List.setIfInBounds_toArray, List.set_cons_zero, List.set_cons_succ])
          refine wpAnyH_ready (rs := [17]) (by kernel_rfl) (by simp) ?_
          refine AllReadyH.cons (o := _) rfl (fun K hK => ?_) AllReadyH.nil
          go_simp
          go_at_call 17; ((with_reducible refine (Y7.out _).mono ?_); (rintro e wq6 ⟨rfl, hbq6⟩; have hSq6 := rg_keepK (by with_reducible assumption) hbq6))
          go_wp2_with fail
          refine hK.out _ _ ?_ (fun hHeld => ?_)
          · (try dsimp only); (first | with_reducible assumption | (with_reducible apply rg_keep; rotate_left; with_reducible assumption; with_reducible assumption) | with_reducible exact rg_start _ | with_reducible exact rg_alloc (KeptS.out (by with_reducible assumption)) _ | with_reducible exact rg_alloc (by with_reducible assumption) _ | with_reducible exact rg_start_alloc _ _ | ((repeat (with_reducible refine rg_set ?_ _ (by first | exact Nat.le_refl _ | omega | (simp; done) | (simp; omega)) _)); first | with_reducible exact KeptS.out (by with_reducible assumption) | with_reducible assumption | with_reducible exact rg_alloc (KeptS.out (by with_reducible assumption)) _))
          clear hK K
          (try simp only [Act.put, List.getElem_toArray, List.getElem_cons_succ, List.getElem_cons_zero, List.setIfInBounds_toArray, List.set_cons_zero, List.set_cons_succ])
          refine wpAnyH_take (i := 18) (oi := _) (v := ?v18_46) rfl (by kernel_rfl) (by kernel_rfl) (by kernel_rfl) (fun _ _ _ h => h) (Or.inl ⟨by rfl, ?hy18_46⟩) (by with_reducible assumption) ?rest18_46
          case hy18_46 => ((intro w hSw; (try dsimp only at hSw); go_simp); (try with_reducible rfl))
          (try simp only [Act.put, List.getElem_toArray, List.getElem_cons_succ, List.getElem_cons_zero, List.setIfInBounds_toArray, List.set_cons_zero, List.set_cons_succ])
          refine wpAnyH_take (i := 19) (oi := _) (v := ?v19_47) rfl (by kernel_rfl) (by kernel_rfl) (by kernel_rfl) (fun _ _ _ h => h) (Or.inl ⟨by rfl, ?hy19_47⟩) (by with_reducible assumption) ?rest19_47
          case hy19_47 => ((intro w hSw; (try dsimp only at hSw); go_simp); (try with_reducible rfl))
          (try simp only [Act.put, List.getElem_toArray, List.getElem_cons_succ, List.getElem_cons_zero, List.setIfInBounds_toArray, List.set_cons_zero, List.set_cons_succ])
          refine wpAnyH_take (i := 20) (oi := _) (v := ?v20_48) rfl (by kernel_rfl) (by kernel_rfl) (by kernel_rfl) (fun _ _ _ h => h) (Or.inl ⟨by rfl, ?hy20_48⟩) (by with_reducible assumption) ?rest20_48
          case hy20_48 => ((intro w hSw; (try dsimp only at hSw); go_simp); (try with_reducible rfl))
          (try simp only [Act.put, List.getElem_toArray, List.getElem_cons_succ, List.getElem_cons_zero, List.setIfInBounds_toArray, List.set_cons_zero, List.set_cons_succ])
          refine wpAnyH_take (i := 21) (oi := _) (v := ?v21_49) rfl (by kernel_rfl) (by kernel_rfl) (by kernel_rfl) (fun _ _ _ h => h) (Or.inl ⟨by rfl, ?hy21_49⟩) (by with_reducible assumption) ?rest21_49
          case hy21_49 => ((intro w hSw; (try dsimp only at hSw); go_simp); (try with_reducible rfl))
          (try simp only [Act.put, List.getElem_toArray, List.getElem_cons_succ, List.getElem_cons_zero, List.setIfInBounds_toArray, List.set_cons_zero, List.set_cons_succ])
          refine wpAnyH_take (i := 22) (oi := _) (v := ?v22_50) rfl (by kernel_rfl) (by kernel_rfl) (by kernel_rfl) (fun _ _ _ h => h) (Or.inl ⟨by rfl, ?hy22_50⟩) (by with_reducible assumption) ?rest22_50
          case hy22_50 => ((intro w hSw; (try dsimp only at hSw); go_simp); (try with_reducible rfl))
          (try simp only [Act.put, List.getElem_toArray, List.getElem_cons_succ, List.getElem_cons_zero, List.setIfInBounds_toArray, List.set_cons_zero, List.set_cons_succ])
          refine wpAnyH_take (i := 23) (oi := _) (v := ?v23_51) rfl (by kernel_rfl) (by kernel_rfl) (by kernel_rfl) (fun _ _ _ h => h) (Or.inl ⟨by rfl, ?hy23_51⟩) (by with_reducible assumption) ?rest23_51
          case hy23_51 => ((intro w hSw; (try dsimp only at hSw); go_simp); (try with_reducible rfl))
          (try simp only [Act.put, List.getElem_toArray, List.getElem_cons_succ, List.getElem_cons_zero, List.setIfInBounds_toArray, List.set_cons_zero, List.set_cons_succ])
          refine wpAnyH_take (i := 24) (oi := _) (v := ?v24_52) rfl (by kernel_rfl) (by kernel_rfl) (by kernel_rfl) (fun _ _ _ h => h) (Or.inl ⟨by rfl, ?hy24_52⟩) (by with_reducible assumption) ?rest24_52
          case hy24_52 => ((intro w hSw; (try dsimp only at hSw); go_simp); (try with_reducible rfl))
          (try simp only [Act.put, List.getElem_toArray, List.getElem_cons_succ, List.getElem_cons_zero, List.setIfInBounds_toArray, List.set_cons_zero, List.set_cons_succ])
          refine wpAnyH_take (i := 25) (oi := _) (v := ?v25_53) rfl (by kernel_rfl) (by kernel_rfl) (by kernel_rfl) (fun _ _ _ h => h) (Or.inl ⟨by rfl, ?hy25_53⟩) (by with_reducible assumption) ?rest25_53
          case hy25_53 => ((intro w hSw; (try dsimp only at hSw); go_simp); (try with_reducible rfl))
          (try simp only [Act.put, List.getElem_toArray, List.getElem_cons_succ, List.getElem_cons_zero, List.setIfInBounds_toArray, List.set_cons_zero, List.set_cons_succ])
          refine wpAnyH_take (i := 26) (oi := _) (v := ?v26_54) rfl (by kernel_rfl) (by kernel_rfl) (by kernel_rfl) (fun _ _ _ h => h) (Or.inl ⟨by rfl, ?hy26_54⟩) (by with_reducible assumption) ?rest26_54
          case hy26_54 => ((intro w hSw; (try dsimp only at hSw); go_simp); (try with_reducible rfl))
          (try simp only [Act.put, List.getElem_toArray, List.getElem_cons_succ, List.getElem_cons_zero, List.setIfInBounds_toArray, List.set_cons_zero, List.set_cons_succ])
          refine wpAnyH_take (i := 27) (oi := _) (v := ?v27_55) rfl (by kernel_rfl) (by kernel_rfl) (by kernel_rfl) (fun _ _ _ h => h) (Or.inl ⟨by rfl, ?hy27_55⟩) (by with_reducible assumption) ?rest27_55
          case hy27_55 => ((intro w hSw; (try dsimp only at hSw); go_simp); (try with_reducible rfl))
          (try simp only [Act.put, List.getElem_toArray, List.getElem_cons_succ, List.getElem_cons_zero, List.setIfInBounds_toArray, List.set_cons_zero, List.set_cons_succ])
          refine wpAnyH_take (i := 28) (oi := _) (v := ?v28_56) rfl (by kernel_rfl) (by kernel_rfl) (by kernel_rfl) (fun _ _ _ h => h) (Or.inl ⟨by rfl, ?hy28_56⟩) (by with_reducible assumption) ?rest28_56
          case hy28_56 => ((intro w hSw; (try dsimp only at hSw); go_simp); (try with_reducible rfl))
          (try simp only [Act.put, List.getElem_toArray, List.getElem_cons_succ, List.getElem_cons_zero, List.setIfInBounds_toArray, List.set_cons_zero, List.set_cons_succ])
          refine wpAnyH_take (i := 29) (oi := _) (v := ?v29_57) rfl (by kernel_rfl) (by kernel_rfl) (by kernel_rfl) (fun _ _ _ h => h) (Or.inl ⟨by rfl, ?hy29_57⟩) (by with_reducible assumption) ?rest29_57
          case hy29_57 => ((intro w hSw; (try dsimp only at hSw); go_simp); (try with_reducible rfl))
          (try simp only [Act.put, List.getElem_toArray, List.getElem_cons_succ, List.getElem_cons_zero, List.setIfInBounds_toArray, List.set_cons_zero, List.set_cons_succ])
          refine wpAnyH_take (i := 30) (oi := _) (v := ?v30_58) rfl (by kernel_rfl) (by kernel_rfl) (by kernel_rfl) (fun _ _ _ h => h) (Or.inl ⟨by rfl, ?hy30_58⟩) (by with_reducible assumption) ?rest30_58
          case hy30_58 => ((intro w hSw; (try dsimp only at hSw); go_simp); (try with_reducible rfl))
          (try simp only [Act.put, List.getElem_toArray, List.getElem_cons_succ, List.getElem_cons_zero, List.setIfInBounds_toArray, List.set_cons_zero, List.set_cons_succ])
          refine wpAnyH_take (i := 31) (oi := _) (v := ?v31_59) rfl (by kernel_rfl) (by kernel_rfl) (by kernel_rfl) (fun _ _ _ h => h) (Or.inl ⟨by rfl, ?hy31_59⟩) (by with_reducible assumption) ?rest31_59
          case hy31_59 => ((intro w hSw; (try dsimp only at hSw); go_simp); (try with_reducible rfl))
          (try simp only [Act.put, List.getElem_toArray, List.getElem_cons_succ, List.getElem_cons_zero, List.setIfInBounds_toArray, List.set_cons_zero, List.set_cons_succ])
          refine wpAnyH_take (i := 32) (oi := _) (v := ?v32_60) rfl (by kernel_rfl) (by kernel_rfl) (by kernel_rfl) (fun _ _ _ h => h) (Or.inl ⟨by rfl, ?hy32_60⟩) (by with_reducible assumption) ?rest32_60
          case hy32_60 => ((intro w hSw; (try dsimp only at hSw); go_simp); (try with_reducible rfl))
          (try simp only [Act.put, List.getElem_toArray, List.getElem_cons_succ, List.getElem_cons_zero, List.setIfInBounds_toArray, List.set_cons_zero, List.set_cons_succ])
          refine wpAnyH_done (by kernel_rfl) (NoPanic.normal ?_) _
          go_wp2_with fail
          go_meet
          exact ⟨by first | rfl | simp, (by assumption : _ ∧ Below w6.heap.size w6 _).2⟩

set_option maxRecDepth 100000 in
theorem FnSender_lifted (os : Os) (started : os.Started) (H : Type) (enc : TypeId × Value → H) :
    ReturnsInHanded {} Try.checked os 10 .any (Rows.fnSenderSpec.pre6 enc Try.prog Try.f10 Rows.fnSenderRow.domain false) (Rows.fnSenderSpec.post enc Try.prog Try.f10 false true false false) := by
  refine law_lifted (C := Try.checked) own_ started (by kernel_rfl) Try.func10 laid_ rfl ?_ ?_ rfl Try.underlying4
    (ChangeSpec.witness6 (enc := enc) (C := Try.checked) false ⟨#[], #[.slice none 0 0], []⟩ 8 (by kernel_rfl) (by kernel_rfl) (by kernel_rfl) (by kernel_rfl)) ?_
  · intro ds h
    match ds, h with
    | [_], _ => rfl
  · intro t ht
    rw [Try.params10] at ht
    simp at ht
    subst ht
    exact ⟨by kernel_rfl, of_decide_eq_true (by kernel_rfl)⟩
  · intro W base args ds p hval hA hlt
    have hval : ∀ (j : Nat) t v, Try.f10.params[j]? = some t → args[j]? = some v → Value.okWide Try.prog W .any base t v := hval
    have hA : DataW.TrodAll enc Try.prog W 0 (fun _ => true) true Try.f10.params.toList args.toList ds p := hA
    rw [Try.params10] at hA hval
    obtain ⟨v0, d0, rfl, rfl, h0⟩ := trodAll_one hA
    obtain ⟨Aa, na, ca, rfl, wna, wba, wca⟩ := open_bytes (hval 0 49 v0 rfl rfl) h0
    exact FnSender_walk wna W wba

theorem FnSender_holds : Rows.FnSenderSaid :=
  OpenClaim.holds_of_wide 10 Try.f10 rfl rfl rfl rfl rfl rfl rfl ⟨rfl, rfl, rfl, rfl, rfl⟩ rfl rfl rfl rfl rfl (by kernel_rfl) Try.func10 (by kernel_rfl)
    (of_decide_eq_true (by kernel_rfl)) (by have hw := wrap_ (P := Try.prog) (fn := Try.f10) (by kernel_rfl); exact hw)
    (fun os started H enc _ => FnSender_lifted os started H enc)
end Go.Proofs.Ytkkpeienbhbgeaa
