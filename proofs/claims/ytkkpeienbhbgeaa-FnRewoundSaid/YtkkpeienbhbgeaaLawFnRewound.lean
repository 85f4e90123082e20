/-
  The law FnRewound returns true for every input. No condition.
-/
import Derived.Test.YtkkpeienbhbgeaaSdx
import Derived.Test.YtkkpeienbhbgeaaSpl
import Derived.Test.YtkkpeienbhbgeaaSndRw
import Derived.Test.YtkkpeienbhbgeaaSndQ
import Derived.Test.YtkkpeienbhbgeaaSndA
import Derived.Test.YtkkpeienbhbgeaaSndN
import Derived.Test.YtkkpeienbhbgeaaSndM
import Derived.Test.YtkkpeienbhbgeaaSndC
import Derived.Test.YtkkpeienbhbgeaaBytes
import Derived.Test.YtkkpeienbhbgeaaReg
import Derived.Deep.DeepCutAuto
import Derived.Deep.RegionHeld3
import Derived.IntWalk
namespace Go.Proofs.Ytkkpeienbhbgeaa
set_option maxRecDepth 100000
open Go.ChangeShapes Go.WideShapes Go.ChangeAt Go.RowKit Go.Deep

set_option maxHeartbeats 32000000 in
set_option linter.unusedSimpArgs false in
set_option linter.unusedVariables false in
theorem FnRewound_walk {A : Option Addr} {n c : Nat} (hn : n ≤ maxLen) (w : World) (hb : Byts w w.heap.size A n) :
    Calls Try.prog 12 #[.slice A n c] w fun e w' => e = .returned (.bool true) ∧ Below w.heap.size w w' := by
  have hlen := hn
  unfold maxLen at hlen
  by_cases hbig : (1048576 : Int) < n
  · go_enter Try.func12, Try.ntmps12
    go_wp2_with fail
    refine (big_any hn _).mono ?_
    rintro e w' ⟨rfl, rfl⟩
    go_wp2_with fail
    go_ret
    exact ⟨rfl, Below.refl _ _⟩
  go_enter Try.func12, Try.ntmps12
  go_wp2_with fail
  refine (big_any hn _).mono ?_
  rintro e w' ⟨rfl, rfl⟩
  go_wp2_with fail
  refine (DrawRewound_any hn hb).mono ?_
  rintro e w1 ⟨u, d, s, f, fs, dn, rfl, hG, hb1⟩
  clear hb
  obtain ⟨⟨hu1, hu2⟩, hd49, hs1, hs2⟩ := hG
  have hdm : d.size ≤ maxLen := by unfold maxLen; omega
  have HDM := Lib.hid hdm
  clear hdm
  have hz1 := hb1.size
  have hw1 : Below w.heap.size w w1 := (by repeat (first | with_reducible exact Below.refl _ _ | with_reducible assumption | with_reducible refine Below.drew ?_ | with_reducible refine Below.alloc ?_ (by first | exact Nat.le_refl _ | omega | (simp; done) | (simp; omega)) _ | with_reducible refine Below.setCell ?_ (by first | exact Nat.le_refl _ | omega | (simp; done) | (simp; omega)) _ | (with_reducible refine ext_trans ?_ (by with_reducible assumption))))
  cases hk : sndB u d s f fs dn
  case false =>
    have Y1 := Lib.hid (fun W => sRewound_no u d s f fs dn HDM.out hk W)
    have Y2 := Lib.hid (fun W => Rewound_no u d s f fs dn HDM.out hk W)
    have y3 := fun W => sSenderOk_any u d s f fs dn HDM.out W
    rw [hk] at y3
    have Y3 := Lib.hid y3
    clear y3 hk
    go_wp2_with fail
    refine (Y2.out _).mono ?_
    rintro e w2 ⟨rfl, hb2⟩
    have hz2 := hb2.size
    (try simp at hz2)
    have rs_2 : w2.heap[w1.heap.size]? = some (.cells #[.int .i64 u, .string d, .int .i64 s, .bool f, .bool fs, .bool dn] 26 (0, 0)) := (hb2.block _ (by first | (simp; done) | (simp; omega))).trans (by repeat (first | exact heap_new _ _ _ (by first | rfl | (simp; done) | (simp; omega)) | refine (Below.heap_alloc _ _ _ (by first | omega | (simp; done) | (simp; omega))).trans ?_))
    have hw2 : Below w.heap.size w w2 := (by repeat (first | with_reducible exact Below.refl _ _ | with_reducible assumption | with_reducible refine Below.drew ?_ | with_reducible refine Below.alloc ?_ (by first | exact Nat.le_refl _ | omega | (simp; done) | (simp; omega)) _ | with_reducible refine Below.setCell ?_ (by first | exact Nat.le_refl _ | omega | (simp; done) | (simp; omega)) _ | (with_reducible refine ext_trans ?_ (by with_reducible assumption))))
    have lRs_2 : w1.heap.size < w2.heap.size := by omega
    have Rs_2 := Lib.hid rs_2
    have r0_rs_2 := cell_of_row _ _ 0 _ _ _ rs_2
    have r1_rs_2 := cell_of_row _ _ 1 _ _ _ rs_2
    have r2_rs_2 := cell_of_row _ _ 2 _ _ _ rs_2
    have r3_rs_2 := cell_of_row _ _ 3 _ _ _ rs_2
    have r4_rs_2 := cell_of_row _ _ 4 _ _ _ rs_2
    have r5_rs_2 := cell_of_row _ _ 5 _ _ _ rs_2
    have f0_rs_2 := frozen_of_row _ _ 0 _ _ rs_2
    have f1_rs_2 := frozen_of_row _ _ 1 _ _ rs_2
    have f2_rs_2 := frozen_of_row _ _ 2 _ _ rs_2
    have f3_rs_2 := frozen_of_row _ _ 3 _ _ rs_2
    have f4_rs_2 := frozen_of_row _ _ 4 _ _ rs_2
    have f5_rs_2 := frozen_of_row _ _ 5 _ _ rs_2
    simp at r0_rs_2 r1_rs_2 r2_rs_2 r3_rs_2 r4_rs_2 r5_rs_2
    clear rs_2
    go_wp2_with fail
    have hb3 : Below w2.heap.size w2 (w2.alloc (.cells #[.int .i64 u, .string d, .int .i64 s, .bool f, .bool fs, .bool dn] 26)) := (by repeat (first | with_reducible exact Below.refl _ _ | with_reducible assumption | with_reducible refine Below.drew ?_ | with_reducible refine Below.alloc ?_ (by first | exact Nat.le_refl _ | omega | (simp; done) | (simp; omega)) _ | with_reducible refine Below.setCell ?_ (by first | exact Nat.le_refl _ | omega | (simp; done) | (simp; omega)) _ | (with_reducible refine ext_trans ?_ (by with_reducible assumption))))
    have rx_3 : (w2.alloc (.cells #[.int .i64 u, .string d, .int .i64 s, .bool f, .bool fs, .bool dn] 26)).heap[w2.heap.size]? = some (.cells #[.int .i64 u, .string d, .int .i64 s, .bool f, .bool fs, .bool dn] 26 (0, 0)) := (by repeat (first | exact heap_new _ _ _ (by first | rfl | (simp; done) | (simp; omega)) | refine (Below.heap_alloc _ _ _ (by first | omega | (simp; done) | (simp; omega))).trans ?_))
    have lNx_3 : w2.heap.size < (w2.alloc (.cells #[.int .i64 u, .string d, .int .i64 s, .bool f, .bool fs, .bool dn] 26)).heap.size := by simp
    generalize (w2.alloc (.cells #[.int .i64 u, .string d, .int .i64 s, .bool f, .bool fs, .bool dn] 26)) = w3 at *
    have hz3 := hb3.size
    (try simp at hz3)
    have rs_3 := (hb3.block _ (by first | omega | (simp; done) | (simp; omega))).trans Rs_2.out
    have hw3 : Below w.heap.size w w3 := (by repeat (first | with_reducible exact Below.refl _ _ | with_reducible assumption | with_reducible refine Below.drew ?_ | with_reducible refine Below.alloc ?_ (by first | exact Nat.le_refl _ | omega | (simp; done) | (simp; omega)) _ | with_reducible refine Below.setCell ?_ (by first | exact Nat.le_refl _ | omega | (simp; done) | (simp; omega)) _ | (with_reducible refine ext_trans ?_ (by with_reducible assumption))))
    have lRs_3 : w1.heap.size < w3.heap.size := by omega
    have lRx_3 : w2.heap.size < w3.heap.size := by omega
    have Rs_3 := Lib.hid rs_3
    have r0_rs_3 := cell_of_row _ _ 0 _ _ _ rs_3
    have r1_rs_3 := cell_of_row _ _ 1 _ _ _ rs_3
    have r2_rs_3 := cell_of_row _ _ 2 _ _ _ rs_3
    have r3_rs_3 := cell_of_row _ _ 3 _ _ _ rs_3
    have r4_rs_3 := cell_of_row _ _ 4 _ _ _ rs_3
    have r5_rs_3 := cell_of_row _ _ 5 _ _ _ rs_3
    have f0_rs_3 := frozen_of_row _ _ 0 _ _ rs_3
    have f1_rs_3 := frozen_of_row _ _ 1 _ _ rs_3
    have f2_rs_3 := frozen_of_row _ _ 2 _ _ rs_3
    have f3_rs_3 := frozen_of_row _ _ 3 _ _ rs_3
    have f4_rs_3 := frozen_of_row _ _ 4 _ _ rs_3
    have f5_rs_3 := frozen_of_row _ _ 5 _ _ rs_3
    simp at r0_rs_3 r1_rs_3 r2_rs_3 r3_rs_3 r4_rs_3 r5_rs_3
    clear rs_3
    have Rx_3 := Lib.hid rx_3
    have r0_rx_3 := cell_of_row _ _ 0 _ _ _ rx_3
    have r1_rx_3 := cell_of_row _ _ 1 _ _ _ rx_3
    have r2_rx_3 := cell_of_row _ _ 2 _ _ _ rx_3
    have r3_rx_3 := cell_of_row _ _ 3 _ _ _ rx_3
    have r4_rx_3 := cell_of_row _ _ 4 _ _ _ rx_3
    have r5_rx_3 := cell_of_row _ _ 5 _ _ _ rx_3
    have f0_rx_3 := frozen_of_row _ _ 0 _ _ rx_3
    have f1_rx_3 := frozen_of_row _ _ 1 _ _ rx_3
    have f2_rx_3 := frozen_of_row _ _ 2 _ _ rx_3
    have f3_rx_3 := frozen_of_row _ _ 3 _ _ rx_3
    have f4_rx_3 := frozen_of_row _ _ 4 _ _ rx_3
    have f5_rx_3 := frozen_of_row _ _ 5 _ _ rx_3
    simp at r0_rx_3 r1_rx_3 r2_rx_3 r3_rx_3 r4_rx_3 r5_rx_3
    clear rx_3
    clear r0_rs_2 f0_rs_2 r1_rs_2 f1_rs_2 r2_rs_2 f2_rs_2 r3_rs_2 f3_rs_2 r4_rs_2 f4_rs_2 r5_rs_2 f5_rs_2
    go_wp2_with fail
    go_cut [16] (fun z wx => z = .bool false ∧ Below w3.heap.size w3 wx)
    case first =>
      first | go_region_held3 (fun w' => (∀ b' o, b' < (w3).heap.size → w'.cell? ⟨b', o, none⟩ = (w3).cell? ⟨b', o, none⟩) ∧ Below (w3).heap.size (w3) w') (first | with_reducible assumption | (with_reducible apply rg_keep; rotate_left; with_reducible assumption; with_reducible assumption) | with_reducible exact rg_start _ | with_reducible exact rg_alloc (KeptS.out (by with_reducible assumption)) _ | with_reducible exact rg_alloc (by with_reducible assumption) _ | with_reducible exact rg_start_alloc _ _ | ((repeat (with_reducible refine rg_set ?_ _ (by first | exact Nat.le_refl _ | omega | (simp; done) | (simp; omega)) _)); first | with_reducible exact KeptS.out (by with_reducible assumption) | with_reducible assumption | with_reducible exact rg_alloc (KeptS.out (by with_reducible assumption)) _)) (first | (go_at_call 20; ((with_reducible refine (Y1.out _).mono ?_); (rintro e wC ⟨rfl, hbC⟩; have hSC := rg_keepK (by first | with_reducible assumption | exact KeptS.out (by with_reducible assumption)) hbC)))) | fail
      all_goals (go_wp2_with fail; go_meet; exact ⟨rfl, (by assumption : _ ∧ Below w3.heap.size w3 wC).2⟩)
    case rest =>
    obtain ⟨rfl, hb4⟩ := hcut
    rename World => w4
    have hz4 := hb4.size
    (try simp at hz4)
    have rs_4 := (hb4.block _ (by first | omega | (simp; done) | (simp; omega))).trans Rs_3.out
    have rx_4 := (hb4.block _ (by first | omega | (simp; done) | (simp; omega))).trans Rx_3.out
    have hw4 : Below w.heap.size w w4 := (by repeat (first | with_reducible exact Below.refl _ _ | with_reducible assumption | with_reducible refine Below.drew ?_ | with_reducible refine Below.alloc ?_ (by first | exact Nat.le_refl _ | omega | (simp; done) | (simp; omega)) _ | with_reducible refine Below.setCell ?_ (by first | exact Nat.le_refl _ | omega | (simp; done) | (simp; omega)) _ | (with_reducible refine ext_trans ?_ (by with_reducible assumption))))
    have lRs_4 : w1.heap.size < w4.heap.size := by omega
    have lRx_4 : w2.heap.size < w4.heap.size := by omega
    have Rs_4 := Lib.hid rs_4
    have r0_rs_4 := cell_of_row _ _ 0 _ _ _ rs_4
    have r1_rs_4 := cell_of_row _ _ 1 _ _ _ rs_4
    have r2_rs_4 := cell_of_row _ _ 2 _ _ _ rs_4
    have r3_rs_4 := cell_of_row _ _ 3 _ _ _ rs_4
    have r4_rs_4 := cell_of_row _ _ 4 _ _ _ rs_4
    have r5_rs_4 := cell_of_row _ _ 5 _ _ _ rs_4
    have f0_rs_4 := frozen_of_row _ _ 0 _ _ rs_4
    have f1_rs_4 := frozen_of_row _ _ 1 _ _ rs_4
    have f2_rs_4 := frozen_of_row _ _ 2 _ _ rs_4
    have f3_rs_4 := frozen_of_row _ _ 3 _ _ rs_4
    have f4_rs_4 := frozen_of_row _ _ 4 _ _ rs_4
    have f5_rs_4 := frozen_of_row _ _ 5 _ _ rs_4
    simp at r0_rs_4 r1_rs_4 r2_rs_4 r3_rs_4 r4_rs_4 r5_rs_4
    clear rs_4
    have Rx_4 := Lib.hid rx_4
    have r0_rx_4 := cell_of_row _ _ 0 _ _ _ rx_4
    have r1_rx_4 := cell_of_row _ _ 1 _ _ _ rx_4
    have r2_rx_4 := cell_of_row _ _ 2 _ _ _ rx_4
    have r3_rx_4 := cell_of_row _ _ 3 _ _ _ rx_4
    have r4_rx_4 := cell_of_row _ _ 4 _ _ _ rx_4
    have r5_rx_4 := cell_of_row _ _ 5 _ _ _ rx_4
    have f0_rx_4 := frozen_of_row _ _ 0 _ _ rx_4
    have f1_rx_4 := frozen_of_row _ _ 1 _ _ rx_4
    have f2_rx_4 := frozen_of_row _ _ 2 _ _ rx_4
    have f3_rx_4 := frozen_of_row _ _ 3 _ _ rx_4
    have f4_rx_4 := frozen_of_row _ _ 4 _ _ rx_4
    have f5_rx_4 := frozen_of_row _ _ 5 _ _ rx_4
    simp at r0_rx_4 r1_rx_4 r2_rx_4 r3_rx_4 r4_rx_4 r5_rx_4
    clear rx_4
    clear r0_rs_3 f0_rs_3 r1_rs_3 f1_rs_3 r2_rs_3 f2_rs_3 r3_rs_3 f3_rs_3 r4_rs_3 f4_rs_3 r5_rs_3 f5_rs_3
    clear r0_rx_3 f0_rx_3 r1_rx_3 f1_rx_3 r2_rx_3 f2_rx_3 r3_rx_3 f3_rx_3 r4_rx_3 f4_rx_3 r5_rx_3 f5_rx_3
    go_wp2_with fail
    refine (Y3.out _).mono ?_
    rintro e w5 ⟨rfl, hb5⟩
    have hz5 := hb5.size
    (try simp at hz5)
    have rs_5 := (hb5.block _ (by first | omega | (simp; done) | (simp; omega))).trans Rs_4.out
    have rx_5 := (hb5.block _ (by first | omega | (simp; done) | (simp; omega))).trans Rx_4.out
    have hw5 : Below w.heap.size w w5 := (by repeat (first | with_reducible exact Below.refl _ _ | with_reducible assumption | with_reducible refine Below.drew ?_ | with_reducible refine Below.alloc ?_ (by first | exact Nat.le_refl _ | omega | (simp; done) | (simp; omega)) _ | with_reducible refine Below.setCell ?_ (by first | exact Nat.le_refl _ | omega | (simp; done) | (simp; omega)) _ | (with_reducible refine ext_trans ?_ (by with_reducible assumption))))
    have lRs_5 : w1.heap.size < w5.heap.size := by omega
    have lRx_5 : w2.heap.size < w5.heap.size := by omega
    have Rs_5 := Lib.hid rs_5
    have r0_rs_5 := cell_of_row _ _ 0 _ _ _ rs_5
    have r1_rs_5 := cell_of_row _ _ 1 _ _ _ rs_5
    have r2_rs_5 := cell_of_row _ _ 2 _ _ _ rs_5
    have r3_rs_5 := cell_of_row _ _ 3 _ _ _ rs_5
    have r4_rs_5 := cell_of_row _ _ 4 _ _ _ rs_5
    have r5_rs_5 := cell_of_row _ _ 5 _ _ _ rs_5
    have f0_rs_5 := frozen_of_row _ _ 0 _ _ rs_5
    have f1_rs_5 := frozen_of_row _ _ 1 _ _ rs_5
    have f2_rs_5 := frozen_of_row _ _ 2 _ _ rs_5
    have f3_rs_5 := frozen_of_row _ _ 3 _ _ rs_5
    have f4_rs_5 := frozen_of_row _ _ 4 _ _ rs_5
    have f5_rs_5 := frozen_of_row _ _ 5 _ _ rs_5
    simp at r0_rs_5 r1_rs_5 r2_rs_5 r3_rs_5 r4_rs_5 r5_rs_5
    clear rs_5
    have Rx_5 := Lib.hid rx_5
    have r0_rx_5 := cell_of_row _ _ 0 _ _ _ rx_5
    have r1_rx_5 := cell_of_row _ _ 1 _ _ _ rx_5
    have r2_rx_5 := cell_of_row _ _ 2 _ _ _ rx_5
    have r3_rx_5 := cell_of_row _ _ 3 _ _ _ rx_5
    have r4_rx_5 := cell_of_row _ _ 4 _ _ _ rx_5
    have r5_rx_5 := cell_of_row _ _ 5 _ _ _ rx_5
    have f0_rx_5 := frozen_of_row _ _ 0 _ _ rx_5
    have f1_rx_5 := frozen_of_row _ _ 1 _ _ rx_5
    have f2_rx_5 := frozen_of_row _ _ 2 _ _ rx_5
    have f3_rx_5 := frozen_of_row _ _ 3 _ _ rx_5
    have f4_rx_5 := frozen_of_row _ _ 4 _ _ rx_5
    have f5_rx_5 := frozen_of_row _ _ 5 _ _ rx_5
    simp at r0_rx_5 r1_rx_5 r2_rx_5 r3_rx_5 r4_rx_5 r5_rx_5
    clear rx_5
    clear r0_rs_4 f0_rs_4 r1_rs_4 f1_rs_4 r2_rs_4 f2_rs_4 r3_rs_4 f3_rs_4 r4_rs_4 f4_rs_4 r5_rs_4 f5_rs_4
    clear r0_rx_4 f0_rx_4 r1_rx_4 f1_rx_4 r2_rx_4 f2_rx_4 r3_rx_4 f3_rx_4 r4_rx_4 f4_rx_4 r5_rx_4 f5_rx_4
    go_wp2_with fail
    go_ret
    exact ⟨by first | rfl | simp, hw5⟩
  case true =>
    obtain ⟨⟨hv1, hv2⟩, hd48, -⟩ := sndB_iff.1 hk
    obtain ⟨b1, b2, b3, b4, b5⟩ := rewound_facts hk
    have Y1 := Lib.hid (fun W => sRewound_yes u d s f fs dn HDM.out hk W)
    have Y2 := Lib.hid (fun W => Rewound_yes u d s f fs dn HDM.out hk W)
    have y3 := fun W => sSenderOk_any u d s f fs dn HDM.out W
    rw [hk] at y3
    have Y3 := Lib.hid y3
    have y4 := fun W => NextChunk_core u d 0 f false dn 1000 1000 b1 (by omega) hd48 (by omega) (by omega) (by omega) (by omega) (fly 0 false) rfl (d.extract 0 d.size) rfl (by simp) _ rfl d.size b2 W
    rw [b3, b4, show fly 0 false = 0 from rfl, seqAdd_zero hv1 hv2] at y4
    have y5 := fun W => SenderOk_any u d 0 f false dn HDM.out W
    rw [b1] at y5
    have Y5 := Lib.hid y5
    have y6 := fun W => NextOf_any u d 0 f false dn W
    rw [show fly 0 false = 0 from rfl, seqAdd_zero hv1 hv2] at y6
    have Y6 := Lib.hid y6
    clear y3 y5 y6 b1 b2 b3 b4 hk
    by_cases hd0 : d.size = 0
    case pos =>
      have hdn : d = ⟨#[]⟩ := by
        apply ByteArray.ext
        exact Array.eq_empty_of_size_eq_zero hd0
      have hz0 : (0 : Nat) = 0 := rfl
      clear hdn
      cases f
      case false =>
        cases dn
        case false =>
          have hr : chRes u d d.size (false && !false) = .tuple #[.agg #[.int .i64 0, .string ⟨#[]⟩, .bool false], .bool false] := by unfold chRes; rw [if_pos ⟨hd0, rfl⟩]
          rw [hr] at y4
          have Y4 := Lib.hid y4
          clear y4 hr
          have hde : d.toList.isEmpty = true := by rw [isEmpty_size, hd0]; rfl
          have hde2 : d.toList = [] := by simpa using hde
          clear hd0
          go_wp2_with fail
          refine (Y2.out _).mono ?_
          rintro e w2 ⟨rfl, hb2⟩
          have hz2 := hb2.size
          (try simp at hz2)
          have rs_2 : w2.heap[w1.heap.size]? = some (.cells #[.int .i64 u, .string d, .int .i64 s, .bool false, .bool fs, .bool false] 26 (0, 0)) := (hb2.block _ (by first | (simp; done) | (simp; omega))).trans (by repeat (first | exact heap_new _ _ _ (by first | rfl | (simp; done) | (simp; omega)) | refine (Below.heap_alloc _ _ _ (by first | omega | (simp; done) | (simp; omega))).trans ?_))
          have hw2 : Below w.heap.size w w2 := (by repeat (first | with_reducible exact Below.refl _ _ | with_reducible assumption | with_reducible refine Below.drew ?_ | with_reducible refine Below.alloc ?_ (by first | exact Nat.le_refl _ | omega | (simp; done) | (simp; omega)) _ | with_reducible refine Below.setCell ?_ (by first | exact Nat.le_refl _ | omega | (simp; done) | (simp; omega)) _ | (with_reducible refine ext_trans ?_ (by with_reducible assumption))))
          have lRs_2 : w1.heap.size < w2.heap.size := by omega
          have Rs_2 := Lib.hid rs_2
          have r0_rs_2 := cell_of_row _ _ 0 _ _ _ rs_2
          have r1_rs_2 := cell_of_row _ _ 1 _ _ _ rs_2
          have r2_rs_2 := cell_of_row _ _ 2 _ _ _ rs_2
          have r3_rs_2 := cell_of_row _ _ 3 _ _ _ rs_2
          have r4_rs_2 := cell_of_row _ _ 4 _ _ _ rs_2
          have r5_rs_2 := cell_of_row _ _ 5 _ _ _ rs_2
          have f0_rs_2 := frozen_of_row _ _ 0 _ _ rs_2
          have f1_rs_2 := frozen_of_row _ _ 1 _ _ rs_2
          have f2_rs_2 := frozen_of_row _ _ 2 _ _ rs_2
          have f3_rs_2 := frozen_of_row _ _ 3 _ _ rs_2
          have f4_rs_2 := frozen_of_row _ _ 4 _ _ rs_2
          have f5_rs_2 := frozen_of_row _ _ 5 _ _ rs_2
          simp at r0_rs_2 r1_rs_2 r2_rs_2 r3_rs_2 r4_rs_2 r5_rs_2
          clear rs_2
          go_wp2_with fail
          have hb3 : Below w2.heap.size w2 (w2.alloc (.cells #[.int .i64 u, .string d, .int .i64 0, .bool false, .bool false, .bool false] 26)) := (by repeat (first | with_reducible exact Below.refl _ _ | with_reducible assumption | with_reducible refine Below.drew ?_ | with_reducible refine Below.alloc ?_ (by first | exact Nat.le_refl _ | omega | (simp; done) | (simp; omega)) _ | with_reducible refine Below.setCell ?_ (by first | exact Nat.le_refl _ | omega | (simp; done) | (simp; omega)) _ | (with_reducible refine ext_trans ?_ (by with_reducible assumption))))
          have rx_3 : (w2.alloc (.cells #[.int .i64 u, .string d, .int .i64 0, .bool false, .bool false, .bool false] 26)).heap[w2.heap.size]? = some (.cells #[.int .i64 u, .string d, .int .i64 0, .bool false, .bool false, .bool false] 26 (0, 0)) := (by repeat (first | exact heap_new _ _ _ (by first | rfl | (simp; done) | (simp; omega)) | refine (Below.heap_alloc _ _ _ (by first | omega | (simp; done) | (simp; omega))).trans ?_))
          have lNx_3 : w2.heap.size < (w2.alloc (.cells #[.int .i64 u, .string d, .int .i64 0, .bool false, .bool false, .bool false] 26)).heap.size := by simp
          generalize (w2.alloc (.cells #[.int .i64 u, .string d, .int .i64 0, .bool false, .bool false, .bool false] 26)) = w3 at *
          have hz3 := hb3.size
          (try simp at hz3)
          have rs_3 := (hb3.block _ (by first | omega | (simp; done) | (simp; omega))).trans Rs_2.out
          have hw3 : Below w.heap.size w w3 := (by repeat (first | with_reducible exact Below.refl _ _ | with_reducible assumption | with_reducible refine Below.drew ?_ | with_reducible refine Below.alloc ?_ (by first | exact Nat.le_refl _ | omega | (simp; done) | (simp; omega)) _ | with_reducible refine Below.setCell ?_ (by first | exact Nat.le_refl _ | omega | (simp; done) | (simp; omega)) _ | (with_reducible refine ext_trans ?_ (by with_reducible assumption))))
          have lRs_3 : w1.heap.size < w3.heap.size := by omega
          have lRx_3 : w2.heap.size < w3.heap.size := by omega
          have Rs_3 := Lib.hid rs_3
          have r0_rs_3 := cell_of_row _ _ 0 _ _ _ rs_3
          have r1_rs_3 := cell_of_row _ _ 1 _ _ _ rs_3
          have r2_rs_3 := cell_of_row _ _ 2 _ _ _ rs_3
          have r3_rs_3 := cell_of_row _ _ 3 _ _ _ rs_3
          have r4_rs_3 := cell_of_row _ _ 4 _ _ _ rs_3
          have r5_rs_3 := cell_of_row _ _ 5 _ _ _ rs_3
          have f0_rs_3 := frozen_of_row _ _ 0 _ _ rs_3
          have f1_rs_3 := frozen_of_row _ _ 1 _ _ rs_3
          have f2_rs_3 := frozen_of_row _ _ 2 _ _ rs_3
          have f3_rs_3 := frozen_of_row _ _ 3 _ _ rs_3
          have f4_rs_3 := frozen_of_row _ _ 4 _ _ rs_3
          have f5_rs_3 := frozen_of_row _ _ 5 _ _ rs_3
          simp at r0_rs_3 r1_rs_3 r2_rs_3 r3_rs_3 r4_rs_3 r5_rs_3
          clear rs_3
          have Rx_3 := Lib.hid rx_3
          have r0_rx_3 := cell_of_row _ _ 0 _ _ _ rx_3
          have r1_rx_3 := cell_of_row _ _ 1 _ _ _ rx_3
          have r2_rx_3 := cell_of_row _ _ 2 _ _ _ rx_3
          have r3_rx_3 := cell_of_row _ _ 3 _ _ _ rx_3
          have r4_rx_3 := cell_of_row _ _ 4 _ _ _ rx_3
          have r5_rx_3 := cell_of_row _ _ 5 _ _ _ rx_3
          have f0_rx_3 := frozen_of_row _ _ 0 _ _ rx_3
          have f1_rx_3 := frozen_of_row _ _ 1 _ _ rx_3
          have f2_rx_3 := frozen_of_row _ _ 2 _ _ rx_3
          have f3_rx_3 := frozen_of_row _ _ 3 _ _ rx_3
          have f4_rx_3 := frozen_of_row _ _ 4 _ _ rx_3
          have f5_rx_3 := frozen_of_row _ _ 5 _ _ rx_3
          simp at r0_rx_3 r1_rx_3 r2_rx_3 r3_rx_3 r4_rx_3 r5_rx_3
          clear rx_3
          clear r0_rs_2 f0_rs_2 r1_rs_2 f1_rs_2 r2_rs_2 f2_rs_2 r3_rs_2 f3_rs_2 r4_rs_2 f4_rs_2 r5_rs_2 f5_rs_2
          go_wp2_with fail
          go_cut [16] (fun z wx => z = .bool false ∧ Below w3.heap.size w3 wx)
          case first =>
            first | go_region_held3 (fun w' => (∀ b' o, b' < (w3).heap.size → w'.cell? ⟨b', o, none⟩ = (w3).cell? ⟨b', o, none⟩) ∧ Below (w3).heap.size (w3) w') (first | with_reducible assumption | (with_reducible apply rg_keep; rotate_left; with_reducible assumption; with_reducible assumption) | with_reducible exact rg_start _ | with_reducible exact rg_alloc (KeptS.out (by with_reducible assumption)) _ | with_reducible exact rg_alloc (by with_reducible assumption) _ | with_reducible exact rg_start_alloc _ _ | ((repeat (with_reducible refine rg_set ?_ _ (by first | exact Nat.le_refl _ | omega | (simp; done) | (simp; omega)) _)); first | with_reducible exact KeptS.out (by with_reducible assumption) | with_reducible assumption | with_reducible exact rg_alloc (KeptS.out (by with_reducible assumption)) _)) (first | (go_at_call 20; ((with_reducible refine (Y1.out _).mono ?_); (rintro e wC ⟨rfl, hbC⟩; have hSC := rg_keepK (by first | with_reducible assumption | exact KeptS.out (by with_reducible assumption)) hbC)))) | fail
            all_goals (go_wp2_with fail; go_meet; exact ⟨rfl, (by assumption : _ ∧ Below w3.heap.size w3 wC).2⟩)
          case rest =>
          obtain ⟨rfl, hb4⟩ := hcut
          rename World => w4
          have hz4 := hb4.size
          (try simp at hz4)
          have rs_4 := (hb4.block _ (by first | omega | (simp; done) | (simp; omega))).trans Rs_3.out
          have rx_4 := (hb4.block _ (by first | omega | (simp; done) | (simp; omega))).trans Rx_3.out
          have hw4 : Below w.heap.size w w4 := (by repeat (first | with_reducible exact Below.refl _ _ | with_reducible assumption | with_reducible refine Below.drew ?_ | with_reducible refine Below.alloc ?_ (by first | exact Nat.le_refl _ | omega | (simp; done) | (simp; omega)) _ | with_reducible refine Below.setCell ?_ (by first | exact Nat.le_refl _ | omega | (simp; done) | (simp; omega)) _ | (with_reducible refine ext_trans ?_ (by with_reducible assumption))))
          have lRs_4 : w1.heap.size < w4.heap.size := by omega
          have lRx_4 : w2.heap.size < w4.heap.size := by omega
          have Rs_4 := Lib.hid rs_4
          have r0_rs_4 := cell_of_row _ _ 0 _ _ _ rs_4
          have r1_rs_4 := cell_of_row _ _ 1 _ _ _ rs_4
          have r2_rs_4 := cell_of_row _ _ 2 _ _ _ rs_4
          have r3_rs_4 := cell_of_row _ _ 3 _ _ _ rs_4
          have r4_rs_4 := cell_of_row _ _ 4 _ _ _ rs_4
          have r5_rs_4 := cell_of_row _ _ 5 _ _ _ rs_4
          have f0_rs_4 := frozen_of_row _ _ 0 _ _ rs_4
          have f1_rs_4 := frozen_of_row _ _ 1 _ _ rs_4
          have f2_rs_4 := frozen_of_row _ _ 2 _ _ rs_4
          have f3_rs_4 := frozen_of_row _ _ 3 _ _ rs_4
          have f4_rs_4 := frozen_of_row _ _ 4 _ _ rs_4
          have f5_rs_4 := frozen_of_row _ _ 5 _ _ rs_4
          simp at r0_rs_4 r1_rs_4 r2_rs_4 r3_rs_4 r4_rs_4 r5_rs_4
          clear rs_4
          have Rx_4 := Lib.hid rx_4
          have r0_rx_4 := cell_of_row _ _ 0 _ _ _ rx_4
          have r1_rx_4 := cell_of_row _ _ 1 _ _ _ rx_4
          have r2_rx_4 := cell_of_row _ _ 2 _ _ _ rx_4
          have r3_rx_4 := cell_of_row _ _ 3 _ _ _ rx_4
          have r4_rx_4 := cell_of_row _ _ 4 _ _ _ rx_4
          have r5_rx_4 := cell_of_row _ _ 5 _ _ _ rx_4
          have f0_rx_4 := frozen_of_row _ _ 0 _ _ rx_4
          have f1_rx_4 := frozen_of_row _ _ 1 _ _ rx_4
          have f2_rx_4 := frozen_of_row _ _ 2 _ _ rx_4
          have f3_rx_4 := frozen_of_row _ _ 3 _ _ rx_4
          have f4_rx_4 := frozen_of_row _ _ 4 _ _ rx_4
          have f5_rx_4 := frozen_of_row _ _ 5 _ _ rx_4
          simp at r0_rx_4 r1_rx_4 r2_rx_4 r3_rx_4 r4_rx_4 r5_rx_4
          clear rx_4
          clear r0_rs_3 f0_rs_3 r1_rs_3 f1_rs_3 r2_rs_3 f2_rs_3 r3_rs_3 f3_rs_3 r4_rs_3 f4_rs_3 r5_rs_3 f5_rs_3
          clear r0_rx_3 f0_rx_3 r1_rx_3 f1_rx_3 r2_rx_3 f2_rx_3 r3_rx_3 f3_rx_3 r4_rx_3 f4_rx_3 r5_rx_3 f5_rx_3
          go_wp2_with fail
          refine (Y3.out _).mono ?_
          rintro e w5 ⟨rfl, hb5⟩
          have hz5 := hb5.size
          (try simp at hz5)
          have rs_5 := (hb5.block _ (by first | omega | (simp; done) | (simp; omega))).trans Rs_4.out
          have rx_5 := (hb5.block _ (by first | omega | (simp; done) | (simp; omega))).trans Rx_4.out
          have hw5 : Below w.heap.size w w5 := (by repeat (first | with_reducible exact Below.refl _ _ | with_reducible assumption | with_reducible refine Below.drew ?_ | with_reducible refine Below.alloc ?_ (by first | exact Nat.le_refl _ | omega | (simp; done) | (simp; omega)) _ | with_reducible refine Below.setCell ?_ (by first | exact Nat.le_refl _ | omega | (simp; done) | (simp; omega)) _ | (with_reducible refine ext_trans ?_ (by with_reducible assumption))))
          have lRs_5 : w1.heap.size < w5.heap.size := by omega
          have lRx_5 : w2.heap.size < w5.heap.size := by omega
          have Rs_5 := Lib.hid rs_5
          have r0_rs_5 := cell_of_row _ _ 0 _ _ _ rs_5
          have r1_rs_5 := cell_of_row _ _ 1 _ _ _ rs_5
          have r2_rs_5 := cell_of_row _ _ 2 _ _ _ rs_5
          have r3_rs_5 := cell_of_row _ _ 3 _ _ _ rs_5
          have r4_rs_5 := cell_of_row _ _ 4 _ _ _ rs_5
          have r5_rs_5 := cell_of_row _ _ 5 _ _ _ rs_5
          have f0_rs_5 := frozen_of_row _ _ 0 _ _ rs_5
          have f1_rs_5 := frozen_of_row _ _ 1 _ _ rs_5
          have f2_rs_5 := frozen_of_row _ _ 2 _ _ rs_5
          have f3_rs_5 := frozen_of_row _ _ 3 _ _ rs_5
          have f4_rs_5 := frozen_of_row _ _ 4 _ _ rs_5
          have f5_rs_5 := frozen_of_row _ _ 5 _ _ rs_5
          simp at r0_rs_5 r1_rs_5 r2_rs_5 r3_rs_5 r4_rs_5 r5_rs_5
          clear rs_5
          have Rx_5 := Lib.hid rx_5
          have r0_rx_5 := cell_of_row _ _ 0 _ _ _ rx_5
          have r1_rx_5 := cell_of_row _ _ 1 _ _ _ rx_5
          have r2_rx_5 := cell_of_row _ _ 2 _ _ _ rx_5
          have r3_rx_5 := cell_of_row _ _ 3 _ _ _ rx_5
          have r4_rx_5 := cell_of_row _ _ 4 _ _ _ rx_5
          have r5_rx_5 := cell_of_row _ _ 5 _ _ _ rx_5
          have f0_rx_5 := frozen_of_row _ _ 0 _ _ rx_5
          have f1_rx_5 := frozen_of_row _ _ 1 _ _ rx_5
          have f2_rx_5 := frozen_of_row _ _ 2 _ _ rx_5
          have f3_rx_5 := frozen_of_row _ _ 3 _ _ rx_5
          have f4_rx_5 := frozen_of_row _ _ 4 _ _ rx_5
          have f5_rx_5 := frozen_of_row _ _ 5 _ _ rx_5
          simp at r0_rx_5 r1_rx_5 r2_rx_5 r3_rx_5 r4_rx_5 r5_rx_5
          clear rx_5
          clear r0_rs_4 f0_rs_4 r1_rs_4 f1_rs_4 r2_rs_4 f2_rs_4 r3_rs_4 f3_rs_4 r4_rs_4 f4_rs_4 r5_rs_4 f5_rs_4
          clear r0_rx_4 f0_rx_4 r1_rx_4 f1_rx_4 r2_rx_4 f2_rx_4 r3_rx_4 f3_rx_4 r4_rx_4 f4_rx_4 r5_rx_4 f5_rx_4
          go_wp2_with fail
          refine (Y4.out _).mono ?_
          rintro e w6 ⟨rfl, hb6⟩
          have hz6 := hb6.size
          (try simp at hz6)
          have rs_6 := (hb6.block _ (by first | omega | (simp; done) | (simp; omega))).trans Rs_5.out
          have rx_6 := (hb6.block _ (by first | omega | (simp; done) | (simp; omega))).trans Rx_5.out
          have hw6 : Below w.heap.size w w6 := (by repeat (first | with_reducible exact Below.refl _ _ | with_reducible assumption | with_reducible refine Below.drew ?_ | with_reducible refine Below.alloc ?_ (by first | exact Nat.le_refl _ | omega | (simp; done) | (simp; omega)) _ | with_reducible refine Below.setCell ?_ (by first | exact Nat.le_refl _ | omega | (simp; done) | (simp; omega)) _ | (with_reducible refine ext_trans ?_ (by with_reducible assumption))))
          have lRs_6 : w1.heap.size < w6.heap.size := by omega
          have lRx_6 : w2.heap.size < w6.heap.size := by omega
          have Rs_6 := Lib.hid rs_6
          have r0_rs_6 := cell_of_row _ _ 0 _ _ _ rs_6
          have r1_rs_6 := cell_of_row _ _ 1 _ _ _ rs_6
          have r2_rs_6 := cell_of_row _ _ 2 _ _ _ rs_6
          have r3_rs_6 := cell_of_row _ _ 3 _ _ _ rs_6
          have r4_rs_6 := cell_of_row _ _ 4 _ _ _ rs_6
          have r5_rs_6 := cell_of_row _ _ 5 _ _ _ rs_6
          have f0_rs_6 := frozen_of_row _ _ 0 _ _ rs_6
          have f1_rs_6 := frozen_of_row _ _ 1 _ _ rs_6
          have f2_rs_6 := frozen_of_row _ _ 2 _ _ rs_6
          have f3_rs_6 := frozen_of_row _ _ 3 _ _ rs_6
          have f4_rs_6 := frozen_of_row _ _ 4 _ _ rs_6
          have f5_rs_6 := frozen_of_row _ _ 5 _ _ rs_6
          simp at r0_rs_6 r1_rs_6 r2_rs_6 r3_rs_6 r4_rs_6 r5_rs_6
          clear rs_6
          have Rx_6 := Lib.hid rx_6
          have r0_rx_6 := cell_of_row _ _ 0 _ _ _ rx_6
          have r1_rx_6 := cell_of_row _ _ 1 _ _ _ rx_6
          have r2_rx_6 := cell_of_row _ _ 2 _ _ _ rx_6
          have r3_rx_6 := cell_of_row _ _ 3 _ _ _ rx_6
          have r4_rx_6 := cell_of_row _ _ 4 _ _ _ rx_6
          have r5_rx_6 := cell_of_row _ _ 5 _ _ _ rx_6
          have f0_rx_6 := frozen_of_row _ _ 0 _ _ rx_6
          have f1_rx_6 := frozen_of_row _ _ 1 _ _ rx_6
          have f2_rx_6 := frozen_of_row _ _ 2 _ _ rx_6
          have f3_rx_6 := frozen_of_row _ _ 3 _ _ rx_6
          have f4_rx_6 := frozen_of_row _ _ 4 _ _ rx_6
          have f5_rx_6 := frozen_of_row _ _ 5 _ _ rx_6
          simp at r0_rx_6 r1_rx_6 r2_rx_6 r3_rx_6 r4_rx_6 r5_rx_6
          clear rx_6
          clear r0_rs_5 f0_rs_5 r1_rs_5 f1_rs_5 r2_rs_5 f2_rs_5 r3_rs_5 f3_rs_5 r4_rs_5 f4_rs_5 r5_rs_5 f5_rs_5
          clear r0_rx_5 f0_rx_5 r1_rx_5 f1_rx_5 r2_rx_5 f2_rx_5 r3_rx_5 f3_rx_5 r4_rx_5 f4_rx_5 r5_rx_5 f5_rx_5
          go_wp2_with fail
          have hb7 : Below w6.heap.size w6 (w6.alloc (.cells #[.int .i64 0, .string ⟨#[]⟩, .bool false] 39)) := (by repeat (first | with_reducible exact Below.refl _ _ | with_reducible assumption | with_reducible refine Below.drew ?_ | with_reducible refine Below.alloc ?_ (by first | exact Nat.le_refl _ | omega | (simp; done) | (simp; omega)) _ | with_reducible refine Below.setCell ?_ (by first | exact Nat.le_refl _ | omega | (simp; done) | (simp; omega)) _ | (with_reducible refine ext_trans ?_ (by with_reducible assumption))))
          have rc_7 : (w6.alloc (.cells #[.int .i64 0, .string ⟨#[]⟩, .bool false] 39)).heap[w6.heap.size]? = some (.cells #[.int .i64 0, .string ⟨#[]⟩, .bool false] 39 (0, 0)) := (by repeat (first | exact heap_new _ _ _ (by first | rfl | (simp; done) | (simp; omega)) | refine (Below.heap_alloc _ _ _ (by first | omega | (simp; done) | (simp; omega))).trans ?_))
          have lNc_7 : w6.heap.size < (w6.alloc (.cells #[.int .i64 0, .string ⟨#[]⟩, .bool false] 39)).heap.size := by simp
          generalize (w6.alloc (.cells #[.int .i64 0, .string ⟨#[]⟩, .bool false] 39)) = w7 at *
          have hz7 := hb7.size
          (try simp at hz7)
          have rs_7 := (hb7.block _ (by first | omega | (simp; done) | (simp; omega))).trans Rs_6.out
          have rx_7 := (hb7.block _ (by first | omega | (simp; done) | (simp; omega))).trans Rx_6.out
          have hw7 : Below w.heap.size w w7 := (by repeat (first | with_reducible exact Below.refl _ _ | with_reducible assumption | with_reducible refine Below.drew ?_ | with_reducible refine Below.alloc ?_ (by first | exact Nat.le_refl _ | omega | (simp; done) | (simp; omega)) _ | with_reducible refine Below.setCell ?_ (by first | exact Nat.le_refl _ | omega | (simp; done) | (simp; omega)) _ | (with_reducible refine ext_trans ?_ (by with_reducible assumption))))
          have lRs_7 : w1.heap.size < w7.heap.size := by omega
          have lRx_7 : w2.heap.size < w7.heap.size := by omega
          have lRc_7 : w6.heap.size < w7.heap.size := by omega
          have Rs_7 := Lib.hid rs_7
          have r0_rs_7 := cell_of_row _ _ 0 _ _ _ rs_7
          have r1_rs_7 := cell_of_row _ _ 1 _ _ _ rs_7
          have r2_rs_7 := cell_of_row _ _ 2 _ _ _ rs_7
          have r3_rs_7 := cell_of_row _ _ 3 _ _ _ rs_7
          have r4_rs_7 := cell_of_row _ _ 4 _ _ _ rs_7
          have r5_rs_7 := cell_of_row _ _ 5 _ _ _ rs_7
          have f0_rs_7 := frozen_of_row _ _ 0 _ _ rs_7
          have f1_rs_7 := frozen_of_row _ _ 1 _ _ rs_7
          have f2_rs_7 := frozen_of_row _ _ 2 _ _ rs_7
          have f3_rs_7 := frozen_of_row _ _ 3 _ _ rs_7
          have f4_rs_7 := frozen_of_row _ _ 4 _ _ rs_7
          have f5_rs_7 := frozen_of_row _ _ 5 _ _ rs_7
          simp at r0_rs_7 r1_rs_7 r2_rs_7 r3_rs_7 r4_rs_7 r5_rs_7
          clear rs_7
          have Rx_7 := Lib.hid rx_7
          have r0_rx_7 := cell_of_row _ _ 0 _ _ _ rx_7
          have r1_rx_7 := cell_of_row _ _ 1 _ _ _ rx_7
          have r2_rx_7 := cell_of_row _ _ 2 _ _ _ rx_7
          have r3_rx_7 := cell_of_row _ _ 3 _ _ _ rx_7
          have r4_rx_7 := cell_of_row _ _ 4 _ _ _ rx_7
          have r5_rx_7 := cell_of_row _ _ 5 _ _ _ rx_7
          have f0_rx_7 := frozen_of_row _ _ 0 _ _ rx_7
          have f1_rx_7 := frozen_of_row _ _ 1 _ _ rx_7
          have f2_rx_7 := frozen_of_row _ _ 2 _ _ rx_7
          have f3_rx_7 := frozen_of_row _ _ 3 _ _ rx_7
          have f4_rx_7 := frozen_of_row _ _ 4 _ _ rx_7
          have f5_rx_7 := frozen_of_row _ _ 5 _ _ rx_7
          simp at r0_rx_7 r1_rx_7 r2_rx_7 r3_rx_7 r4_rx_7 r5_rx_7
          clear rx_7
          have Rc_7 := Lib.hid rc_7
          have r0_rc_7 := cell_of_row _ _ 0 _ _ _ rc_7
          have r1_rc_7 := cell_of_row _ _ 1 _ _ _ rc_7
          have r2_rc_7 := cell_of_row _ _ 2 _ _ _ rc_7
          have f0_rc_7 := frozen_of_row _ _ 0 _ _ rc_7
          have f1_rc_7 := frozen_of_row _ _ 1 _ _ rc_7
          have f2_rc_7 := frozen_of_row _ _ 2 _ _ rc_7
          simp at r0_rc_7 r1_rc_7 r2_rc_7
          clear rc_7
          clear r0_rs_6 f0_rs_6 r1_rs_6 f1_rs_6 r2_rs_6 f2_rs_6 r3_rs_6 f3_rs_6 r4_rs_6 f4_rs_6 r5_rs_6 f5_rs_6
          clear r0_rx_6 f0_rx_6 r1_rx_6 f1_rx_6 r2_rx_6 f2_rx_6 r3_rx_6 f3_rx_6 r4_rx_6 f4_rx_6 r5_rx_6 f5_rx_6
          go_wp2_with fail
          go_cut [2] (fun z wx => z = .bool true ∧ Below w7.heap.size w7 wx)
          case rest =>
            obtain ⟨rfl, hbz⟩ := hcut
            go_wp2_with fail
            go_ret
            exact ⟨rfl, hw7.trans (hbz.mono hw7.size)⟩
          case first =>
            refine wp_region_noPanic ?_
            refine wp_region_held_drew (S := (fun w' => (∀ b' o, b' < w7.heap.size → w'.cell? ⟨b', o, none⟩ = w7.cell? ⟨b', o, none⟩) ∧ Below w7.heap.size w7 w')) (by kernel_rfl) (by first | exact rg_start _) (fun hHeld => ?_)
            refine wpAnyH_take (i := 0) (oi := _) (v := ?v0_1) rfl (by kernel_rfl) (by kernel_rfl) (by kernel_rfl) (fun _ _ _ h => h) (Or.inl ⟨by rfl, ?hy0_1⟩) (by with_reducible assumption) ?rest0_1
            case hy0_1 => ((intro w hSw; (try dsimp only at hSw); go_simp); (try with_reducible rfl))
            (try simp only [Act.put, List.getElem_toArray, List.getElem_cons_succ, List.getElem_cons_zero, List.setIfInBounds_toArray, List.set_cons_zero, List.set_cons_succ])
            refine wpAnyH_ready (rs := [1]) (by kernel_rfl) (by simp) ?_
            refine AllReadyH.cons (o := _) rfl (fun K hK => ?_) AllReadyH.nil
            go_simp
            go_at_call 19; ((with_reducible refine (Y5.out _).mono ?_); (rintro e wq1 ⟨rfl, hbq1⟩; have hSq1 := rg_keepK (by with_reducible assumption) hbq1))
            go_wp2_with fail
            refine hK.out _ _ ?_ (fun hHeld => ?_)
            · (try dsimp only); (first | with_reducible assumption | (with_reducible apply rg_keep; rotate_left; with_reducible assumption; with_reducible assumption) | with_reducible exact rg_start _ | with_reducible exact rg_alloc (KeptS.out (by with_reducible assumption)) _ | with_reducible exact rg_alloc (by with_reducible assumption) _ | with_reducible exact rg_start_alloc _ _ | ((repeat (with_reducible refine rg_set ?_ _ (by first | exact Nat.le_refl _ | omega | (simp; done) | (simp; omega)) _)); first | with_reducible exact KeptS.out (by with_reducible assumption) | with_reducible assumption | with_reducible exact rg_alloc (KeptS.out (by with_reducible assumption)) _))
            clear hK K
            (try simp only [Act.put, List.getElem_toArray, List.getElem_cons_succ, List.getElem_cons_zero, List.setIfInBounds_toArray, List.set_cons_zero, List.set_cons_succ])
            refine wpAnyH_take (i := 2) (oi := _) (v := ?v2_2) rfl (by kernel_rfl) (by kernel_rfl) (by kernel_rfl) (fun _ _ _ h => h) (Or.inl ⟨by rfl, ?hy2_2⟩) (by with_reducible assumption) ?rest2_2
            case hy2_2 => ((intro w hSw; (try dsimp only at hSw); go_simp); (try with_reducible rfl))
            (try simp only [Act.put, List.getElem_toArray, List.getElem_cons_succ, List.getElem_cons_zero, List.setIfInBounds_toArray, List.set_cons_zero, List.set_cons_succ])
            refine wpAnyH_take (i := 3) (oi := _) (v := ?v3_3) rfl (by kernel_rfl) (by kernel_rfl) (by kernel_rfl) (fun _ _ _ h => h) (Or.inl ⟨by rfl, ?hy3_3⟩) (by with_reducible assumption) ?rest3_3
            case hy3_3 => ((intro w hSw; (try dsimp only at hSw); go_simp); (try with_reducible rfl))
            (try simp only [Act.put, List.getElem_toArray, List.getElem_cons_succ, List.getElem_cons_zero, List.setIfInBounds_toArray, List.set_cons_zero, List.set_cons_succ])
            refine wpAnyH_take (i := 5) (oi := _) (v := ?v5_4) rfl (by kernel_rfl) (by kernel_rfl) (by kernel_rfl) (fun _ _ _ h => h) (Or.inl ⟨by rfl, ?hy5_4⟩) (by with_reducible assumption) ?rest5_4
            case hy5_4 => ((intro w hSw; (try dsimp only at hSw); go_simp); (try with_reducible rfl))
            (try simp only [Act.put, List.getElem_toArray, List.getElem_cons_succ, List.getElem_cons_zero, List.setIfInBounds_toArray, List.set_cons_zero, List.set_cons_succ])
            refine wpAnyH_take (i := 6) (oi := _) (v := ?v6_5) rfl (by kernel_rfl) (by kernel_rfl) (by kernel_rfl) (fun _ _ _ h => h) (Or.inl ⟨by rfl, ?hy6_5⟩) (by with_reducible assumption) ?rest6_5
            case hy6_5 => ((intro w hSw; (try dsimp only at hSw); go_simp); (try with_reducible rfl))
            (try simp only [Act.put, List.getElem_toArray, List.getElem_cons_succ, List.getElem_cons_zero, List.setIfInBounds_toArray, List.set_cons_zero, List.set_cons_succ])
            refine wpAnyH_ready (rs := [4]) (by kernel_rfl) (by simp) ?_
            refine AllReadyH.cons (o := _) rfl (fun K hK => ?_) AllReadyH.nil
            go_simp
            go_at_call 17; ((with_reducible refine (Y6.out _).mono ?_); (rintro e wq2 ⟨rfl, hbq2⟩; have hSq2 := rg_keepK (by with_reducible assumption) hbq2))
            go_wp2_with fail
            refine hK.out _ _ ?_ (fun hHeld => ?_)
            · (try dsimp only); (first | with_reducible assumption | (with_reducible apply rg_keep; rotate_left; with_reducible assumption; with_reducible assumption) | with_reducible exact rg_start _ | with_reducible exact rg_alloc (KeptS.out (by with_reducible assumption)) _ | with_reducible exact rg_alloc (by with_reducible assumption) _ | with_reducible exact rg_start_alloc _ _ | ((repeat (with_reducible refine rg_set ?_ _ (by first | exact Nat.le_refl _ | omega | (simp; done) | (simp; omega)) _)); first | with_reducible exact KeptS.out (by with_reducible assumption) | with_reducible assumption | with_reducible exact rg_alloc (KeptS.out (by with_reducible assumption)) _))
            clear hK K
            (try simp only [Act.put, List.getElem_toArray, List.getElem_cons_succ, List.getElem_cons_zero, List.setIfInBounds_toArray, List.set_cons_zero, List.set_cons_succ])
            refine wpAnyH_take (i := 7) (oi := _) (v := ?v7_6) rfl (by kernel_rfl) (by kernel_rfl) (by kernel_rfl) (fun _ _ _ h => h) (Or.inl ⟨by rfl, ?hy7_6⟩) (by with_reducible assumption) ?rest7_6
            case hy7_6 => ((intro w hSw; (try dsimp only at hSw); go_simp); (try with_reducible rfl))
            (try simp only [Act.put, List.getElem_toArray, List.getElem_cons_succ, List.getElem_cons_zero, List.setIfInBounds_toArray, List.set_cons_zero, List.set_cons_succ])
            refine wpAnyH_take (i := 8) (oi := _) (v := ?v8_7) rfl (by kernel_rfl) (by kernel_rfl) (by kernel_rfl) (fun _ _ _ h => h) (Or.inl ⟨by rfl, ?hy8_7⟩) (by with_reducible assumption) ?rest8_7
            case hy8_7 => ((intro w hSw; (try dsimp only at hSw); go_simp); (try with_reducible rfl))
            (try simp only [Act.put, List.getElem_toArray, List.getElem_cons_succ, List.getElem_cons_zero, List.setIfInBounds_toArray, List.set_cons_zero, List.set_cons_succ])
            refine wpAnyH_take (i := 9) (oi := _) (v := ?v9_8) rfl (by kernel_rfl) (by kernel_rfl) (by kernel_rfl) (fun _ _ _ h => h) (Or.inl ⟨by rfl, ?hy9_8⟩) (by with_reducible assumption) ?rest9_8
            case hy9_8 => ((intro w hSw; (try dsimp only at hSw); go_simp); (try with_reducible rfl))
            (try simp only [Act.put, List.getElem_toArray, List.getElem_cons_succ, List.getElem_cons_zero, List.setIfInBounds_toArray, List.set_cons_zero, List.set_cons_succ])
            refine wpAnyH_take (i := 10) (oi := _) (v := ?v10_9) rfl (by kernel_rfl) (by kernel_rfl) (by kernel_rfl) (fun _ _ _ h => h) (Or.inl ⟨by rfl, ?hy10_9⟩) (by with_reducible assumption) ?rest10_9
            case hy10_9 => ((intro w hSw; (try dsimp only at hSw); go_simp); (try with_reducible rfl))
            (try simp only [Act.put, List.getElem_toArray, List.getElem_cons_succ, List.getElem_cons_zero, List.setIfInBounds_toArray, List.set_cons_zero, List.set_cons_succ])
            refine wpAnyH_take (i := 11) (oi := _) (v := ?v11_10) rfl (by kernel_rfl) (by kernel_rfl) (by kernel_rfl) (fun _ _ _ h => h) (Or.inl ⟨by rfl, ?hy11_10⟩) (by with_reducible assumption) ?rest11_10
            case hy11_10 => ((intro w hSw; (try dsimp only at hSw); go_simp); (try with_reducible rfl))
            (try simp only [Act.put, List.getElem_toArray, List.getElem_cons_succ, List.getElem_cons_zero, List.setIfInBounds_toArray, List.set_cons_zero, List.set_cons_succ])
            refine wpAnyH_take (i := 12) (oi := _) (v := ?v12_11) rfl (by kernel_rfl) (by kernel_rfl) (by kernel_rfl) (fun _ _ _ h => h) (Or.inl ⟨by rfl, ?hy12_11⟩) (by with_reducible assumption) ?rest12_11
            case hy12_11 => ((intro w hSw; (try dsimp only at hSw); go_simp); (try with_reducible rfl))
            (try simp only [Act.put, List.getElem_toArray, List.getElem_cons_succ, List.getElem_cons_zero, List.setIfInBounds_toArray, List.set_cons_zero, List.set_cons_succ])
            refine wpAnyH_take (i := 13) (oi := _) (v := ?v13_12) rfl (by kernel_rfl) (by kernel_rfl) (by kernel_rfl) (fun _ _ _ h => h) (Or.inl ⟨by rfl, ?hy13_12⟩) (by with_reducible assumption) ?rest13_12
            case hy13_12 => ((intro w hSw; (try dsimp only at hSw); go_simp); (try with_reducible rfl))
            (try simp only [Act.put, List.getElem_toArray, List.getElem_cons_succ, List.getElem_cons_zero, List.setIfInBounds_toArray, List.set_cons_zero, List.set_cons_succ])
            refine wpAnyH_take (i := 14) (oi := _) (v := ?v14_13) rfl (by kernel_rfl) (by kernel_rfl) (by kernel_rfl) (fun _ _ _ h => h) (Or.inl ⟨by rfl, ?hy14_13⟩) (by with_reducible assumption) ?rest14_13
            case hy14_13 => ((intro w hSw; (try dsimp only at hSw); go_simp); (try with_reducible rfl))
            (try simp only [Act.put, List.getElem_toArray, List.getElem_cons_succ, List.getElem_cons_zero, List.setIfInBounds_toArray, List.set_cons_zero, List.set_cons_succ])
            refine wpAnyH_take (i := 15) (oi := _) (v := ?v15_14) rfl (by kernel_rfl) (by kernel_rfl) (by kernel_rfl) (fun _ _ _ h => h) (Or.inl ⟨by rfl, ?hy15_14⟩) (by with_reducible assumption) ?rest15_14
            case hy15_14 => ((intro w hSw; (try dsimp only at hSw); go_simp); (try with_reducible rfl))
            (try simp only [Act.put, List.getElem_toArray, List.getElem_cons_succ, List.getElem_cons_zero, List.setIfInBounds_toArray, List.set_cons_zero, List.set_cons_succ])
            refine wpAnyH_take (i := 16) (oi := _) (v := ?v16_15) rfl (by kernel_rfl) (by kernel_rfl) (by kernel_rfl) (fun _ _ _ h => h) (Or.inl ⟨by rfl, ?hy16_15⟩) (by with_reducible assumption) ?rest16_15
            case hy16_15 => ((intro w hSw; (try dsimp only at hSw); go_simp); (try with_reducible rfl))
            (try simp only [Act.put, List.getElem_toArray, List.getElem_cons_succ, List.getElem_cons_zero, List.setIfInBounds_toArray, List.set_cons_zero, List.set_cons_succ])
            refine wpAnyH_take (i := 17) (oi := _) (v := ?v17_16) rfl (by kernel_rfl) (by kernel_rfl) (by kernel_rfl) (fun _ _ _ h => h) (Or.inl ⟨by rfl, ?hy17_16⟩) (by with_reducible assumption) ?rest17_16
            case hy17_16 => ((intro w hSw; (try dsimp only at hSw); go_simp); (try with_reducible rfl))
            (try simp only [Act.put, List.getElem_toArray, List.getElem_cons_succ, List.getElem_cons_zero, List.setIfInBounds_toArray, List.set_cons_zero, List.set_cons_succ])
            refine wpAnyH_take (i := 18) (oi := _) (v := ?v18_17) rfl (by kernel_rfl) (by kernel_rfl) (by kernel_rfl) (fun _ _ _ h => h) (Or.inl ⟨by rfl, ?hy18_17⟩) (by with_reducible assumption) ?rest18_17
            case hy18_17 => ((intro w hSw; (try dsimp only at hSw); go_simp); (try with_reducible rfl))
            (try simp only [Act.put, List.getElem_toArray, List.getElem_cons_succ, List.getElem_cons_zero, List.setIfInBounds_toArray, List.set_cons_zero, List.set_cons_succ])
            refine wpAnyH_take (i := 19) (oi := _) (v := ?v19_18) rfl (by kernel_rfl) (by kernel_rfl) (by kernel_rfl) (fun _ _ _ h => h) (Or.inl ⟨by rfl, ?hy19_18⟩) (by with_reducible assumption) ?rest19_18
            case hy19_18 => ((intro w hSw; (try dsimp only at hSw); go_simp); (try with_reducible rfl))
            (try simp only [Act.put, List.getElem_toArray, List.getElem_cons_succ, List.getElem_cons_zero, List.setIfInBounds_toArray, List.set_cons_zero, List.set_cons_succ])
            refine wpAnyH_take (i := 20) (oi := _) (v := ?v20_19) rfl (by kernel_rfl) (by kernel_rfl) (by kernel_rfl) (fun _ _ _ h => h) (Or.inl ⟨by rfl, ?hy20_19⟩) (by with_reducible assumption) ?rest20_19
            case hy20_19 => ((intro w hSw; (try dsimp only at hSw); go_simp); (try with_reducible rfl))
            (try simp only [Act.put, List.getElem_toArray, List.getElem_cons_succ, List.getElem_cons_zero, List.setIfInBounds_toArray, List.set_cons_zero, List.set_cons_succ])
            refine wpAnyH_take (i := 21) (oi := _) (v := ?v21_20) rfl (by kernel_rfl) (by kernel_rfl) (by kernel_rfl) (fun _ _ _ h => h) (Or.inl ⟨by rfl, ?hy21_20⟩) (by with_reducible assumption) ?rest21_20
            case hy21_20 => ((intro w hSw; (try dsimp only at hSw); go_simp); (try with_reducible rfl))
            (try simp only [Act.put, List.getElem_toArray, List.getElem_cons_succ, List.getElem_cons_zero, List.setIfInBounds_toArray, List.set_cons_zero, List.set_cons_succ])
            refine wpAnyH_take (i := 22) (oi := _) (v := ?v22_21) rfl (by kernel_rfl) (by kernel_rfl) (by kernel_rfl) (fun _ _ _ h => h) (Or.inl ⟨by rfl, ?hy22_21⟩) (by with_reducible assumption) ?rest22_21
            case hy22_21 => ((intro w hSw; (try dsimp only at hSw); go_simp); (try with_reducible rfl))
            (try simp only [Act.put, List.getElem_toArray, List.getElem_cons_succ, List.getElem_cons_zero, List.setIfInBounds_toArray, List.set_cons_zero, List.set_cons_succ])
            refine wpAnyH_take (i := 23) (oi := _) (v := ?v23_22) rfl (by kernel_rfl) (by kernel_rfl) (by kernel_rfl) (fun _ _ _ h => h) (Or.inl ⟨by rfl, ?hy23_22⟩) (by with_reducible assumption) ?rest23_22
            case hy23_22 => ((intro w hSw; (try dsimp only at hSw); go_simp); (try with_reducible rfl))
            (try simp only [Act.put, List.getElem_toArray, List.getElem_cons_succ, List.getElem_cons_zero, List.setIfInBounds_toArray, List.set_cons_zero, List.set_cons_succ])
            refine wpAnyH_take (i := 24) (oi := _) (v := ?v24_23) rfl (by kernel_rfl) (by kernel_rfl) (by kernel_rfl) (fun _ _ _ h => h) (Or.inl ⟨by rfl, ?hy24_23⟩) (by with_reducible assumption) ?rest24_23
            case hy24_23 => ((intro w hSw; (try dsimp only at hSw); go_simp); (try with_reducible rfl))
            (try simp only [Act.put, List.getElem_toArray, List.getElem_cons_succ, List.getElem_cons_zero, List.setIfInBounds_toArray, List.set_cons_zero, List.set_cons_succ])
            refine wpAnyH_take (i := 25) (oi := _) (v := undef) rfl (by kernel_rfl) (by kernel_rfl) (by kernel_rfl) (fun _ _ _ h => h) (Or.inr ⟨by rfl, rfl⟩) (by with_reducible assumption) ?rest25_24
            (try simp only [Act.put, List.getElem_toArray, List.getElem_cons_succ, List.getElem_cons_zero, List.setIfInBounds_toArray, List.set_cons_zero, List.set_cons_succ])
            refine wpAnyH_take (i := 26) (oi := _) (v := undef) rfl (by kernel_rfl) (by kernel_rfl) (by kernel_rfl) (fun _ _ _ h => h) (Or.inr ⟨by rfl, rfl⟩) (by with_reducible assumption) ?rest26_25
            (try simp only [Act.put, List.getElem_toArray, List.getElem_cons_succ, List.getElem_cons_zero, List.setIfInBounds_toArray, List.set_cons_zero, List.set_cons_succ])
            refine wpAnyH_take (i := 27) (oi := _) (v := undef) rfl (by kernel_rfl) (by kernel_rfl) (by kernel_rfl) (fun _ _ _ h => h) (Or.inr ⟨by rfl, rfl⟩) (by with_reducible assumption) ?rest27_26
            (try simp only [Act.put, List.getElem_toArray, List.getElem_cons_succ, List.getElem_cons_zero, List.setIfInBounds_toArray, List.set_cons_zero, List.set_cons_succ])
            refine wpAnyH_take (i := 28) (oi := _) (v := ?v28_27) rfl (by kernel_rfl) (by kernel_rfl) (by kernel_rfl) (fun _ _ _ h => h) (Or.inl ⟨by rfl, ?hy28_27⟩) (by with_reducible assumption) ?rest28_27
            case hy28_27 => ((intro w hSw; (try dsimp only at hSw); go_simp); (try with_reducible rfl))
            (try simp only [Act.put, List.getElem_toArray, List.getElem_cons_succ, List.getElem_cons_zero, List.setIfInBounds_toArray, List.set_cons_zero, List.set_cons_succ])
            refine wpAnyH_take (i := 29) (oi := _) (v := ?v29_28) rfl (by kernel_rfl) (by kernel_rfl) (by kernel_rfl) (fun _ _ _ h => h) (Or.inl ⟨by rfl, ?hy29_28⟩) (by with_reducible assumption) ?rest29_28
            case hy29_28 => ((intro w hSw; (try dsimp only at hSw); go_simp); (try with_reducible rfl))
            (try simp only [Act.put, List.getElem_toArray, List.getElem_cons_succ, List.getElem_cons_zero, List.setIfInBounds_toArray, List.set_cons_zero, List.set_cons_succ])
            refine wpAnyH_take (i := 30) (oi := _) (v := ?v30_29) rfl (by kernel_rfl) (by kernel_rfl) (by kernel_rfl) (fun _ _ _ h => h) (Or.inl ⟨by rfl, ?hy30_29⟩) (by with_reducible assumption) ?rest30_29
            case hy30_29 => ((intro w hSw; (try dsimp only at hSw); go_simp); (try with_reducible rfl))
            (try simp only [Act.put, List.getElem_toArray, List.getElem_cons_succ, List.getElem_cons_zero, List.setIfInBounds_toArray, List.set_cons_zero, List.set_cons_succ])
            refine wpAnyH_take (i := 31) (oi := _) (v := ?v31_30) rfl (by kernel_rfl) (by kernel_rfl) (by kernel_rfl) (fun _ _ _ h => h) (Or.inl ⟨by rfl, ?hy31_30⟩) (by with_reducible assumption) ?rest31_30
            case hy31_30 => ((intro w hSw; (try dsimp only at hSw); go_simp); (try with_reducible rfl))
            (try simp only [Act.put, List.getElem_toArray, List.getElem_cons_succ, List.getElem_cons_zero, List.setIfInBounds_toArray, List.set_cons_zero, List.set_cons_succ])
            refine wpAnyH_take (i := 32) (oi := _) (v := ?v32_31) rfl (by kernel_rfl) (by kernel_rfl) (by kernel_rfl) (fun _ _ _ h => h) (Or.inl ⟨by rfl, ?hy32_31⟩) (by with_reducible assumption) ?rest32_31
            case hy32_31 => ((intro w hSw; (try dsimp only at hSw); go_simp); (try with_reducible rfl))
            (try simp only [Act.put, List.getElem_toArray, List.getElem_cons_succ, List.getElem_cons_zero, List.setIfInBounds_toArray, List.set_cons_zero, List.set_cons_succ])
            refine wpAnyH_take (i := 33) (oi := _) (v := ?v33_32) rfl (by kernel_rfl) (by kernel_rfl) (by kernel_rfl) (fun _ _ _ h => h) (Or.inl ⟨by rfl, ?hy33_32⟩) (by with_reducible assumption) ?rest33_32
            case hy33_32 => ((intro w hSw; (try dsimp only at hSw); go_simp); (try with_reducible rfl))
            (try simp only [Act.put, List.getElem_toArray, List.getElem_cons_succ, List.getElem_cons_zero, List.setIfInBounds_toArray, List.set_cons_zero, List.set_cons_succ])
            refine wpAnyH_take (i := 34) (oi := _) (v := ?v34_33) rfl (by kernel_rfl) (by kernel_rfl) (by kernel_rfl) (fun _ _ _ h => h) (Or.inl ⟨by rfl, ?hy34_33⟩) (by with_reducible assumption) ?rest34_33
            case hy34_33 => ((intro w hSw; (try dsimp only at hSw); go_simp); (try with_reducible rfl))
            (try simp only [Act.put, List.getElem_toArray, List.getElem_cons_succ, List.getElem_cons_zero, List.setIfInBounds_toArray, List.set_cons_zero, List.set_cons_succ])
            refine wpAnyH_take (i := 35) (oi := _) (v := ?v35_34) rfl (by kernel_rfl) (by kernel_rfl) (by kernel_rfl) (fun _ _ _ h => h) (Or.inl ⟨by rfl, ?hy35_34⟩) (by with_reducible assumption) ?rest35_34
            case hy35_34 => ((intro w hSw; (try dsimp only at hSw); go_simp); (try with_reducible rfl))
            (try simp only [Act.put, List.getElem_toArray, List.getElem_cons_succ, List.getElem_cons_zero, List.setIfInBounds_toArray, List.set_cons_zero, List.set_cons_succ])
            refine wpAnyH_take (i := 36) (oi := _) (v := undef) rfl (by kernel_rfl) (by kernel_rfl) (by kernel_rfl) (fun _ _ _ h => h) (Or.inr ⟨by rfl, rfl⟩) (by with_reducible assumption) ?rest36_35
            (try simp only [Act.put, List.getElem_toArray, List.getElem_cons_succ, List.getElem_cons_zero, List.setIfInBounds_toArray, List.set_cons_zero, List.set_cons_succ])
            refine wpAnyH_take (i := 37) (oi := _) (v := undef) rfl (by kernel_rfl) (by kernel_rfl) (by kernel_rfl) (fun _ _ _ h => h) (Or.inr ⟨by rfl, rfl⟩) (by with_reducible assumption) ?rest37_36
            (try simp only [Act.put, List.getElem_toArray, List.getElem_cons_succ, List.getElem_cons_zero, List.setIfInBounds_toArray, List.set_cons_zero, List.set_cons_succ])
            refine wpAnyH_take (i := 38) (oi := _) (v := undef) rfl (by kernel_rfl) (by kernel_rfl) (by kernel_rfl) (fun _ _ _ h => h) (Or.inr ⟨by rfl, rfl⟩) (by with_reducible assumption) ?rest38_37
            (try simp only [Act.put, List.getElem_toArray, List.getElem_cons_succ, List.getElem_cons_zero, List.setIfInBounds_toArray, List.set_cons_zero, List.set_cons_succ])
            refine wpAnyH_take (i := 39) (oi := _) (v := undef) rfl (by kernel_rfl) (by kernel_rfl) (by kernel_rfl) (fun _ _ _ h => h) (Or.inr ⟨by rfl, rfl⟩) (by with_reducible assumption) ?rest39_38
            (try simp only [Act.put, List.getElem_toArray, List.getElem_cons_succ, List.getElem_cons_zero, List.setIfInBounds_toArray, List.set_cons_zero, List.set_cons_succ])
            refine wpAnyH_take (i := 40) (oi := _) (v := undef) rfl (by kernel_rfl) (by kernel_rfl) (by kernel_rfl) (fun _ _ _ h => h) (Or.inr ⟨by rfl, rfl⟩) (by with_reducible assumption) ?rest40_39
            (try simp only [Act.put, List.getElem_toArray, List.getElem_cons_succ, List.getElem_cons_zero, List.setIfInBounds_toArray, List.set_cons_zero, List.set_cons_succ])
            refine wpAnyH_take (i := 41) (oi := _) (v := undef) rfl (by kernel_rfl) (by kernel_rfl) (by kernel_rfl) (fun _ _ _ h => h) (Or.inr ⟨by rfl, rfl⟩) (by with_reducible assumption) ?rest41_40
            (try simp only [Act.put, List.getElem_toArray, List.getElem_cons_succ, List.getElem_cons_zero, List.setIfInBounds_toArray, List.set_cons_zero, List.set_cons_succ])
            refine wpAnyH_take (i := 42) (oi := _) (v := undef) rfl (by kernel_rfl) (by kernel_rfl) (by kernel_rfl) (fun _ _ _ h => h) (Or.inr ⟨by rfl, rfl⟩) (by with_reducible assumption) ?rest42_41
            (try simp only [Act.put, List.getElem_toArray, List.getElem_cons_succ, List.getElem_cons_zero, List.setIfInBounds_toArray, List.set_cons_zero, List.set_cons_succ])
            refine wpAnyH_take (i := 43) (oi := _) (v := undef) rfl (by kernel_rfl) (by kernel_rfl) (by kernel_rfl) (fun _ _ _ h => h) (Or.inr ⟨by rfl, rfl⟩) (by with_reducible assumption) ?rest43_42
            (try simp only [Act.put, List.getElem_toArray, List.getElem_cons_succ, List.getElem_cons_zero, List.setIfInBounds_toArray, List.set_cons_zero, List.set_cons_succ])
            refine wpAnyH_take (i := 44) (oi := _) (v := undef) rfl (by kernel_rfl) (by kernel_rfl) (by kernel_rfl) (fun _ _ _ h => h) (Or.inr ⟨by rfl, rfl⟩) (by with_reducible assumption) ?rest44_43
            (try simp only [Act.put, List.getElem_toArray, List.getElem_cons_succ, List.getElem_cons_zero, List.setIfInBounds_toArray, List.set_cons_zero, List.set_cons_succ])
            refine wpAnyH_take (i := 45) (oi := _) (v := undef) rfl (by kernel_rfl) (by kernel_rfl) (by kernel_rfl) (fun _ _ _ h => h) (Or.inr ⟨by rfl, rfl⟩) (by with_reducible assumption) ?rest45_44
            (try simp only [Act.put, List.getElem_toArray, List.getElem_cons_succ, List.getElem_cons_zero, List.setIfInBounds_toArray, List.set_cons_zero, List.set_cons_succ])
            refine wpAnyH_take (i := 46) (oi := _) (v := undef) rfl (by kernel_rfl) (by kernel_rfl) (by kernel_rfl) (fun _ _ _ h => h) (Or.inr ⟨by rfl, rfl⟩) (by with_reducible assumption) ?rest46_45
            (try simp only [Act.put, List.getElem_toArray, List.getElem_cons_succ, List.getElem_cons_zero, List.setIfInBounds_toArray, List.set_cons_zero, List.set_cons_succ])
            refine wpAnyH_take (i := 47) (oi := _) (v := undef) rfl (by kernel_rfl) (by kernel_rfl) (by kernel_rfl) (fun _ _ _ h => h) (Or.inr ⟨by rfl, rfl⟩) (by with_reducible assumption) ?rest47_46
            (try simp only [Act.put, List.getElem_toArray, List.getElem_cons_succ, List.getElem_cons_zero, List.setIfInBounds_toArray, List.set_cons_zero, List.set_cons_succ])
            refine wpAnyH_take (i := 48) (oi := _) (v := undef) rfl (by kernel_rfl) (by kernel_rfl) (by kernel_rfl) (fun _ _ _ h => h) (Or.inr ⟨by rfl, rfl⟩) (by with_reducible assumption) ?rest48_47
            (try simp only [Act.put, List.getElem_toArray, List.getElem_cons_succ, List.getElem_cons_zero, List.setIfInBounds_toArray, List.set_cons_zero, List.set_cons_succ])
            refine wpAnyH_take (i := 49) (oi := _) (v := undef) rfl (by kernel_rfl) (by kernel_rfl) (by kernel_rfl) (fun _ _ _ h => h) (Or.inr ⟨by rfl, rfl⟩) (by with_reducible assumption) ?rest49_48
            (try simp only [Act.put, List.getElem_toArray, List.getElem_cons_succ, List.getElem_cons_zero, List.setIfInBounds_toArray, List.set_cons_zero, List.set_cons_succ])
            refine wpAnyH_take (i := 50) (oi := _) (v := undef) rfl (by kernel_rfl) (by kernel_rfl) (by kernel_rfl) (fun _ _ _ h => h) (Or.inr ⟨by rfl, rfl⟩) (by with_reducible assumption) ?rest50_49
            (try simp only [Act.put, List.getElem_toArray, List.getElem_cons_succ, List.getElem_cons_zero, List.setIfInBounds_toArray, List.set_cons_zero, List.set_cons_succ])
            refine wpAnyH_take (i := 51) (oi := _) (v := undef) rfl (by kernel_rfl) (by kernel_rfl) (by kernel_rfl) (fun _ _ _ h => h) (Or.inr ⟨by rfl, rfl⟩) (by with_reducible assumption) ?rest51_50
            (try simp only [Act.put, List.getElem_toArray, List.getElem_cons_succ, List.getElem_cons_zero, List.setIfInBounds_toArray, List.set_cons_zero, List.set_cons_succ])
            refine wpAnyH_take (i := 52) (oi := _) (v := undef) rfl (by kernel_rfl) (by kernel_rfl) (by kernel_rfl) (fun _ _ _ h => h) (Or.inr ⟨by rfl, rfl⟩) (by with_reducible assumption) ?rest52_51
            (try simp only [Act.put, List.getElem_toArray, List.getElem_cons_succ, List.getElem_cons_zero, List.setIfInBounds_toArray, List.set_cons_zero, List.set_cons_succ])
            refine wpAnyH_take (i := 53) (oi := _) (v := undef) rfl (by kernel_rfl) (by kernel_rfl) (by kernel_rfl) (fun _ _ _ h => h) (Or.inr ⟨by rfl, rfl⟩) (by with_reducible assumption) ?rest53_52
            (try simp only [Act.put, List.getElem_toArray, List.getElem_cons_succ, List.getElem_cons_zero, List.setIfInBounds_toArray, List.set_cons_zero, List.set_cons_succ])
            refine wpAnyH_take (i := 54) (oi := _) (v := undef) rfl (by kernel_rfl) (by kernel_rfl) (by kernel_rfl) (fun _ _ _ h => h) (Or.inr ⟨by rfl, rfl⟩) (by with_reducible assumption) ?rest54_53
            (try simp only [Act.put, List.getElem_toArray, List.getElem_cons_succ, List.getElem_cons_zero, List.setIfInBounds_toArray, List.set_cons_zero, List.set_cons_succ])
            refine wpAnyH_take (i := 55) (oi := _) (v := ?v55_54) rfl (by kernel_rfl) (by kernel_rfl) (by kernel_rfl) (fun _ _ _ h => h) (Or.inl ⟨by rfl, ?hy55_54⟩) (by with_reducible assumption) ?rest55_54
            case hy55_54 => ((intro w hSw; (try dsimp only at hSw); go_simp); (try with_reducible rfl))
            (try simp only [Act.put, List.getElem_toArray, List.getElem_cons_succ, List.getElem_cons_zero, List.setIfInBounds_toArray, List.set_cons_zero, List.set_cons_succ])
            refine wpAnyH_take (i := 56) (oi := _) (v := ?v56_55) rfl (by kernel_rfl) (by kernel_rfl) (by kernel_rfl) (fun _ _ _ h => h) (Or.inl ⟨by rfl, ?hy56_55⟩) (by with_reducible assumption) ?rest56_55
            case hy56_55 => ((intro w hSw; (try dsimp only at hSw); go_simp); (try with_reducible rfl))
            (try simp only [Act.put, List.getElem_toArray, List.getElem_cons_succ, List.getElem_cons_zero, List.setIfInBounds_toArray, List.set_cons_zero, List.set_cons_succ])
            refine wpAnyH_take (i := 57) (oi := _) (v := ?v57_56) rfl (by kernel_rfl) (by kernel_rfl) (by kernel_rfl) (fun _ _ _ h => h) (Or.inl ⟨by rfl, ?hy57_56⟩) (by with_reducible assumption) ?rest57_56
            case hy57_56 => ((intro w hSw; (try dsimp only at hSw); go_simp); (try with_reducible rfl))
            (try simp only [Act.put, List.getElem_toArray, List.getElem_cons_succ, List.getElem_cons_zero, List.setIfInBounds_toArray, List.set_cons_zero, List.set_cons_succ])
            refine wpAnyH_done (by kernel_rfl) (NoPanic.normal ?_) _
            go_wp2_with fail
            go_meet
            exact ⟨by first | rfl | simp, (by assumption : _ ∧ Below w7.heap.size w7 _).2⟩
        case true =>
          exact absurd (b5 rfl).2 (by simp)
      case true =>
        cases dn
        case false =>
          have hr : chRes u d d.size (true && !false) = .tuple #[.agg #[.int .i64 u, .string d, .bool true], .bool true] := by unfold chRes; rw [if_neg (by simp)]; rfl
          rw [hr] at y4
          have Y4 := Lib.hid y4
          clear y4 hr
          have hde : d.toList.isEmpty = true := by rw [isEmpty_size, hd0]; rfl
          have hde2 : d.toList = [] := by simpa using hde
          clear hd0
          go_wp2_with fail
          refine (Y2.out _).mono ?_
          rintro e w2 ⟨rfl, hb2⟩
          have hz2 := hb2.size
          (try simp at hz2)
          have rs_2 : w2.heap[w1.heap.size]? = some (.cells #[.int .i64 u, .string d, .int .i64 s, .bool true, .bool fs, .bool false] 26 (0, 0)) := (hb2.block _ (by first | (simp; done) | (simp; omega))).trans (by repeat (first | exact heap_new _ _ _ (by first | rfl | (simp; done) | (simp; omega)) | refine (Below.heap_alloc _ _ _ (by first | omega | (simp; done) | (simp; omega))).trans ?_))
          have hw2 : Below w.heap.size w w2 := (by repeat (first | with_reducible exact Below.refl _ _ | with_reducible assumption | with_reducible refine Below.drew ?_ | with_reducible refine Below.alloc ?_ (by first | exact Nat.le_refl _ | omega | (simp; done) | (simp; omega)) _ | with_reducible refine Below.setCell ?_ (by first | exact Nat.le_refl _ | omega | (simp; done) | (simp; omega)) _ | (with_reducible refine ext_trans ?_ (by with_reducible assumption))))
          have lRs_2 : w1.heap.size < w2.heap.size := by omega
          have Rs_2 := Lib.hid rs_2
          have r0_rs_2 := cell_of_row _ _ 0 _ _ _ rs_2
          have r1_rs_2 := cell_of_row _ _ 1 _ _ _ rs_2
          have r2_rs_2 := cell_of_row _ _ 2 _ _ _ rs_2
          have r3_rs_2 := cell_of_row _ _ 3 _ _ _ rs_2
          have r4_rs_2 := cell_of_row _ _ 4 _ _ _ rs_2
          have r5_rs_2 := cell_of_row _ _ 5 _ _ _ rs_2
          have f0_rs_2 := frozen_of_row _ _ 0 _ _ rs_2
          have f1_rs_2 := frozen_of_row _ _ 1 _ _ rs_2
          have f2_rs_2 := frozen_of_row _ _ 2 _ _ rs_2
          have f3_rs_2 := frozen_of_row _ _ 3 _ _ rs_2
          have f4_rs_2 := frozen_of_row _ _ 4 _ _ rs_2
          have f5_rs_2 := frozen_of_row _ _ 5 _ _ rs_2
          simp at r0_rs_2 r1_rs_2 r2_rs_2 r3_rs_2 r4_rs_2 r5_rs_2
          clear rs_2
          go_wp2_with fail
          have hb3 : Below w2.heap.size w2 (w2.alloc (.cells #[.int .i64 u, .string d, .int .i64 0, .bool true, .bool false, .bool false] 26)) := (by repeat (first | with_reducible exact Below.refl _ _ | with_reducible assumption | with_reducible refine Below.drew ?_ | with_reducible refine Below.alloc ?_ (by first | exact Nat.le_refl _ | omega | (simp; done) | (simp; omega)) _ | with_reducible refine Below.setCell ?_ (by first | exact Nat.le_refl _ | omega | (simp; done) | (simp; omega)) _ | (with_reducible refine ext_trans ?_ (by with_reducible assumption))))
          have rx_3 : (w2.alloc (.cells #[.int .i64 u, .string d, .int .i64 0, .bool true, .bool false, .bool false] 26)).heap[w2.heap.size]? = some (.cells #[.int .i64 u, .string d, .int .i64 0, .bool true, .bool false, .bool false] 26 (0, 0)) := (by repeat (first | exact heap_new _ _ _ (by first | rfl | (simp; done) | (simp; omega)) | refine (Below.heap_alloc _ _ _ (by first | omega | (simp; done) | (simp; omega))).trans ?_))
          have lNx_3 : w2.heap.size < (w2.alloc (.cells #[.int .i64 u, .string d, .int .i64 0, .bool true, .bool false, .bool false] 26)).heap.size := by simp
          generalize (w2.alloc (.cells #[.int .i64 u, .string d, .int .i64 0, .bool true, .bool false, .bool false] 26)) = w3 at *
          have hz3 := hb3.size
          (try simp at hz3)
          have rs_3 := (hb3.block _ (by first | omega | (simp; done) | (simp; omega))).trans Rs_2.out
          have hw3 : Below w.heap.size w w3 := (by repeat (first | with_reducible exact Below.refl _ _ | with_reducible assumption | with_reducible refine Below.drew ?_ | with_reducible refine Below.alloc ?_ (by first | exact Nat.le_refl _ | omega | (simp; done) | (simp; omega)) _ | with_reducible refine Below.setCell ?_ (by first | exact Nat.le_refl _ | omega | (simp; done) | (simp; omega)) _ | (with_reducible refine ext_trans ?_ (by with_reducible assumption))))
          have lRs_3 : w1.heap.size < w3.heap.size := by omega
          have lRx_3 : w2.heap.size < w3.heap.size := by omega
          have Rs_3 := Lib.hid rs_3
          have r0_rs_3 := cell_of_row _ _ 0 _ _ _ rs_3
          have r1_rs_3 := cell_of_row _ _ 1 _ _ _ rs_3
          have r2_rs_3 := cell_of_row _ _ 2 _ _ _ rs_3
          have r3_rs_3 := cell_of_row _ _ 3 _ _ _ rs_3
          have r4_rs_3 := cell_of_row _ _ 4 _ _ _ rs_3
          have r5_rs_3 := cell_of_row _ _ 5 _ _ _ rs_3
          have f0_rs_3 := frozen_of_row _ _ 0 _ _ rs_3
          have f1_rs_3 := frozen_of_row _ _ 1 _ _ rs_3
          have f2_rs_3 := frozen_of_row _ _ 2 _ _ rs_3
          have f3_rs_3 := frozen_of_row _ _ 3 _ _ rs_3
          have f4_rs_3 := frozen_of_row _ _ 4 _ _ rs_3
          have f5_rs_3 := frozen_of_row _ _ 5 _ _ rs_3
          simp at r0_rs_3 r1_rs_3 r2_rs_3 r3_rs_3 r4_rs_3 r5_rs_3
          clear rs_3
          have Rx_3 := Lib.hid rx_3
          have r0_rx_3 := cell_of_row _ _ 0 _ _ _ rx_3
          have r1_rx_3 := cell_of_row _ _ 1 _ _ _ rx_3
          have r2_rx_3 := cell_of_row _ _ 2 _ _ _ rx_3
          have r3_rx_3 := cell_of_row _ _ 3 _ _ _ rx_3
          have r4_rx_3 := cell_of_row _ _ 4 _ _ _ rx_3
          have r5_rx_3 := cell_of_row _ _ 5 _ _ _ rx_3
          have f0_rx_3 := frozen_of_row _ _ 0 _ _ rx_3
          have f1_rx_3 := frozen_of_row _ _ 1 _ _ rx_3
          have f2_rx_3 := frozen_of_row _ _ 2 _ _ rx_3
          have f3_rx_3 := frozen_of_row _ _ 3 _ _ rx_3
          have f4_rx_3 := frozen_of_row _ _ 4 _ _ rx_3
          have f5_rx_3 := frozen_of_row _ _ 5 _ _ rx_3
          simp at r0_rx_3 r1_rx_3 r2_rx_3 r3_rx_3 r4_rx_3 r5_rx_3
          clear rx_3
          clear r0_rs_2 f0_rs_2 r1_rs_2 f1_rs_2 r2_rs_2 f2_rs_2 r3_rs_2 f3_rs_2 r4_rs_2 f4_rs_2 r5_rs_2 f5_rs_2
          go_wp2_with fail
          go_cut [16] (fun z wx => z = .bool false ∧ Below w3.heap.size w3 wx)
          case first =>
            first | go_region_held3 (fun w' => (∀ b' o, b' < (w3).heap.size → w'.cell? ⟨b', o, none⟩ = (w3).cell? ⟨b', o, none⟩) ∧ Below (w3).heap.size (w3) w') (first | with_reducible assumption | (with_reducible apply rg_keep; rotate_left; with_reducible assumption; with_reducible assumption) | with_reducible exact rg_start _ | with_reducible exact rg_alloc (KeptS.out (by with_reducible assumption)) _ | with_reducible exact rg_alloc (by with_reducible assumption) _ | with_reducible exact rg_start_alloc _ _ | ((repeat (with_reducible refine rg_set ?_ _ (by first | exact Nat.le_refl _ | omega | (simp; done) | (simp; omega)) _)); first | with_reducible exact KeptS.out (by with_reducible assumption) | with_reducible assumption | with_reducible exact rg_alloc (KeptS.out (by with_reducible assumption)) _)) (first | (go_at_call 20; ((with_reducible refine (Y1.out _).mono ?_); (rintro e wC ⟨rfl, hbC⟩; have hSC := rg_keepK (by first | with_reducible assumption | exact KeptS.out (by with_reducible assumption)) hbC)))) | fail
            all_goals (go_wp2_with fail; go_meet; exact ⟨rfl, (by assumption : _ ∧ Below w3.heap.size w3 wC).2⟩)
          case rest =>
          obtain ⟨rfl, hb4⟩ := hcut
          rename World => w4
          have hz4 := hb4.size
          (try simp at hz4)
          have rs_4 := (hb4.block _ (by first | omega | (simp; done) | (simp; omega))).trans Rs_3.out
          have rx_4 := (hb4.block _ (by first | omega | (simp; done) | (simp; omega))).trans Rx_3.out
          have hw4 : Below w.heap.size w w4 := (by repeat (first | with_reducible exact Below.refl _ _ | with_reducible assumption | with_reducible refine Below.drew ?_ | with_reducible refine Below.alloc ?_ (by first | exact Nat.le_refl _ | omega | (simp; done) | (simp; omega)) _ | with_reducible refine Below.setCell ?_ (by first | exact Nat.le_refl _ | omega | (simp; done) | (simp; omega)) _ | (with_reducible refine ext_trans ?_ (by with_reducible assumption))))
          have lRs_4 : w1.heap.size < w4.heap.size := by omega
          have lRx_4 : w2.heap.size < w4.heap.size := by omega
          have Rs_4 := Lib.hid rs_4
          have r0_rs_4 := cell_of_row _ _ 0 _ _ _ rs_4
          have r1_rs_4 := cell_of_row _ _ 1 _ _ _ rs_4
          have r2_rs_4 := cell_of_row _ _ 2 _ _ _ rs_4
          have r3_rs_4 := cell_of_row _ _ 3 _ _ _ rs_4
          have r4_rs_4 := cell_of_row _ _ 4 _ _ _ rs_4
          have r5_rs_4 := cell_of_row _ _ 5 _ _ _ rs_4
          have f0_rs_4 := frozen_of_row _ _ 0 _ _ rs_4
          have f1_rs_4 := frozen_of_row _ _ 1 _ _ rs_4
          have f2_rs_4 := frozen_of_row _ _ 2 _ _ rs_4
          have f3_rs_4 := frozen_of_row _ _ 3 _ _ rs_4
          have f4_rs_4 := frozen_of_row _ _ 4 _ _ rs_4
          have f5_rs_4 := frozen_of_row _ _ 5 _ _ rs_4
          simp at r0_rs_4 r1_rs_4 r2_rs_4 r3_rs_4 r4_rs_4 r5_rs_4
          clear rs_4
          have Rx_4 := Lib.hid rx_4
          have r0_rx_4 := cell_of_row _ _ 0 _ _ _ rx_4
          have r1_rx_4 := cell_of_row _ _ 1 _ _ _ rx_4
          have r2_rx_4 := cell_of_row _ _ 2 _ _ _ rx_4
          have r3_rx_4 := cell_of_row _ _ 3 _ _ _ rx_4
          have r4_rx_4 := cell_of_row _ _ 4 _ _ _ rx_4
          have r5_rx_4 := cell_of_row _ _ 5 _ _ _ rx_4
          have f0_rx_4 := frozen_of_row _ _ 0 _ _ rx_4
          have f1_rx_4 := frozen_of_row _ _ 1 _ _ rx_4
          have f2_rx_4 := frozen_of_row _ _ 2 _ _ rx_4
          have f3_rx_4 := frozen_of_row _ _ 3 _ _ rx_4
          have f4_rx_4 := frozen_of_row _ _ 4 _ _ rx_4
          have f5_rx_4 := frozen_of_row _ _ 5 _ _ rx_4
          simp at r0_rx_4 r1_rx_4 r2_rx_4 r3_rx_4 r4_rx_4 r5_rx_4
          clear rx_4
          clear r0_rs_3 f0_rs_3 r1_rs_3 f1_rs_3 r2_rs_3 f2_rs_3 r3_rs_3 f3_rs_3 r4_rs_3 f4_rs_3 r5_rs_3 f5_rs_3
          clear r0_rx_3 f0_rx_3 r1_rx_3 f1_rx_3 r2_rx_3 f2_rx_3 r3_rx_3 f3_rx_3 r4_rx_3 f4_rx_3 r5_rx_3 f5_rx_3
          go_wp2_with fail
          refine (Y3.out _).mono ?_
          rintro e w5 ⟨rfl, hb5⟩
          have hz5 := hb5.size
          (try simp at hz5)
          have rs_5 := (hb5.block _ (by first | omega | (simp; done) | (simp; omega))).trans Rs_4.out
          have rx_5 := (hb5.block _ (by first | omega | (simp; done) | (simp; omega))).trans Rx_4.out
          have hw5 : Below w.heap.size w w5 := (by repeat (first | with_reducible exact Below.refl _ _ | with_reducible assumption | with_reducible refine Below.drew ?_ | with_reducible refine Below.alloc ?_ (by first | exact Nat.le_refl _ | omega | (simp; done) | (simp; omega)) _ | with_reducible refine Below.setCell ?_ (by first | exact Nat.le_refl _ | omega | (simp; done) | (simp; omega)) _ | (with_reducible refine ext_trans ?_ (by with_reducible assumption))))
          have lRs_5 : w1.heap.size < w5.heap.size := by omega
          have lRx_5 : w2.heap.size < w5.heap.size := by omega
          have Rs_5 := Lib.hid rs_5
          have r0_rs_5 := cell_of_row _ _ 0 _ _ _ rs_5
          have r1_rs_5 := cell_of_row _ _ 1 _ _ _ rs_5
          have r2_rs_5 := cell_of_row _ _ 2 _ _ _ rs_5
          have r3_rs_5 := cell_of_row _ _ 3 _ _ _ rs_5
          have r4_rs_5 := cell_of_row _ _ 4 _ _ _ rs_5
          have r5_rs_5 := cell_of_row _ _ 5 _ _ _ rs_5
          have f0_rs_5 := frozen_of_row _ _ 0 _ _ rs_5
          have f1_rs_5 := frozen_of_row _ _ 1 _ _ rs_5
          have f2_rs_5 := frozen_of_row _ _ 2 _ _ rs_5
          have f3_rs_5 := frozen_of_row _ _ 3 _ _ rs_5
          have f4_rs_5 := frozen_of_row _ _ 4 _ _ rs_5
          have f5_rs_5 := frozen_of_row _ _ 5 _ _ rs_5
          simp at r0_rs_5 r1_rs_5 r2_rs_5 r3_rs_5 r4_rs_5 r5_rs_5
          clear rs_5
          have Rx_5 := Lib.hid rx_5
          have r0_rx_5 := cell_of_row _ _ 0 _ _ _ rx_5
          have r1_rx_5 := cell_of_row _ _ 1 _ _ _ rx_5
          have r2_rx_5 := cell_of_row _ _ 2 _ _ _ rx_5
          have r3_rx_5 := cell_of_row _ _ 3 _ _ _ rx_5
          have r4_rx_5 := cell_of_row _ _ 4 _ _ _ rx_5
          have r5_rx_5 := cell_of_row _ _ 5 _ _ _ rx_5
          have f0_rx_5 := frozen_of_row _ _ 0 _ _ rx_5
          have f1_rx_5 := frozen_of_row _ _ 1 _ _ rx_5
          have f2_rx_5 := frozen_of_row _ _ 2 _ _ rx_5
          have f3_rx_5 := frozen_of_row _ _ 3 _ _ rx_5
          have f4_rx_5 := frozen_of_row _ _ 4 _ _ rx_5
          have f5_rx_5 := frozen_of_row _ _ 5 _ _ rx_5
          simp at r0_rx_5 r1_rx_5 r2_rx_5 r3_rx_5 r4_rx_5 r5_rx_5
          clear rx_5
          clear r0_rs_4 f0_rs_4 r1_rs_4 f1_rs_4 r2_rs_4 f2_rs_4 r3_rs_4 f3_rs_4 r4_rs_4 f4_rs_4 r5_rs_4 f5_rs_4
          clear r0_rx_4 f0_rx_4 r1_rx_4 f1_rx_4 r2_rx_4 f2_rx_4 r3_rx_4 f3_rx_4 r4_rx_4 f4_rx_4 r5_rx_4 f5_rx_4
          go_wp2_with fail
          refine (Y4.out _).mono ?_
          rintro e w6 ⟨rfl, hb6⟩
          have hz6 := hb6.size
          (try simp at hz6)
          have rs_6 := (hb6.block _ (by first | omega | (simp; done) | (simp; omega))).trans Rs_5.out
          have rx_6 := (hb6.block _ (by first | omega | (simp; done) | (simp; omega))).trans Rx_5.out
          have hw6 : Below w.heap.size w w6 := (by repeat (first | with_reducible exact Below.refl _ _ | with_reducible assumption | with_reducible refine Below.drew ?_ | with_reducible refine Below.alloc ?_ (by first | exact Nat.le_refl _ | omega | (simp; done) | (simp; omega)) _ | with_reducible refine Below.setCell ?_ (by first | exact Nat.le_refl _ | omega | (simp; done) | (simp; omega)) _ | (with_reducible refine ext_trans ?_ (by with_reducible assumption))))
          have lRs_6 : w1.heap.size < w6.heap.size := by omega
          have lRx_6 : w2.heap.size < w6.heap.size := by omega
          have Rs_6 := Lib.hid rs_6
          have r0_rs_6 := cell_of_row _ _ 0 _ _ _ rs_6
          have r1_rs_6 := cell_of_row _ _ 1 _ _ _ rs_6
          have r2_rs_6 := cell_of_row _ _ 2 _ _ _ rs_6
          have r3_rs_6 := cell_of_row _ _ 3 _ _ _ rs_6
          have r4_rs_6 := cell_of_row _ _ 4 _ _ _ rs_6
          have r5_rs_6 := cell_of_row _ _ 5 _ _ _ rs_6
          have f0_rs_6 := frozen_of_row _ _ 0 _ _ rs_6
          have f1_rs_6 := frozen_of_row _ _ 1 _ _ rs_6
          have f2_rs_6 := frozen_of_row _ _ 2 _ _ rs_6
          have f3_rs_6 := frozen_of_row _ _ 3 _ _ rs_6
          have f4_rs_6 := frozen_of_row _ _ 4 _ _ rs_6
          have f5_rs_6 := frozen_of_row _ _ 5 _ _ rs_6
          simp at r0_rs_6 r1_rs_6 r2_rs_6 r3_rs_6 r4_rs_6 r5_rs_6
          clear rs_6
          have Rx_6 := Lib.hid rx_6
          have r0_rx_6 := cell_of_row _ _ 0 _ _ _ rx_6
          have r1_rx_6 := cell_of_row _ _ 1 _ _ _ rx_6
          have r2_rx_6 := cell_of_row _ _ 2 _ _ _ rx_6
          have r3_rx_6 := cell_of_row _ _ 3 _ _ _ rx_6
          have r4_rx_6 := cell_of_row _ _ 4 _ _ _ rx_6
          have r5_rx_6 := cell_of_row _ _ 5 _ _ _ rx_6
          have f0_rx_6 := frozen_of_row _ _ 0 _ _ rx_6
          have f1_rx_6 := frozen_of_row _ _ 1 _ _ rx_6
          have f2_rx_6 := frozen_of_row _ _ 2 _ _ rx_6
          have f3_rx_6 := frozen_of_row _ _ 3 _ _ rx_6
          have f4_rx_6 := frozen_of_row _ _ 4 _ _ rx_6
          have f5_rx_6 := frozen_of_row _ _ 5 _ _ rx_6
          simp at r0_rx_6 r1_rx_6 r2_rx_6 r3_rx_6 r4_rx_6 r5_rx_6
          clear rx_6
          clear r0_rs_5 f0_rs_5 r1_rs_5 f1_rs_5 r2_rs_5 f2_rs_5 r3_rs_5 f3_rs_5 r4_rs_5 f4_rs_5 r5_rs_5 f5_rs_5
          clear r0_rx_5 f0_rx_5 r1_rx_5 f1_rx_5 r2_rx_5 f2_rx_5 r3_rx_5 f3_rx_5 r4_rx_5 f4_rx_5 r5_rx_5 f5_rx_5
          go_wp2_with fail
          have hb7 : Below w6.heap.size w6 (w6.alloc (.cells #[.int .i64 u, .string d, .bool true] 39)) := (by repeat (first | with_reducible exact Below.refl _ _ | with_reducible assumption | with_reducible refine Below.drew ?_ | with_reducible refine Below.alloc ?_ (by first | exact Nat.le_refl _ | omega | (simp; done) | (simp; omega)) _ | with_reducible refine Below.setCell ?_ (by first | exact Nat.le_refl _ | omega | (simp; done) | (simp; omega)) _ | (with_reducible refine ext_trans ?_ (by with_reducible assumption))))
          have rc_7 : (w6.alloc (.cells #[.int .i64 u, .string d, .bool true] 39)).heap[w6.heap.size]? = some (.cells #[.int .i64 u, .string d, .bool true] 39 (0, 0)) := (by repeat (first | exact heap_new _ _ _ (by first | rfl | (simp; done) | (simp; omega)) | refine (Below.heap_alloc _ _ _ (by first | omega | (simp; done) | (simp; omega))).trans ?_))
          have lNc_7 : w6.heap.size < (w6.alloc (.cells #[.int .i64 u, .string d, .bool true] 39)).heap.size := by simp
          generalize (w6.alloc (.cells #[.int .i64 u, .string d, .bool true] 39)) = w7 at *
          have hz7 := hb7.size
          (try simp at hz7)
          have rs_7 := (hb7.block _ (by first | omega | (simp; done) | (simp; omega))).trans Rs_6.out
          have rx_7 := (hb7.block _ (by first | omega | (simp; done) | (simp; omega))).trans Rx_6.out
          have hw7 : Below w.heap.size w w7 := (by repeat (first | with_reducible exact Below.refl _ _ | with_reducible assumption | with_reducible refine Below.drew ?_ | with_reducible refine Below.alloc ?_ (by first | exact Nat.le_refl _ | omega | (simp; done) | (simp; omega)) _ | with_reducible refine Below.setCell ?_ (by first | exact Nat.le_refl _ | omega | (simp; done) | (simp; omega)) _ | (with_reducible refine ext_trans ?_ (by with_reducible assumption))))
          have lRs_7 : w1.heap.size < w7.heap.size := by omega
          have lRx_7 : w2.heap.size < w7.heap.size := by omega
          have lRc_7 : w6.heap.size < w7.heap.size := by omega
          have Rs_7 := Lib.hid rs_7
          have r0_rs_7 := cell_of_row _ _ 0 _ _ _ rs_7
          have r1_rs_7 := cell_of_row _ _ 1 _ _ _ rs_7
          have r2_rs_7 := cell_of_row _ _ 2 _ _ _ rs_7
          have r3_rs_7 := cell_of_row _ _ 3 _ _ _ rs_7
          have r4_rs_7 := cell_of_row _ _ 4 _ _ _ rs_7
          have r5_rs_7 := cell_of_row _ _ 5 _ _ _ rs_7
          have f0_rs_7 := frozen_of_row _ _ 0 _ _ rs_7
          have f1_rs_7 := frozen_of_row _ _ 1 _ _ rs_7
          have f2_rs_7 := frozen_of_row _ _ 2 _ _ rs_7
          have f3_rs_7 := frozen_of_row _ _ 3 _ _ rs_7
          have f4_rs_7 := frozen_of_row _ _ 4 _ _ rs_7
          have f5_rs_7 := frozen_of_row _ _ 5 _ _ rs_7
          simp at r0_rs_7 r1_rs_7 r2_rs_7 r3_rs_7 r4_rs_7 r5_rs_7
          clear rs_7
          have Rx_7 := Lib.hid rx_7
          have r0_rx_7 := cell_of_row _ _ 0 _ _ _ rx_7
          have r1_rx_7 := cell_of_row _ _ 1 _ _ _ rx_7
          have r2_rx_7 := cell_of_row _ _ 2 _ _ _ rx_7
          have r3_rx_7 := cell_of_row _ _ 3 _ _ _ rx_7
          have r4_rx_7 := cell_of_row _ _ 4 _ _ _ rx_7
          have r5_rx_7 := cell_of_row _ _ 5 _ _ _ rx_7
          have f0_rx_7 := frozen_of_row _ _ 0 _ _ rx_7
          have f1_rx_7 := frozen_of_row _ _ 1 _ _ rx_7
          have f2_rx_7 := frozen_of_row _ _ 2 _ _ rx_7
          have f3_rx_7 := frozen_of_row _ _ 3 _ _ rx_7
          have f4_rx_7 := frozen_of_row _ _ 4 _ _ rx_7
          have f5_rx_7 := frozen_of_row _ _ 5 _ _ rx_7
          simp at r0_rx_7 r1_rx_7 r2_rx_7 r3_rx_7 r4_rx_7 r5_rx_7
          clear rx_7
          have Rc_7 := Lib.hid rc_7
          have r0_rc_7 := cell_of_row _ _ 0 _ _ _ rc_7
          have r1_rc_7 := cell_of_row _ _ 1 _ _ _ rc_7
          have r2_rc_7 := cell_of_row _ _ 2 _ _ _ rc_7
          have f0_rc_7 := frozen_of_row _ _ 0 _ _ rc_7
          have f1_rc_7 := frozen_of_row _ _ 1 _ _ rc_7
          have f2_rc_7 := frozen_of_row _ _ 2 _ _ rc_7
          simp at r0_rc_7 r1_rc_7 r2_rc_7
          clear rc_7
          clear r0_rs_6 f0_rs_6 r1_rs_6 f1_rs_6 r2_rs_6 f2_rs_6 r3_rs_6 f3_rs_6 r4_rs_6 f4_rs_6 r5_rs_6 f5_rs_6
          clear r0_rx_6 f0_rx_6 r1_rx_6 f1_rx_6 r2_rx_6 f2_rx_6 r3_rx_6 f3_rx_6 r4_rx_6 f4_rx_6 r5_rx_6 f5_rx_6
          go_wp2_with fail
          go_cut [2] (fun z wx => z = .bool true ∧ Below w7.heap.size w7 wx)
          case rest =>
            obtain ⟨rfl, hbz⟩ := hcut
            go_wp2_with fail
            go_ret
            exact ⟨rfl, hw7.trans (hbz.mono hw7.size)⟩
          case first =>
            refine wp_region_noPanic ?_
            refine wp_region_held_drew (S := (fun w' => (∀ b' o, b' < w7.heap.size → w'.cell? ⟨b', o, none⟩ = w7.cell? ⟨b', o, none⟩) ∧ Below w7.heap.size w7 w')) (by kernel_rfl) (by first | exact rg_start _) (fun hHeld => ?_)
            refine wpAnyH_take (i := 0) (oi := _) (v := ?v0_57) rfl (by kernel_rfl) (by kernel_rfl) (by kernel_rfl) (fun _ _ _ h => h) (Or.inl ⟨by rfl, ?hy0_57⟩) (by with_reducible assumption) ?rest0_57
            case hy0_57 => ((intro w hSw; (try dsimp only at hSw); go_simp); (try with_reducible rfl))
            (try simp only [Act.put, List.getElem_toArray, List.getElem_cons_succ, List.getElem_cons_zero, List.setIfInBounds_toArray, List.set_cons_zero, List.set_cons_succ])
            refine wpAnyH_ready (rs := [1]) (by kernel_rfl) (by simp) ?_
            refine AllReadyH.cons (o := _) rfl (fun K hK => ?_) AllReadyH.nil
            go_simp
            go_at_call 19; ((with_reducible refine (Y5.out _).mono ?_); (rintro e wq3 ⟨rfl, hbq3⟩; have hSq3 := rg_keepK (by with_reducible assumption) hbq3))
            go_wp2_with fail
            refine hK.out _ _ ?_ (fun hHeld => ?_)
            · (try dsimp only); (first | with_reducible assumption | (with_reducible apply rg_keep; rotate_left; with_reducible assumption; with_reducible assumption) | with_reducible exact rg_start _ | with_reducible exact rg_alloc (KeptS.out (by with_reducible assumption)) _ | with_reducible exact rg_alloc (by with_reducible assumption) _ | with_reducible exact rg_start_alloc _ _ | ((repeat (with_reducible refine rg_set ?_ _ (by first | exact Nat.le_refl _ | omega | (simp; done) | (simp; omega)) _)); first | with_reducible exact KeptS.out (by with_reducible assumption) | with_reducible assumption | with_reducible exact rg_alloc (KeptS.out (by with_reducible assumption)) _))
            clear hK K
            (try simp only [Act.put, List.getElem_toArray, List.getElem_cons_succ, List.getElem_cons_zero, List.setIfInBounds_toArray, List.set_cons_zero, List.set_cons_succ])
            refine wpAnyH_take (i := 2) (oi := _) (v := ?v2_58) rfl (by kernel_rfl) (by kernel_rfl) (by kernel_rfl) (fun _ _ _ h => h) (Or.inl ⟨by rfl, ?hy2_58⟩) (by with_reducible assumption) ?rest2_58
            case hy2_58 => ((intro w hSw; (try dsimp only at hSw); go_simp); (try with_reducible rfl))
            (try simp only [Act.put, List.getElem_toArray, List.getElem_cons_succ, List.getElem_cons_zero, List.setIfInBounds_toArray, List.set_cons_zero, List.set_cons_succ])
            refine wpAnyH_take (i := 3) (oi := _) (v := ?v3_59) rfl (by kernel_rfl) (by kernel_rfl) (by kernel_rfl) (fun _ _ _ h => h) (Or.inl ⟨by rfl, ?hy3_59⟩) (by with_reducible assumption) ?rest3_59
            case hy3_59 => ((intro w hSw; (try dsimp only at hSw); go_simp); (try with_reducible rfl))
            (try simp only [Act.put, List.getElem_toArray, List.getElem_cons_succ, List.getElem_cons_zero, List.setIfInBounds_toArray, List.set_cons_zero, List.set_cons_succ])
            refine wpAnyH_take (i := 5) (oi := _) (v := ?v5_60) rfl (by kernel_rfl) (by kernel_rfl) (by kernel_rfl) (fun _ _ _ h => h) (Or.inl ⟨by rfl, ?hy5_60⟩) (by with_reducible assumption) ?rest5_60
            case hy5_60 => ((intro w hSw; (try dsimp only at hSw); go_simp); (try with_reducible rfl))
            (try simp only [Act.put, List.getElem_toArray, List.getElem_cons_succ, List.getElem_cons_zero, List.setIfInBounds_toArray, List.set_cons_zero, List.set_cons_succ])
            refine wpAnyH_take (i := 6) (oi := _) (v := ?v6_61) rfl (by kernel_rfl) (by kernel_rfl) (by kernel_rfl) (fun _ _ _ h => h) (Or.inl ⟨by rfl, ?hy6_61⟩) (by with_reducible assumption) ?rest6_61
            case hy6_61 => ((intro w hSw; (try dsimp only at hSw); go_simp); (try with_reducible rfl))
            (try simp only [Act.put, List.getElem_toArray, List.getElem_cons_succ, List.getElem_cons_zero, List.setIfInBounds_toArray, List.set_cons_zero, List.set_cons_succ])
            refine wpAnyH_ready (rs := [4]) (by kernel_rfl) (by simp) ?_
            refine AllReadyH.cons (o := _) rfl (fun K hK => ?_) AllReadyH.nil
            go_simp
            go_at_call 17; ((with_reducible refine (Y6.out _).mono ?_); (rintro e wq4 ⟨rfl, hbq4⟩; have hSq4 := rg_keepK (by with_reducible assumption) hbq4))
            go_wp2_with fail
            refine hK.out _ _ ?_ (fun hHeld => ?_)
            · (try dsimp only); (first | with_reducible assumption | (with_reducible apply rg_keep; rotate_left; with_reducible assumption; with_reducible assumption) | with_reducible exact rg_start _ | with_reducible exact rg_alloc (KeptS.out (by with_reducible assumption)) _ | with_reducible exact rg_alloc (by with_reducible assumption) _ | with_reducible exact rg_start_alloc _ _ | ((repeat (with_reducible refine rg_set ?_ _ (by first | exact Nat.le_refl _ | omega | (simp; done) | (simp; omega)) _)); first | with_reducible exact KeptS.out (by with_reducible assumption) | with_reducible assumption | with_reducible exact rg_alloc (KeptS.out (by with_reducible assumption)) _))
            clear hK K
            (try simp only [Act.put, List.getElem_toArray, List.getElem_cons_succ, List.getElem_cons_zero, List.setIfInBounds_toArray, List.set_cons_zero, List.set_cons_succ])
            refine wpAnyH_take (i := 7) (oi := _) (v := ?v7_62) rfl (by kernel_rfl) (by kernel_rfl) (by kernel_rfl) (fun _ _ _ h => h) (Or.inl ⟨by rfl, ?hy7_62⟩) (by with_reducible assumption) ?rest7_62
            case hy7_62 => ((intro w hSw; (try dsimp only at hSw); go_simp); (try with_reducible rfl))
            (try simp only [Act.put, List.getElem_toArray, List.getElem_cons_succ, List.getElem_cons_zero, List.setIfInBounds_toArray, List.set_cons_zero, List.set_cons_succ])
            refine wpAnyH_take (i := 8) (oi := _) (v := ?v8_63) rfl (by kernel_rfl) (by kernel_rfl) (by kernel_rfl) (fun _ _ _ h => h) (Or.inl ⟨by rfl, ?hy8_63⟩) (by with_reducible assumption) ?rest8_63
            case hy8_63 => ((intro w hSw; (try dsimp only at hSw); go_simp); (try with_reducible rfl))
            (try simp only [Act.put, List.getElem_toArray, List.getElem_cons_succ, List.getElem_cons_zero, List.setIfInBounds_toArray, List.set_cons_zero, List.set_cons_succ])
            refine wpAnyH_take (i := 9) (oi := _) (v := ?v9_64) rfl (by kernel_rfl) (by kernel_rfl) (by kernel_rfl) (fun _ _ _ h => h) (Or.inl ⟨by rfl, ?hy9_64⟩) (by with_reducible assumption) ?rest9_64
            case hy9_64 => ((intro w hSw; (try dsimp only at hSw); go_simp); (try with_reducible rfl))
            (try simp only [Act.put, List.getElem_toArray, List.getElem_cons_succ, List.getElem_cons_zero, List.setIfInBounds_toArray, List.set_cons_zero, List.set_cons_succ])
            refine wpAnyH_take (i := 10) (oi := _) (v := ?v10_65) rfl (by kernel_rfl) (by kernel_rfl) (by kernel_rfl) (fun _ _ _ h => h) (Or.inl ⟨by rfl, ?hy10_65⟩) (by with_reducible assumption) ?rest10_65
            case hy10_65 => ((intro w hSw; (try dsimp only at hSw); go_simp); (try with_reducible rfl))
            (try simp only [Act.put, List.getElem_toArray, List.getElem_cons_succ, List.getElem_cons_zero, List.setIfInBounds_toArray, List.set_cons_zero, List.set_cons_succ])
            refine wpAnyH_take (i := 11) (oi := _) (v := ?v11_66) rfl (by kernel_rfl) (by kernel_rfl) (by kernel_rfl) (fun _ _ _ h => h) (Or.inl ⟨by rfl, ?hy11_66⟩) (by with_reducible assumption) ?rest11_66
            case hy11_66 => ((intro w hSw; (try dsimp only at hSw); go_simp); (try with_reducible rfl))
            (try simp only [Act.put, List.getElem_toArray, List.getElem_cons_succ, List.getElem_cons_zero, List.setIfInBounds_toArray, List.set_cons_zero, List.set_cons_succ])
            refine wpAnyH_take (i := 12) (oi := _) (v := ?v12_67) rfl (by kernel_rfl) (by kernel_rfl) (by kernel_rfl) (fun _ _ _ h => h) (Or.inl ⟨by rfl, ?hy12_67⟩) (by with_reducible assumption) ?rest12_67
            case hy12_67 => ((intro w hSw; (try dsimp only at hSw); go_simp); (try with_reducible rfl))
            (try simp only [Act.put, List.getElem_toArray, List.getElem_cons_succ, List.getElem_cons_zero, List.setIfInBounds_toArray, List.set_cons_zero, List.set_cons_succ])
            refine wpAnyH_take (i := 13) (oi := _) (v := ?v13_68) rfl (by kernel_rfl) (by kernel_rfl) (by kernel_rfl) (fun _ _ _ h => h) (Or.inl ⟨by rfl, ?hy13_68⟩) (by with_reducible assumption) ?rest13_68
            case hy13_68 => ((intro w hSw; (try dsimp only at hSw); go_simp); (try with_reducible rfl))
            (try simp only [Act.put, List.getElem_toArray, List.getElem_cons_succ, List.getElem_cons_zero, List.setIfInBounds_toArray, List.set_cons_zero, List.set_cons_succ])
            refine wpAnyH_take (i := 14) (oi := _) (v := ?v14_69) rfl (by kernel_rfl) (by kernel_rfl) (by kernel_rfl) (fun _ _ _ h => h) (Or.inl ⟨by rfl, ?hy14_69⟩) (by with_reducible assumption) ?rest14_69
            case hy14_69 => ((intro w hSw; (try dsimp only at hSw); go_simp); (try with_reducible rfl))
            (try simp only [Act.put, List.getElem_toArray, List.getElem_cons_succ, List.getElem_cons_zero, List.setIfInBounds_toArray, List.set_cons_zero, List.set_cons_succ])
            refine wpAnyH_take (i := 15) (oi := _) (v := ?v15_70) rfl (by kernel_rfl) (by kernel_rfl) (by kernel_rfl) (fun _ _ _ h => h) (Or.inl ⟨by rfl, ?hy15_70⟩) (by with_reducible assumption) ?rest15_70
            case hy15_70 => ((intro w hSw; (try dsimp only at hSw); go_simp); (try with_reducible rfl))
            (try simp only [Act.put, List.getElem_toArray, List.getElem_cons_succ, List.getElem_cons_zero, List.setIfInBounds_toArray, List.set_cons_zero, List.set_cons_succ])
            refine wpAnyH_take (i := 16) (oi := _) (v := ?v16_71) rfl (by kernel_rfl) (by kernel_rfl) (by kernel_rfl) (fun _ _ _ h => h) (Or.inl ⟨by rfl, ?hy16_71⟩) (by with_reducible assumption) ?rest16_71
            case hy16_71 => ((intro w hSw; (try dsimp only at hSw); go_simp); (try with_reducible rfl))
            (try simp only [Act.put, List.getElem_toArray, List.getElem_cons_succ, List.getElem_cons_zero, List.setIfInBounds_toArray, List.set_cons_zero, List.set_cons_succ])
            refine wpAnyH_take (i := 17) (oi := _) (v := ?v17_72) rfl (by kernel_rfl) (by kernel_rfl) (by kernel_rfl) (fun _ _ _ h => h) (Or.inl ⟨by rfl, ?hy17_72⟩) (by with_reducible assumption) ?rest17_72
            case hy17_72 => ((intro w hSw; (try dsimp only at hSw); go_simp); (try with_reducible rfl))
            (try simp only [Act.put, List.getElem_toArray, List.getElem_cons_succ, List.getElem_cons_zero, List.setIfInBounds_toArray, List.set_cons_zero, List.set_cons_succ])
            refine wpAnyH_take (i := 18) (oi := _) (v := ?v18_73) rfl (by kernel_rfl) (by kernel_rfl) (by kernel_rfl) (fun _ _ _ h => h) (Or.inl ⟨by rfl, ?hy18_73⟩) (by with_reducible assumption) ?rest18_73
            case hy18_73 => ((intro w hSw; (try dsimp only at hSw); go_simp); (try with_reducible rfl))
            (try simp only [Act.put, List.getElem_toArray, List.getElem_cons_succ, List.getElem_cons_zero, List.setIfInBounds_toArray, List.set_cons_zero, List.set_cons_succ])
            refine wpAnyH_take (i := 19) (oi := _) (v := ?v19_74) rfl (by kernel_rfl) (by kernel_rfl) (by kernel_rfl) (fun _ _ _ h => h) (Or.inl ⟨by rfl, ?hy19_74⟩) (by with_reducible assumption) ?rest19_74
            case hy19_74 => ((intro w hSw; (try dsimp only at hSw); go_simp); (try with_reducible rfl))
            (try simp only [Act.put, List.getElem_toArray, List.getElem_cons_succ, List.getElem_cons_zero, List.setIfInBounds_toArray, List.set_cons_zero, List.set_cons_succ])
            refine wpAnyH_take (i := 20) (oi := _) (v := ?v20_75) rfl (by kernel_rfl) (by kernel_rfl) (by kernel_rfl) (fun _ _ _ h => h) (Or.inl ⟨by rfl, ?hy20_75⟩) (by with_reducible assumption) ?rest20_75
            case hy20_75 => ((intro w hSw; (try dsimp only at hSw); go_simp); (try with_reducible rfl))
            (try simp only [Act.put, List.getElem_toArray, List.getElem_cons_succ, List.getElem_cons_zero, List.setIfInBounds_toArray, List.set_cons_zero, List.set_cons_succ])
            refine wpAnyH_take (i := 21) (oi := _) (v := ?v21_76) rfl (by kernel_rfl) (by kernel_rfl) (by kernel_rfl) (fun _ _ _ h => h) (Or.inl ⟨by rfl, ?hy21_76⟩) (by with_reducible assumption) ?rest21_76
            case hy21_76 => ((intro w hSw; (try dsimp only at hSw); go_simp); (try with_reducible rfl))
            (try simp only [Act.put, List.getElem_toArray, List.getElem_cons_succ, List.getElem_cons_zero, List.setIfInBounds_toArray, List.set_cons_zero, List.set_cons_succ])
            refine wpAnyH_take (i := 22) (oi := _) (v := ?v22_77) rfl (by kernel_rfl) (by kernel_rfl) (by kernel_rfl) (fun _ _ _ h => h) (Or.inl ⟨by rfl, ?hy22_77⟩) (by with_reducible assumption) ?rest22_77
            case hy22_77 => ((intro w hSw; (try dsimp only at hSw); go_simp); (try with_reducible rfl))
            (try simp only [Act.put, List.getElem_toArray, List.getElem_cons_succ, List.getElem_cons_zero, List.setIfInBounds_toArray, List.set_cons_zero, List.set_cons_succ])
            refine wpAnyH_take (i := 23) (oi := _) (v := ?v23_78) rfl (by kernel_rfl) (by kernel_rfl) (by kernel_rfl) (fun _ _ _ h => h) (Or.inl ⟨by rfl, ?hy23_78⟩) (by with_reducible assumption) ?rest23_78
            case hy23_78 => ((intro w hSw; (try dsimp only at hSw); go_simp); (try with_reducible rfl))
            (try simp only [Act.put, List.getElem_toArray, List.getElem_cons_succ, List.getElem_cons_zero, List.setIfInBounds_toArray, List.set_cons_zero, List.set_cons_succ])
            refine wpAnyH_take (i := 24) (oi := _) (v := ?v24_79) rfl (by kernel_rfl) (by kernel_rfl) (by kernel_rfl) (fun _ _ _ h => h) (Or.inl ⟨by rfl, ?hy24_79⟩) (by with_reducible assumption) ?rest24_79
            case hy24_79 => ((intro w hSw; (try dsimp only at hSw); go_simp); (try with_reducible rfl))
            (try simp only [Act.put, List.getElem_toArray, List.getElem_cons_succ, List.getElem_cons_zero, List.setIfInBounds_toArray, List.set_cons_zero, List.set_cons_succ])
            refine wpAnyH_take (i := 25) (oi := _) (v := ?v25_80) rfl (by kernel_rfl) (by kernel_rfl) (by kernel_rfl) (fun _ _ _ h => h) (Or.inl ⟨by rfl, ?hy25_80⟩) (by with_reducible assumption) ?rest25_80
            case hy25_80 => ((intro w hSw; (try dsimp only at hSw); go_simp); (try with_reducible rfl))
            (try simp only [Act.put, List.getElem_toArray, List.getElem_cons_succ, List.getElem_cons_zero, List.setIfInBounds_toArray, List.set_cons_zero, List.set_cons_succ])
            refine wpAnyH_take (i := 26) (oi := _) (v := ?v26_81) rfl (by kernel_rfl) (by kernel_rfl) (by kernel_rfl) (fun _ _ _ h => h) (Or.inl ⟨by rfl, ?hy26_81⟩) (by with_reducible assumption) ?rest26_81
            case hy26_81 => ((intro w hSw; (try dsimp only at hSw); go_simp); (try with_reducible rfl))
            (try simp only [Act.put, List.getElem_toArray, List.getElem_cons_succ, List.getElem_cons_zero, List.setIfInBounds_toArray, List.set_cons_zero, List.set_cons_succ])
            refine wpAnyH_take (i := 27) (oi := _) (v := ?v27_82) rfl (by kernel_rfl) (by kernel_rfl) (by kernel_rfl) (fun _ _ _ h => h) (Or.inl ⟨by rfl, ?hy27_82⟩) (by with_reducible assumption) ?rest27_82
            case hy27_82 => ((intro w hSw; (try dsimp only at hSw); go_simp); (try with_reducible rfl))
            (try simp only [Act.put, List.getElem_toArray, List.getElem_cons_succ, List.getElem_cons_zero, List.setIfInBounds_toArray, List.set_cons_zero, List.set_cons_succ])
            refine wpAnyH_take (i := 28) (oi := _) (v := ?v28_83) rfl (by kernel_rfl) (by kernel_rfl) (by kernel_rfl) (fun _ _ _ h => h) (Or.inl ⟨by rfl, ?hy28_83⟩) (by with_reducible assumption) ?rest28_83
            case hy28_83 => ((intro w hSw; (try dsimp only at hSw); go_simp); (try with_reducible rfl))
            (try simp only [Act.put, List.getElem_toArray, List.getElem_cons_succ, List.getElem_cons_zero, List.setIfInBounds_toArray, List.set_cons_zero, List.set_cons_succ])
            refine wpAnyH_take (i := 29) (oi := _) (v := ?v29_84) rfl (by kernel_rfl) (by kernel_rfl) (by kernel_rfl) (fun _ _ _ h => h) (Or.inl ⟨by rfl, ?hy29_84⟩) (by with_reducible assumption) ?rest29_84
            case hy29_84 => ((intro w hSw; (try dsimp only at hSw); go_simp); (try with_reducible rfl))
            (try simp only [Act.put, List.getElem_toArray, List.getElem_cons_succ, List.getElem_cons_zero, List.setIfInBounds_toArray, List.set_cons_zero, List.set_cons_succ])
            refine wpAnyH_take (i := 30) (oi := _) (v := ?v30_85) rfl (by kernel_rfl) (by kernel_rfl) (by kernel_rfl) (fun _ _ _ h => h) (Or.inl ⟨by rfl, ?hy30_85⟩) (by with_reducible assumption) ?rest30_85
            case hy30_85 => ((intro w hSw; (try dsimp only at hSw); go_simp); (try with_reducible rfl))
            (try simp only [Act.put, List.getElem_toArray, List.getElem_cons_succ, List.getElem_cons_zero, List.setIfInBounds_toArray, List.set_cons_zero, List.set_cons_succ])
            refine wpAnyH_take (i := 31) (oi := _) (v := ?v31_86) rfl (by kernel_rfl) (by kernel_rfl) (by kernel_rfl) (fun _ _ _ h => h) (Or.inl ⟨by rfl, ?hy31_86⟩) (by with_reducible assumption) ?rest31_86
            case hy31_86 => ((intro w hSw; (try dsimp only at hSw); go_simp); (try with_reducible rfl))
            (try simp only [Act.put, List.getElem_toArray, List.getElem_cons_succ, List.getElem_cons_zero, List.setIfInBounds_toArray, List.set_cons_zero, List.set_cons_succ])
            refine wpAnyH_take (i := 32) (oi := _) (v := ?v32_87) rfl (by kernel_rfl) (by kernel_rfl) (by kernel_rfl) (fun _ _ _ h => h) (Or.inl ⟨by rfl, ?hy32_87⟩) (by with_reducible assumption) ?rest32_87
            case hy32_87 => ((intro w hSw; (try dsimp only at hSw); go_simp); (try with_reducible rfl))
            (try simp only [Act.put, List.getElem_toArray, List.getElem_cons_succ, List.getElem_cons_zero, List.setIfInBounds_toArray, List.set_cons_zero, List.set_cons_succ])
            refine wpAnyH_take (i := 33) (oi := _) (v := ?v33_88) rfl (by kernel_rfl) (by kernel_rfl) (by kernel_rfl) (fun _ _ _ h => h) (Or.inl ⟨by rfl, ?hy33_88⟩) (by with_reducible assumption) ?rest33_88
            case hy33_88 => ((intro w hSw; (try dsimp only at hSw); go_simp); (try with_reducible rfl))
            (try simp only [Act.put, List.getElem_toArray, List.getElem_cons_succ, List.getElem_cons_zero, List.setIfInBounds_toArray, List.set_cons_zero, List.set_cons_succ])
            refine wpAnyH_take (i := 34) (oi := _) (v := ?v34_89) rfl (by kernel_rfl) (by kernel_rfl) (by kernel_rfl) (fun _ _ _ h => h) (Or.inl ⟨by rfl, ?hy34_89⟩) (by with_reducible assumption) ?rest34_89
            case hy34_89 => ((intro w hSw; (try dsimp only at hSw); go_simp); (try with_reducible rfl))
            (try simp only [Act.put, List.getElem_toArray, List.getElem_cons_succ, List.getElem_cons_zero, List.setIfInBounds_toArray, List.set_cons_zero, List.set_cons_succ])
            refine wpAnyH_take (i := 35) (oi := _) (v := ?v35_90) rfl (by kernel_rfl) (by kernel_rfl) (by kernel_rfl) (fun _ _ _ h => h) (Or.inl ⟨by rfl, ?hy35_90⟩) (by with_reducible assumption) ?rest35_90
            case hy35_90 => ((intro w hSw; (try dsimp only at hSw); go_simp); (try with_reducible rfl))
            (try simp only [Act.put, List.getElem_toArray, List.getElem_cons_succ, List.getElem_cons_zero, List.setIfInBounds_toArray, List.set_cons_zero, List.set_cons_succ])
            refine wpAnyH_take (i := 36) (oi := _) (v := ?v36_91) rfl (by kernel_rfl) (by kernel_rfl) (by kernel_rfl) (fun _ _ _ h => h) (Or.inl ⟨by rfl, ?hy36_91⟩) (by with_reducible assumption) ?rest36_91
            case hy36_91 => ((intro w hSw; (try dsimp only at hSw); go_simp); (try with_reducible rfl))
            (try simp only [Act.put, List.getElem_toArray, List.getElem_cons_succ, List.getElem_cons_zero, List.setIfInBounds_toArray, List.set_cons_zero, List.set_cons_succ])
            refine wpAnyH_take (i := 37) (oi := _) (v := ?v37_92) rfl (by kernel_rfl) (by kernel_rfl) (by kernel_rfl) (fun _ _ _ h => h) (Or.inl ⟨by rfl, ?hy37_92⟩) (by with_reducible assumption) ?rest37_92
            case hy37_92 => ((intro w hSw; (try dsimp only at hSw); go_simp); (try with_reducible rfl))
            (try simp only [Act.put, List.getElem_toArray, List.getElem_cons_succ, List.getElem_cons_zero, List.setIfInBounds_toArray, List.set_cons_zero, List.set_cons_succ])
            refine wpAnyH_take (i := 38) (oi := _) (v := ?v38_93) rfl (by kernel_rfl) (by kernel_rfl) (by kernel_rfl) (fun _ _ _ h => h) (Or.inl ⟨by rfl, ?hy38_93⟩) (by with_reducible assumption) ?rest38_93
            case hy38_93 => ((intro w hSw; (try dsimp only at hSw); go_simp); (try with_reducible rfl))
            (try simp only [Act.put, List.getElem_toArray, List.getElem_cons_succ, List.getElem_cons_zero, List.setIfInBounds_toArray, List.set_cons_zero, List.set_cons_succ])
            refine wpAnyH_take (i := 39) (oi := _) (v := ?v39_94) rfl (by kernel_rfl) (by kernel_rfl) (by kernel_rfl) (fun _ _ _ h => h) (Or.inl ⟨by rfl, ?hy39_94⟩) (by with_reducible assumption) ?rest39_94
            case hy39_94 => ((intro w hSw; (try dsimp only at hSw); go_simp); (try with_reducible rfl))
            (try simp only [Act.put, List.getElem_toArray, List.getElem_cons_succ, List.getElem_cons_zero, List.setIfInBounds_toArray, List.set_cons_zero, List.set_cons_succ])
            refine wpAnyH_take (i := 40) (oi := _) (v := ?v40_95) rfl (by kernel_rfl) (by kernel_rfl) (by kernel_rfl) (fun _ _ _ h => h) (Or.inl ⟨by rfl, ?hy40_95⟩) (by with_reducible assumption) ?rest40_95
            case hy40_95 => ((intro w hSw; (try dsimp only at hSw); go_simp); (try with_reducible rfl))
            (try simp only [Act.put, List.getElem_toArray, List.getElem_cons_succ, List.getElem_cons_zero, List.setIfInBounds_toArray, List.set_cons_zero, List.set_cons_succ])
            refine wpAnyH_take (i := 41) (oi := _) (v := ?v41_96) rfl (by kernel_rfl) (by kernel_rfl) (by kernel_rfl) (fun _ _ _ h => h) (Or.inl ⟨by rfl, ?hy41_96⟩) (by with_reducible assumption) ?rest41_96
            case hy41_96 => ((intro w hSw; (try dsimp only at hSw); go_simp); (try with_reducible rfl))
            (try simp only [Act.put, List.getElem_toArray, List.getElem_cons_succ, List.getElem_cons_zero, List.setIfInBounds_toArray, List.set_cons_zero, List.set_cons_succ])
            refine wpAnyH_take (i := 42) (oi := _) (v := ?v42_97) rfl (by kernel_rfl) (by kernel_rfl) (by kernel_rfl) (fun _ _ _ h => h) (Or.inl ⟨by rfl, ?hy42_97⟩) (by with_reducible assumption) ?rest42_97
            case hy42_97 => ((intro w hSw; (try dsimp only at hSw); go_simp); (try with_reducible rfl))
            (try simp only [Act.put, List.getElem_toArray, List.getElem_cons_succ, List.getElem_cons_zero, List.setIfInBounds_toArray, List.set_cons_zero, List.set_cons_succ])
            refine wpAnyH_take (i := 43) (oi := _) (v := ?v43_98) rfl (by kernel_rfl) (by kernel_rfl) (by kernel_rfl) (fun _ _ _ h => h) (Or.inl ⟨by rfl, ?hy43_98⟩) (by with_reducible assumption) ?rest43_98
            case hy43_98 => ((intro w hSw; (try dsimp only at hSw); go_simp); (try with_reducible rfl))
            (try simp only [Act.put, List.getElem_toArray, List.getElem_cons_succ, List.getElem_cons_zero, List.setIfInBounds_toArray, List.set_cons_zero, List.set_cons_succ])
            refine wpAnyH_take (i := 44) (oi := _) (v := ?v44_99) rfl (by kernel_rfl) (by kernel_rfl) (by kernel_rfl) (fun _ _ _ h => h) (Or.inl ⟨by rfl, ?hy44_99⟩) (by with_reducible assumption) ?rest44_99
            case hy44_99 => ((intro w hSw; (try dsimp only at hSw); go_simp); (try with_reducible rfl))
            (try simp only [Act.put, List.getElem_toArray, List.getElem_cons_succ, List.getElem_cons_zero, List.setIfInBounds_toArray, List.set_cons_zero, List.set_cons_succ])
            refine wpAnyH_take (i := 45) (oi := _) (v := ?v45_100) rfl (by kernel_rfl) (by kernel_rfl) (by kernel_rfl) (fun _ _ _ h => h) (Or.inl ⟨by rfl, ?hy45_100⟩) (by with_reducible assumption) ?rest45_100
            case hy45_100 => ((intro w hSw; (try dsimp only at hSw); go_simp); (try with_reducible rfl))
            (try simp only [Act.put, List.getElem_toArray, List.getElem_cons_succ, List.getElem_cons_zero, List.setIfInBounds_toArray, List.set_cons_zero, List.set_cons_succ])
            refine wpAnyH_take (i := 46) (oi := _) (v := ?v46_101) rfl (by kernel_rfl) (by kernel_rfl) (by kernel_rfl) (fun _ _ _ h => h) (Or.inl ⟨by rfl, ?hy46_101⟩) (by with_reducible assumption) ?rest46_101
            case hy46_101 => ((intro w hSw; (try dsimp only at hSw); go_simp); (try with_reducible rfl))
            (try simp only [Act.put, List.getElem_toArray, List.getElem_cons_succ, List.getElem_cons_zero, List.setIfInBounds_toArray, List.set_cons_zero, List.set_cons_succ])
            refine wpAnyH_take (i := 47) (oi := _) (v := ?v47_102) rfl (by kernel_rfl) (by kernel_rfl) (by kernel_rfl) (fun _ _ _ h => h) (Or.inl ⟨by rfl, ?hy47_102⟩) (by with_reducible assumption) ?rest47_102
            case hy47_102 => ((intro w hSw; (try dsimp only at hSw); go_simp); (try with_reducible rfl))
            (try simp only [Act.put, List.getElem_toArray, List.getElem_cons_succ, List.getElem_cons_zero, List.setIfInBounds_toArray, List.set_cons_zero, List.set_cons_succ])
            refine wpAnyH_take (i := 48) (oi := _) (v := ?v48_103) rfl (by kernel_rfl) (by kernel_rfl) (by kernel_rfl) (fun _ _ _ h => h) (Or.inl ⟨by rfl, ?hy48_103⟩) (by with_reducible assumption) ?rest48_103
            case hy48_103 => ((intro w hSw; (try dsimp only at hSw); go_simp); (try with_reducible rfl))
            (try simp only [Act.put, List.getElem_toArray, List.getElem_cons_succ, List.getElem_cons_zero, List.setIfInBounds_toArray, List.set_cons_zero, List.set_cons_succ])
            refine wpAnyH_take (i := 49) (oi := _) (v := ?v49_104) rfl (by kernel_rfl) (by kernel_rfl) (by kernel_rfl) (fun _ _ _ h => h) (Or.inl ⟨by rfl, ?hy49_104⟩) (by with_reducible assumption) ?rest49_104
            case hy49_104 => ((intro w hSw; (try dsimp only at hSw); go_simp); (try with_reducible rfl))
            (try simp only [Act.put, List.getElem_toArray, List.getElem_cons_succ, List.getElem_cons_zero, List.setIfInBounds_toArray, List.set_cons_zero, List.set_cons_succ])
            refine wpAnyH_take (i := 50) (oi := _) (v := ?v50_105) rfl (by kernel_rfl) (by kernel_rfl) (by kernel_rfl) (fun _ _ _ h => h) (Or.inl ⟨by rfl, ?hy50_105⟩) (by with_reducible assumption) ?rest50_105
            case hy50_105 => ((intro w hSw; (try dsimp only at hSw); go_simp); (try with_reducible rfl))
            (try simp only [Act.put, List.getElem_toArray, List.getElem_cons_succ, List.getElem_cons_zero, List.setIfInBounds_toArray, List.set_cons_zero, List.set_cons_succ])
            refine wpAnyH_take (i := 51) (oi := _) (v := ?v51_106) rfl (by kernel_rfl) (by kernel_rfl) (by kernel_rfl) (fun _ _ _ h => h) (Or.inl ⟨by rfl, ?hy51_106⟩) (by with_reducible assumption) ?rest51_106
            case hy51_106 => ((intro w hSw; (try dsimp only at hSw); go_simp); (try with_reducible rfl))
            (try simp only [Act.put, List.getElem_toArray, List.getElem_cons_succ, List.getElem_cons_zero, List.setIfInBounds_toArray, List.set_cons_zero, List.set_cons_succ])
            refine wpAnyH_take (i := 52) (oi := _) (v := ?v52_107) rfl (by kernel_rfl) (by kernel_rfl) (by kernel_rfl) (fun _ _ _ h => h) (Or.inl ⟨by rfl, ?hy52_107⟩) (by with_reducible assumption) ?rest52_107
            case hy52_107 => ((intro w hSw; (try dsimp only at hSw); go_simp); (try with_reducible rfl))
            (try simp only [Act.put, List.getElem_toArray, List.getElem_cons_succ, List.getElem_cons_zero, List.setIfInBounds_toArray, List.set_cons_zero, List.set_cons_succ])
            refine wpAnyH_take (i := 53) (oi := _) (v := ?v53_108) rfl (by kernel_rfl) (by kernel_rfl) (by kernel_rfl) (fun _ _ _ h => h) (Or.inl ⟨by rfl, ?hy53_108⟩) (by with_reducible assumption) ?rest53_108
            case hy53_108 => ((intro w hSw; (try dsimp only at hSw); go_simp); (try with_reducible rfl))
            (try simp only [Act.put, List.getElem_toArray, List.getElem_cons_succ, List.getElem_cons_zero, List.setIfInBounds_toArray, List.set_cons_zero, List.set_cons_succ])
            refine wpAnyH_take (i := 54) (oi := _) (v := ?v54_109) rfl (by kernel_rfl) (by kernel_rfl) (by kernel_rfl) (fun _ _ _ h => h) (Or.inl ⟨by rfl, ?hy54_109⟩) (by with_reducible assumption) ?rest54_109
            case hy54_109 => ((intro w hSw; (try dsimp only at hSw); go_simp); (try with_reducible rfl))
            (try simp only [Act.put, List.getElem_toArray, List.getElem_cons_succ, List.getElem_cons_zero, List.setIfInBounds_toArray, List.set_cons_zero, List.set_cons_succ])
            refine wpAnyH_take (i := 55) (oi := _) (v := ?v55_110) rfl (by kernel_rfl) (by kernel_rfl) (by kernel_rfl) (fun _ _ _ h => h) (Or.inl ⟨by rfl, ?hy55_110⟩) (by with_reducible assumption) ?rest55_110
            case hy55_110 => ((intro w hSw; (try dsimp only at hSw); go_simp); (try with_reducible rfl))
            (try simp only [Act.put, List.getElem_toArray, List.getElem_cons_succ, List.getElem_cons_zero, List.setIfInBounds_toArray, List.set_cons_zero, List.set_cons_succ])
            refine wpAnyH_take (i := 56) (oi := _) (v := ?v56_111) rfl (by kernel_rfl) (by kernel_rfl) (by kernel_rfl) (fun _ _ _ h => h) (Or.inl ⟨by rfl, ?hy56_111⟩) (by with_reducible assumption) ?rest56_111
            case hy56_111 => ((intro w hSw; (try dsimp only at hSw); go_simp); (try with_reducible rfl))
            (try simp only [Act.put, List.getElem_toArray, List.getElem_cons_succ, List.getElem_cons_zero, List.setIfInBounds_toArray, List.set_cons_zero, List.set_cons_succ])
            refine wpAnyH_take (i := 57) (oi := _) (v := ?v57_112) rfl (by kernel_rfl) (by kernel_rfl) (by kernel_rfl) (fun _ _ _ h => h) (Or.inl ⟨by rfl, ?hy57_112⟩) (by with_reducible assumption) ?rest57_112
            case hy57_112 => ((intro w hSw; (try dsimp only at hSw); go_simp); (try with_reducible rfl))
            (try simp only [Act.put, List.getElem_toArray, List.getElem_cons_succ, List.getElem_cons_zero, List.setIfInBounds_toArray, List.set_cons_zero, List.set_cons_succ])
            refine wpAnyH_done (by kernel_rfl) (NoPanic.normal ?_) _
            go_wp2_with fail
            go_meet
            exact ⟨by first | rfl | simp, (by assumption : _ ∧ Below w7.heap.size w7 _).2⟩
        case true =>
          have hr : chRes u d d.size (true && !true) = .tuple #[.agg #[.int .i64 0, .string ⟨#[]⟩, .bool false], .bool false] := by unfold chRes; rw [if_pos ⟨hd0, rfl⟩]
          rw [hr] at y4
          have Y4 := Lib.hid y4
          clear y4 hr
          have hde : d.toList.isEmpty = true := by rw [isEmpty_size, hd0]; rfl
          have hde2 : d.toList = [] := by simpa using hde
          clear hd0
          go_wp2_with fail
          refine (Y2.out _).mono ?_
          rintro e w2 ⟨rfl, hb2⟩
          have hz2 := hb2.size
          (try simp at hz2)
          have rs_2 : w2.heap[w1.heap.size]? = some (.cells #[.int .i64 u, .string d, .int .i64 s, .bool true, .bool fs, .bool true] 26 (0, 0)) := (hb2.block _ (by first | (simp; done) | (simp; omega))).trans (by repeat (first | exact heap_new _ _ _ (by first | rfl | (simp; done) | (simp; omega)) | refine (Below.heap_alloc _ _ _ (by first | omega | (simp; done) | (simp; omega))).trans ?_))
          have hw2 : Below w.heap.size w w2 := (by repeat (first | with_reducible exact Below.refl _ _ | with_reducible assumption | with_reducible refine Below.drew ?_ | with_reducible refine Below.alloc ?_ (by first | exact Nat.le_refl _ | omega | (simp; done) | (simp; omega)) _ | with_reducible refine Below.setCell ?_ (by first | exact Nat.le_refl _ | omega | (simp; done) | (simp; omega)) _ | (with_reducible refine ext_trans ?_ (by with_reducible assumption))))
          have lRs_2 : w1.heap.size < w2.heap.size := by omega
          have Rs_2 := Lib.hid rs_2
          have r0_rs_2 := cell_of_row _ _ 0 _ _ _ rs_2
          have r1_rs_2 := cell_of_row _ _ 1 _ _ _ rs_2
          have r2_rs_2 := cell_of_row _ _ 2 _ _ _ rs_2
          have r3_rs_2 := cell_of_row _ _ 3 _ _ _ rs_2
          have r4_rs_2 := cell_of_row _ _ 4 _ _ _ rs_2
          have r5_rs_2 := cell_of_row _ _ 5 _ _ _ rs_2
          have f0_rs_2 := frozen_of_row _ _ 0 _ _ rs_2
          have f1_rs_2 := frozen_of_row _ _ 1 _ _ rs_2
          have f2_rs_2 := frozen_of_row _ _ 2 _ _ rs_2
          have f3_rs_2 := frozen_of_row _ _ 3 _ _ rs_2
          have f4_rs_2 := frozen_of_row _ _ 4 _ _ rs_2
          have f5_rs_2 := frozen_of_row _ _ 5 _ _ rs_2
          simp at r0_rs_2 r1_rs_2 r2_rs_2 r3_rs_2 r4_rs_2 r5_rs_2
          clear rs_2
          go_wp2_with fail
          have hb3 : Below w2.heap.size w2 (w2.alloc (.cells #[.int .i64 u, .string d, .int .i64 0, .bool true, .bool false, .bool true] 26)) := (by repeat (first | with_reducible exact Below.refl _ _ | with_reducible assumption | with_reducible refine Below.drew ?_ | with_reducible refine Below.alloc ?_ (by first | exact Nat.le_refl _ | omega | (simp; done) | (simp; omega)) _ | with_reducible refine Below.setCell ?_ (by first | exact Nat.le_refl _ | omega | (simp; done) | (simp; omega)) _ | (with_reducible refine ext_trans ?_ (by with_reducible assumption))))
          have rx_3 : (w2.alloc (.cells #[.int .i64 u, .string d, .int .i64 0, .bool true, .bool false, .bool true] 26)).heap[w2.heap.size]? = some (.cells #[.int .i64 u, .string d, .int .i64 0, .bool true, .bool false, .bool true] 26 (0, 0)) := (by repeat (first | exact heap_new _ _ _ (by first | rfl | (simp; done) | (simp; omega)) | refine (Below.heap_alloc _ _ _ (by first | omega | (simp; done) | (simp; omega))).trans ?_))
          have lNx_3 : w2.heap.size < (w2.alloc (.cells #[.int .i64 u, .string d, .int .i64 0, .bool true, .bool false, .bool true] 26)).heap.size := by simp
          generalize (w2.alloc (.cells #[.int .i64 u, .string d, .int .i64 0, .bool true, .bool false, .bool true] 26)) = w3 at *
          have hz3 := hb3.size
          (try simp at hz3)
          have rs_3 := (hb3.block _ (by first | omega | (simp; done) | (simp; omega))).trans Rs_2.out
          have hw3 : Below w.heap.size w w3 := (by repeat (first | with_reducible exact Below.refl _ _ | with_reducible assumption | with_reducible refine Below.drew ?_ | with_reducible refine Below.alloc ?_ (by first | exact Nat.le_refl _ | omega | (simp; done) | (simp; omega)) _ | with_reducible refine Below.setCell ?_ (by first | exact Nat.le_refl _ | omega | (simp; done) | (simp; omega)) _ | (with_reducible refine ext_trans ?_ (by with_reducible assumption))))
          have lRs_3 : w1.heap.size < w3.heap.size := by omega
          have lRx_3 : w2.heap.size < w3.heap.size := by omega
          have Rs_3 := Lib.hid rs_3
          have r0_rs_3 := cell_of_row _ _ 0 _ _ _ rs_3
          have r1_rs_3 := cell_of_row _ _ 1 _ _ _ rs_3
          have r2_rs_3 := cell_of_row _ _ 2 _ _ _ rs_3
          have r3_rs_3 := cell_of_row _ _ 3 _ _ _ rs_3
          have r4_rs_3 := cell_of_row _ _ 4 _ _ _ rs_3
          have r5_rs_3 := cell_of_row _ _ 5 _ _ _ rs_3
          have f0_rs_3 := frozen_of_row _ _ 0 _ _ rs_3
          have f1_rs_3 := frozen_of_row _ _ 1 _ _ rs_3
          have f2_rs_3 := frozen_of_row _ _ 2 _ _ rs_3
          have f3_rs_3 := frozen_of_row _ _ 3 _ _ rs_3
          have f4_rs_3 := frozen_of_row _ _ 4 _ _ rs_3
          have f5_rs_3 := frozen_of_row _ _ 5 _ _ rs_3
          simp at r0_rs_3 r1_rs_3 r2_rs_3 r3_rs_3 r4_rs_3 r5_rs_3
          clear rs_3
          have Rx_3 := Lib.hid rx_3
          have r0_rx_3 := cell_of_row _ _ 0 _ _ _ rx_3
          have r1_rx_3 := cell_of_row _ _ 1 _ _ _ rx_3
          have r2_rx_3 := cell_of_row _ _ 2 _ _ _ rx_3
          have r3_rx_3 := cell_of_row _ _ 3 _ _ _ rx_3
          have r4_rx_3 := cell_of_row _ _ 4 _ _ _ rx_3
          have r5_rx_3 := cell_of_row _ _ 5 _ _ _ rx_3
          have f0_rx_3 := frozen_of_row _ _ 0 _ _ rx_3
          have f1_rx_3 := frozen_of_row _ _ 1 _ _ rx_3
          have f2_rx_3 := frozen_of_row _ _ 2 _ _ rx_3
          have f3_rx_3 := frozen_of_row _ _ 3 _ _ rx_3
          have f4_rx_3 := frozen_of_row _ _ 4 _ _ rx_3
          have f5_rx_3 := frozen_of_row _ _ 5 _ _ rx_3
          simp at r0_rx_3 r1_rx_3 r2_rx_3 r3_rx_3 r4_rx_3 r5_rx_3
          clear rx_3
          clear r0_rs_2 f0_rs_2 r1_rs_2 f1_rs_2 r2_rs_2 f2_rs_2 r3_rs_2 f3_rs_2 r4_rs_2 f4_rs_2 r5_rs_2 f5_rs_2
          go_wp2_with fail
          go_cut [16] (fun z wx => z = .bool false ∧ Below w3.heap.size w3 wx)
          case first =>
            first | go_region_held3 (fun w' => (∀ b' o, b' < (w3).heap.size → w'.cell? ⟨b', o, none⟩ = (w3).cell? ⟨b', o, none⟩) ∧ Below (w3).heap.size (w3) w') (first | with_reducible assumption | (with_reducible apply rg_keep; rotate_left; with_reducible assumption; with_reducible assumption) | with_reducible exact rg_start _ | with_reducible exact rg_alloc (KeptS.out (by with_reducible assumption)) _ | with_reducible exact rg_alloc (by with_reducible assumption) _ | with_reducible exact rg_start_alloc _ _ | ((repeat (with_reducible refine rg_set ?_ _ (by first | exact Nat.le_refl _ | omega | (simp; done) | (simp; omega)) _)); first | with_reducible exact KeptS.out (by with_reducible assumption) | with_reducible assumption | with_reducible exact rg_alloc (KeptS.out (by with_reducible assumption)) _)) (first | (go_at_call 20; ((with_reducible refine (Y1.out _).mono ?_); (rintro e wC ⟨rfl, hbC⟩; have hSC := rg_keepK (by first | with_reducible assumption | exact KeptS.out (by with_reducible assumption)) hbC)))) | fail
            all_goals (go_wp2_with fail; go_meet; exact ⟨rfl, (by assumption : _ ∧ Below w3.heap.size w3 wC).2⟩)
          case rest =>
          obtain ⟨rfl, hb4⟩ := hcut
          rename World => w4
          have hz4 := hb4.size
          (try simp at hz4)
          have rs_4 := (hb4.block _ (by first | omega | (simp; done) | (simp; omega))).trans Rs_3.out
          have rx_4 := (hb4.block _ (by first | omega | (simp; done) | (simp; omega))).trans Rx_3.out
          have hw4 : Below w.heap.size w w4 := (by repeat (first | with_reducible exact Below.refl _ _ | with_reducible assumption | with_reducible refine Below.drew ?_ | with_reducible refine Below.alloc ?_ (by first | exact Nat.le_refl _ | omega | (simp; done) | (simp; omega)) _ | with_reducible refine Below.setCell ?_ (by first | exact Nat.le_refl _ | omega | (simp; done) | (simp; omega)) _ | (with_reducible refine ext_trans ?_ (by with_reducible assumption))))
          have lRs_4 : w1.heap.size < w4.heap.size := by omega
          have lRx_4 : w2.heap.size < w4.heap.size := by omega
          have Rs_4 := Lib.hid rs_4
          have r0_rs_4 := cell_of_row _ _ 0 _ _ _ rs_4
          have r1_rs_4 := cell_of_row _ _ 1 _ _ _ rs_4
          have r2_rs_4 := cell_of_row _ _ 2 _ _ _ rs_4
          have r3_rs_4 := cell_of_row _ _ 3 _ _ _ rs_4
          have r4_rs_4 := cell_of_row _ _ 4 _ _ _ rs_4
          have r5_rs_4 := cell_of_row _ _ 5 _ _ _ rs_4
          have f0_rs_4 := frozen_of_row _ _ 0 _ _ rs_4
          have f1_rs_4 := frozen_of_row _ _ 1 _ _ rs_4
          have f2_rs_4 := frozen_of_row _ _ 2 _ _ rs_4
          have f3_rs_4 := frozen_of_row _ _ 3 _ _ rs_4
          have f4_rs_4 := frozen_of_row _ _ 4 _ _ rs_4
          have f5_rs_4 := frozen_of_row _ _ 5 _ _ rs_4
          simp at r0_rs_4 r1_rs_4 r2_rs_4 r3_rs_4 r4_rs_4 r5_rs_4
          clear rs_4
          have Rx_4 := Lib.hid rx_4
          have r0_rx_4 := cell_of_row _ _ 0 _ _ _ rx_4
          have r1_rx_4 := cell_of_row _ _ 1 _ _ _ rx_4
          have r2_rx_4 := cell_of_row _ _ 2 _ _ _ rx_4
          have r3_rx_4 := cell_of_row _ _ 3 _ _ _ rx_4
          have r4_rx_4 := cell_of_row _ _ 4 _ _ _ rx_4
          have r5_rx_4 := cell_of_row _ _ 5 _ _ _ rx_4
          have f0_rx_4 := frozen_of_row _ _ 0 _ _ rx_4
          have f1_rx_4 := frozen_of_row _ _ 1 _ _ rx_4
          have f2_rx_4 := frozen_of_row _ _ 2 _ _ rx_4
          have f3_rx_4 := frozen_of_row _ _ 3 _ _ rx_4
          have f4_rx_4 := frozen_of_row _ _ 4 _ _ rx_4
          have f5_rx_4 := frozen_of_row _ _ 5 _ _ rx_4
          simp at r0_rx_4 r1_rx_4 r2_rx_4 r3_rx_4 r4_rx_4 r5_rx_4
          clear rx_4
          clear r0_rs_3 f0_rs_3 r1_rs_3 f1_rs_3 r2_rs_3 f2_rs_3 r3_rs_3 f3_rs_3 r4_rs_3 f4_rs_3 r5_rs_3 f5_rs_3
          clear r0_rx_3 f0_rx_3 r1_rx_3 f1_rx_3 r2_rx_3 f2_rx_3 r3_rx_3 f3_rx_3 r4_rx_3 f4_rx_3 r5_rx_3 f5_rx_3
          go_wp2_with fail
          refine (Y3.out _).mono ?_
          rintro e w5 ⟨rfl, hb5⟩
          have hz5 := hb5.size
          (try simp at hz5)
          have rs_5 := (hb5.block _ (by first | omega | (simp; done) | (simp; omega))).trans Rs_4.out
          have rx_5 := (hb5.block _ (by first | omega | (simp; done) | (simp; omega))).trans Rx_4.out
          have hw5 : Below w.heap.size w w5 := (by repeat (first | with_reducible exact Below.refl _ _ | with_reducible assumption | with_reducible refine Below.drew ?_ | with_reducible refine Below.alloc ?_ (by first | exact Nat.le_refl _ | omega | (simp; done) | (simp; omega)) _ | with_reducible refine Below.setCell ?_ (by first | exact Nat.le_refl _ | omega | (simp; done) | (simp; omega)) _ | (with_reducible refine ext_trans ?_ (by with_reducible assumption))))
          have lRs_5 : w1.heap.size < w5.heap.size := by omega
          have lRx_5 : w2.heap.size < w5.heap.size := by omega
          have Rs_5 := Lib.hid rs_5
          have r0_rs_5 := cell_of_row _ _ 0 _ _ _ rs_5
          have r1_rs_5 := cell_of_row _ _ 1 _ _ _ rs_5
          have r2_rs_5 := cell_of_row _ _ 2 _ _ _ rs_5
          have r3_rs_5 := cell_of_row _ _ 3 _ _ _ rs_5
          have r4_rs_5 := cell_of_row _ _ 4 _ _ _ rs_5
          have r5_rs_5 := cell_of_row _ _ 5 _ _ _ rs_5
          have f0_rs_5 := frozen_of_row _ _ 0 _ _ rs_5
          have f1_rs_5 := frozen_of_row _ _ 1 _ _ rs_5
          have f2_rs_5 := frozen_of_row _ _ 2 _ _ rs_5
          have f3_rs_5 := frozen_of_row _ _ 3 _ _ rs_5
          have f4_rs_5 := frozen_of_row _ _ 4 _ _ rs_5
          have f5_rs_5 := frozen_of_row _ _ 5 _ _ rs_5
          simp at r0_rs_5 r1_rs_5 r2_rs_5 r3_rs_5 r4_rs_5 r5_rs_5
          clear rs_5
          have Rx_5 := Lib.hid rx_5
          have r0_rx_5 := cell_of_row _ _ 0 _ _ _ rx_5
          have r1_rx_5 := cell_of_row _ _ 1 _ _ _ rx_5
          have r2_rx_5 := cell_of_row _ _ 2 _ _ _ rx_5
          have r3_rx_5 := cell_of_row _ _ 3 _ _ _ rx_5
          have r4_rx_5 := cell_of_row _ _ 4 _ _ _ rx_5
          have r5_rx_5 := cell_of_row _ _ 5 _ _ _ rx_5
          have f0_rx_5 := frozen_of_row _ _ 0 _ _ rx_5
          have f1_rx_5 := frozen_of_row _ _ 1 _ _ rx_5
          have f2_rx_5 := frozen_of_row _ _ 2 _ _ rx_5
          have f3_rx_5 := frozen_of_row _ _ 3 _ _ rx_5
          have f4_rx_5 := frozen_of_row _ _ 4 _ _ rx_5
          have f5_rx_5 := frozen_of_row _ _ 5 _ _ rx_5
          simp at r0_rx_5 r1_rx_5 r2_rx_5 r3_rx_5 r4_rx_5 r5_rx_5
          clear rx_5
          clear r0_rs_4 f0_rs_4 r1_rs_4 f1_rs_4 r2_rs_4 f2_rs_4 r3_rs_4 f3_rs_4 r4_rs_4 f4_rs_4 r5_rs_4 f5_rs_4
          clear r0_rx_4 f0_rx_4 r1_rx_4 f1_rx_4 r2_rx_4 f2_rx_4 r3_rx_4 f3_rx_4 r4_rx_4 f4_rx_4 r5_rx_4 f5_rx_4
          go_wp2_with fail
          refine (Y4.out _).mono ?_
          rintro e w6 ⟨rfl, hb6⟩
          have hz6 := hb6.size
          (try simp at hz6)
          have rs_6 := (hb6.block _ (by first | omega | (simp; done) | (simp; omega))).trans Rs_5.out
          have rx_6 := (hb6.block _ (by first | omega | (simp; done) | (simp; omega))).trans Rx_5.out
          have hw6 : Below w.heap.size w w6 := (by repeat (first | with_reducible exact Below.refl _ _ | with_reducible assumption | with_reducible refine Below.drew ?_ | with_reducible refine Below.alloc ?_ (by first | exact Nat.le_refl _ | omega | (simp; done) | (simp; omega)) _ | with_reducible refine Below.setCell ?_ (by first | exact Nat.le_refl _ | omega | (simp; done) | (simp; omega)) _ | (with_reducible refine ext_trans ?_ (by with_reducible assumption))))
          have lRs_6 : w1.heap.size < w6.heap.size := by omega
          have lRx_6 : w2.heap.size < w6.heap.size := by omega
          have Rs_6 := Lib.hid rs_6
          have r0_rs_6 := cell_of_row _ _ 0 _ _ _ rs_6
          have r1_rs_6 := cell_of_row _ _ 1 _ _ _ rs_6
          have r2_rs_6 := cell_of_row _ _ 2 _ _ _ rs_6
          have r3_rs_6 := cell_of_row _ _ 3 _ _ _ rs_6
          have r4_rs_6 := cell_of_row _ _ 4 _ _ _ rs_6
          have r5_rs_6 := cell_of_row _ _ 5 _ _ _ rs_6
          have f0_rs_6 := frozen_of_row _ _ 0 _ _ rs_6
          have f1_rs_6 := frozen_of_row _ _ 1 _ _ rs_6
          have f2_rs_6 := frozen_of_row _ _ 2 _ _ rs_6
          have f3_rs_6 := frozen_of_row _ _ 3 _ _ rs_6
          have f4_rs_6 := frozen_of_row _ _ 4 _ _ rs_6
          have f5_rs_6 := frozen_of_row _ _ 5 _ _ rs_6
          simp at r0_rs_6 r1_rs_6 r2_rs_6 r3_rs_6 r4_rs_6 r5_rs_6
          clear rs_6
          have Rx_6 := Lib.hid rx_6
          have r0_rx_6 := cell_of_row _ _ 0 _ _ _ rx_6
          have r1_rx_6 := cell_of_row _ _ 1 _ _ _ rx_6
          have r2_rx_6 := cell_of_row _ _ 2 _ _ _ rx_6
          have r3_rx_6 := cell_of_row _ _ 3 _ _ _ rx_6
          have r4_rx_6 := cell_of_row _ _ 4 _ _ _ rx_6
          have r5_rx_6 := cell_of_row _ _ 5 _ _ _ rx_6
          have f0_rx_6 := frozen_of_row _ _ 0 _ _ rx_6
          have f1_rx_6 := frozen_of_row _ _ 1 _ _ rx_6
          have f2_rx_6 := frozen_of_row _ _ 2 _ _ rx_6
          have f3_rx_6 := frozen_of_row _ _ 3 _ _ rx_6
          have f4_rx_6 := frozen_of_row _ _ 4 _ _ rx_6
          have f5_rx_6 := frozen_of_row _ _ 5 _ _ rx_6
          simp at r0_rx_6 r1_rx_6 r2_rx_6 r3_rx_6 r4_rx_6 r5_rx_6
          clear rx_6
          clear r0_rs_5 f0_rs_5 r1_rs_5 f1_rs_5 r2_rs_5 f2_rs_5 r3_rs_5 f3_rs_5 r4_rs_5 f4_rs_5 r5_rs_5 f5_rs_5
          clear r0_rx_5 f0_rx_5 r1_rx_5 f1_rx_5 r2_rx_5 f2_rx_5 r3_rx_5 f3_rx_5 r4_rx_5 f4_rx_5 r5_rx_5 f5_rx_5
          go_wp2_with fail
          have hb7 : Below w6.heap.size w6 (w6.alloc (.cells #[.int .i64 0, .string ⟨#[]⟩, .bool false] 39)) := (by repeat (first | with_reducible exact Below.refl _ _ | with_reducible assumption | with_reducible refine Below.drew ?_ | with_reducible refine Below.alloc ?_ (by first | exact Nat.le_refl _ | omega | (simp; done) | (simp; omega)) _ | with_reducible refine Below.setCell ?_ (by first | exact Nat.le_refl _ | omega | (simp; done) | (simp; omega)) _ | (with_reducible refine ext_trans ?_ (by with_reducible assumption))))
          have rc_7 : (w6.alloc (.cells #[.int .i64 0, .string ⟨#[]⟩, .bool false] 39)).heap[w6.heap.size]? = some (.cells #[.int .i64 0, .string ⟨#[]⟩, .bool false] 39 (0, 0)) := (by repeat (first | exact heap_new _ _ _ (by first | rfl | (simp; done) | (simp; omega)) | refine (Below.heap_alloc _ _ _ (by first | omega | (simp; done) | (simp; omega))).trans ?_))
          have lNc_7 : w6.heap.size < (w6.alloc (.cells #[.int .i64 0, .string ⟨#[]⟩, .bool false] 39)).heap.size := by simp
          generalize (w6.alloc (.cells #[.int .i64 0, .string ⟨#[]⟩, .bool false] 39)) = w7 at *
          have hz7 := hb7.size
          (try simp at hz7)
          have rs_7 := (hb7.block _ (by first | omega | (simp; done) | (simp; omega))).trans Rs_6.out
          have rx_7 := (hb7.block _ (by first | omega | (simp; done) | (simp; omega))).trans Rx_6.out
          have hw7 : Below w.heap.size w w7 := (by repeat (first | with_reducible exact Below.refl _ _ | with_reducible assumption | with_reducible refine Below.drew ?_ | with_reducible refine Below.alloc ?_ (by first | exact Nat.le_refl _ | omega | (simp; done) | (simp; omega)) _ | with_reducible refine Below.setCell ?_ (by first | exact Nat.le_refl _ | omega | (simp; done) | (simp; omega)) _ | (with_reducible refine ext_trans ?_ (by with_reducible assumption))))
          have lRs_7 : w1.heap.size < w7.heap.size := by omega
          have lRx_7 : w2.heap.size < w7.heap.size := by omega
          have lRc_7 : w6.heap.size < w7.heap.size := by omega
          have Rs_7 := Lib.hid rs_7
          have r0_rs_7 := cell_of_row _ _ 0 _ _ _ rs_7
          have r1_rs_7 := cell_of_row _ _ 1 _ _ _ rs_7
          have r2_rs_7 := cell_of_row _ _ 2 _ _ _ rs_7
          have r3_rs_7 := cell_of_row _ _ 3 _ _ _ rs_7
          have r4_rs_7 := cell_of_row _ _ 4 _ _ _ rs_7
          have r5_rs_7 := cell_of_row _ _ 5 _ _ _ rs_7
          have f0_rs_7 := frozen_of_row _ _ 0 _ _ rs_7
          have f1_rs_7 := frozen_of_row _ _ 1 _ _ rs_7
          have f2_rs_7 := frozen_of_row _ _ 2 _ _ rs_7
          have f3_rs_7 := frozen_of_row _ _ 3 _ _ rs_7
          have f4_rs_7 := frozen_of_row _ _ 4 _ _ rs_7
          have f5_rs_7 := frozen_of_row _ _ 5 _ _ rs_7
          simp at r0_rs_7 r1_rs_7 r2_rs_7 r3_rs_7 r4_rs_7 r5_rs_7
          clear rs_7
          have Rx_7 := Lib.hid rx_7
          have r0_rx_7 := cell_of_row _ _ 0 _ _ _ rx_7
          have r1_rx_7 := cell_of_row _ _ 1 _ _ _ rx_7
          have r2_rx_7 := cell_of_row _ _ 2 _ _ _ rx_7
          have r3_rx_7 := cell_of_row _ _ 3 _ _ _ rx_7
          have r4_rx_7 := cell_of_row _ _ 4 _ _ _ rx_7
          have r5_rx_7 := cell_of_row _ _ 5 _ _ _ rx_7
          have f0_rx_7 := frozen_of_row _ _ 0 _ _ rx_7
          have f1_rx_7 := frozen_of_row _ _ 1 _ _ rx_7
          have f2_rx_7 := frozen_of_row _ _ 2 _ _ rx_7
          have f3_rx_7 := frozen_of_row _ _ 3 _ _ rx_7
          have f4_rx_7 := frozen_of_row _ _ 4 _ _ rx_7
          have f5_rx_7 := frozen_of_row _ _ 5 _ _ rx_7
          simp at r0_rx_7 r1_rx_7 r2_rx_7 r3_rx_7 r4_rx_7 r5_rx_7
          clear rx_7
          have Rc_7 := Lib.hid rc_7
          have r0_rc_7 := cell_of_row _ _ 0 _ _ _ rc_7
          have r1_rc_7 := cell_of_row _ _ 1 _ _ _ rc_7
          have r2_rc_7 := cell_of_row _ _ 2 _ _ _ rc_7
          have f0_rc_7 := frozen_of_row _ _ 0 _ _ rc_7
          have f1_rc_7 := frozen_of_row _ _ 1 _ _ rc_7
          have f2_rc_7 := frozen_of_row _ _ 2 _ _ rc_7
          simp at r0_rc_7 r1_rc_7 r2_rc_7
          clear rc_7
          clear r0_rs_6 f0_rs_6 r1_rs_6 f1_rs_6 r2_rs_6 f2_rs_6 r3_rs_6 f3_rs_6 r4_rs_6 f4_rs_6 r5_rs_6 f5_rs_6
          clear r0_rx_6 f0_rx_6 r1_rx_6 f1_rx_6 r2_rx_6 f2_rx_6 r3_rx_6 f3_rx_6 r4_rx_6 f4_rx_6 r5_rx_6 f5_rx_6
          go_wp2_with fail
          go_cut [2] (fun z wx => z = .bool true ∧ Below w7.heap.size w7 wx)
          case rest =>
            obtain ⟨rfl, hbz⟩ := hcut
            go_wp2_with fail
            go_ret
            exact ⟨rfl, hw7.trans (hbz.mono hw7.size)⟩
          case first =>
            refine wp_region_noPanic ?_
            refine wp_region_held_drew (S := (fun w' => (∀ b' o, b' < w7.heap.size → w'.cell? ⟨b', o, none⟩ = w7.cell? ⟨b', o, none⟩) ∧ Below w7.heap.size w7 w')) (by kernel_rfl) (by first | exact rg_start _) (fun hHeld => ?_)
            refine wpAnyH_take (i := 0) (oi := _) (v := ?v0_113) rfl (by kernel_rfl) (by kernel_rfl) (by kernel_rfl) (fun _ _ _ h => h) (Or.inl ⟨by rfl, ?hy0_113⟩) (by with_reducible assumption) ?rest0_113
            case hy0_113 => ((intro w hSw; (try dsimp only at hSw); go_simp); (try with_reducible rfl))
            (try simp only [Act.put, List.getElem_toArray, List.getElem_cons_succ, List.getElem_cons_zero, List.setIfInBounds_toArray, List.set_cons_zero, List.set_cons_succ])
            refine wpAnyH_ready (rs := [1]) (by kernel_rfl) (by simp) ?_
            refine AllReadyH.cons (o := _) rfl (fun K hK => ?_) AllReadyH.nil
            go_simp
            go_at_call 19; ((with_reducible refine (Y5.out _).mono ?_); (rintro e wq5 ⟨rfl, hbq5⟩; have hSq5 := rg_keepK (by with_reducible assumption) hbq5))
            go_wp2_with fail
            refine hK.out _ _ ?_ (fun hHeld => ?_)
            · (try dsimp only); (first | with_reducible assumption | (with_reducible apply rg_keep; rotate_left; with_reducible assumption; with_reducible assumption) | with_reducible exact rg_start _ | with_reducible exact rg_alloc (KeptS.out (by with_reducible assumption)) _ | with_reducible exact rg_alloc (by with_reducible assumption) _ | with_reducible exact rg_start_alloc _ _ | ((repeat (with_reducible refine rg_set ?_ _ (by first | exact Nat.le_refl _ | omega | (simp; done) | (simp; omega)) _)); first | with_reducible exact KeptS.out (by with_reducible assumption) | with_reducible assumption | with_reducible exact rg_alloc (KeptS.out (by with_reducible assumption)) _))
            clear hK K
            (try simp only [Act.put, List.getElem_toArray, List.getElem_cons_succ, List.getElem_cons_zero, List.setIfInBounds_toArray, List.set_cons_zero, List.set_cons_succ])
            refine wpAnyH_take (i := 2) (oi := _) (v := ?v2_114) rfl (by kernel_rfl) (by kernel_rfl) (by kernel_rfl) (fun _ _ _ h => h) (Or.inl ⟨by rfl, ?hy2_114⟩) (by with_reducible assumption) ?rest2_114
            case hy2_114 => ((intro w hSw; (try dsimp only at hSw); go_simp); (try with_reducible rfl))
            (try simp only [Act.put, List.getElem_toArray, List.getElem_cons_succ, List.getElem_cons_zero, List.setIfInBounds_toArray, List.set_cons_zero, List.set_cons_succ])
            refine wpAnyH_take (i := 3) (oi := _) (v := ?v3_115) rfl (by kernel_rfl) (by kernel_rfl) (by kernel_rfl) (fun _ _ _ h => h) (Or.inl ⟨by rfl, ?hy3_115⟩) (by with_reducible assumption) ?rest3_115
            case hy3_115 => ((intro w hSw; (try dsimp only at hSw); go_simp); (try with_reducible rfl))
            (try simp only [Act.put, List.getElem_toArray, List.getElem_cons_succ, List.getElem_cons_zero, List.setIfInBounds_toArray, List.set_cons_zero, List.set_cons_succ])
            refine wpAnyH_take (i := 5) (oi := _) (v := ?v5_116) rfl (by kernel_rfl) (by kernel_rfl) (by kernel_rfl) (fun _ _ _ h => h) (Or.inl ⟨by rfl, ?hy5_116⟩) (by with_reducible assumption) ?rest5_116
            case hy5_116 => ((intro w hSw; (try dsimp only at hSw); go_simp); (try with_reducible rfl))
            (try simp only [Act.put, List.getElem_toArray, List.getElem_cons_succ, List.getElem_cons_zero, List.setIfInBounds_toArray, List.set_cons_zero, List.set_cons_succ])
            refine wpAnyH_take (i := 6) (oi := _) (v := ?v6_117) rfl (by kernel_rfl) (by kernel_rfl) (by kernel_rfl) (fun _ _ _ h => h) (Or.inl ⟨by rfl, ?hy6_117⟩) (by with_reducible assumption) ?rest6_117
            case hy6_117 => ((intro w hSw; (try dsimp only at hSw); go_simp); (try with_reducible rfl))
            (try simp only [Act.put, List.getElem_toArray, List.getElem_cons_succ, List.getElem_cons_zero, List.setIfInBounds_toArray, List.set_cons_zero, List.set_cons_succ])
            refine wpAnyH_ready (rs := [4]) (by kernel_rfl) (by simp) ?_
            refine AllReadyH.cons (o := _) rfl (fun K hK => ?_) AllReadyH.nil
            go_simp
            go_at_call 17; ((with_reducible refine (Y6.out _).mono ?_); (rintro e wq6 ⟨rfl, hbq6⟩; have hSq6 := rg_keepK (by with_reducible assumption) hbq6))
            go_wp2_with fail
            refine hK.out _ _ ?_ (fun hHeld => ?_)
            · (try dsimp only); (first | with_reducible assumption | (with_reducible apply rg_keep; rotate_left; with_reducible assumption; with_reducible assumption) | with_reducible exact rg_start _ | with_reducible exact rg_alloc (KeptS.out (by with_reducible assumption)) _ | with_reducible exact rg_alloc (by with_reducible assumption) _ | with_reducible exact rg_start_alloc _ _ | ((repeat (with_reducible refine rg_set ?_ _ (by first | exact Nat.le_refl _ | omega | (simp; done) | (simp; omega)) _)); first | with_reducible exact KeptS.out (by with_reducible assumption) | with_reducible assumption | with_reducible exact rg_alloc (KeptS.out (by with_reducible assumption)) _))
            clear hK K
            (try simp only [Act.put, List.getElem_toArray, List.getElem_cons_succ, List.getElem_cons_zero, List.setIfInBounds_toArray, List.set_cons_zero, List.set_cons_succ])
            refine wpAnyH_take (i := 7) (oi := _) (v := ?v7_118) rfl (by kernel_rfl) (by kernel_rfl) (by kernel_rfl) (fun _ _ _ h => h) (Or.inl ⟨by rfl, ?hy7_118⟩) (by with_reducible assumption) ?rest7_118
            case hy7_118 => ((intro w hSw; (try dsimp only at hSw); go_simp); (try with_reducible rfl))
            (try simp only [Act.put, List.getElem_toArray, List.getElem_cons_succ, List.getElem_cons_zero, List.setIfInBounds_toArray, List.set_cons_zero, List.set_cons_succ])
            refine wpAnyH_take (i := 8) (oi := _) (v := ?v8_119) rfl (by kernel_rfl) (by kernel_rfl) (by kernel_rfl) (fun _ _ _ h => h) (Or.inl ⟨by rfl, ?hy8_119⟩) (by with_reducible assumption) ?rest8_119
            case hy8_119 => ((intro w hSw; (try dsimp only at hSw); go_simp); (try with_reducible rfl))
            (try simp only [Act.put, List.getElem_toArray, List.getElem_cons_succ, List.getElem_cons_zero, List.setIfInBounds_toArray, List.set_cons_zero, List.set_cons_succ])
            refine wpAnyH_take (i := 9) (oi := _) (v := ?v9_120) rfl (by kernel_rfl) (by kernel_rfl) (by kernel_rfl) (fun _ _ _ h => h) (Or.inl ⟨by rfl, ?hy9_120⟩) (by with_reducible assumption) ?rest9_120
            case hy9_120 => ((intro w hSw; (try dsimp only at hSw); go_simp); (try with_reducible rfl))
            (try simp only [Act.put, List.getElem_toArray, List.getElem_cons_succ, List.getElem_cons_zero, List.setIfInBounds_toArray, List.set_cons_zero, List.set_cons_succ])
            refine wpAnyH_take (i := 10) (oi := _) (v := ?v10_121) rfl (by kernel_rfl) (by kernel_rfl) (by kernel_rfl) (fun _ _ _ h => h) (Or.inl ⟨by rfl, ?hy10_121⟩) (by with_reducible assumption) ?rest10_121
            case hy10_121 => ((intro w hSw; (try dsimp only at hSw); go_simp); (try with_reducible rfl))
            (try simp only [Act.put, List.getElem_toArray, List.getElem_cons_succ, List.getElem_cons_zero, List.setIfInBounds_toArray, List.set_cons_zero, List.set_cons_succ])
            refine wpAnyH_take (i := 11) (oi := _) (v := ?v11_122) rfl (by kernel_rfl) (by kernel_rfl) (by kernel_rfl) (fun _ _ _ h => h) (Or.inl ⟨by rfl, ?hy11_122⟩) (by with_reducible assumption) ?rest11_122
            case hy11_122 => ((intro w hSw; (try dsimp only at hSw); go_simp); (try with_reducible rfl))
            (try simp only [Act.put, List.getElem_toArray, List.getElem_cons_succ, List.getElem_cons_zero, List.setIfInBounds_toArray, List.set_cons_zero, List.set_cons_succ])
            refine wpAnyH_take (i := 12) (oi := _) (v := ?v12_123) rfl (by kernel_rfl) (by kernel_rfl) (by kernel_rfl) (fun _ _ _ h => h) (Or.inl ⟨by rfl, ?hy12_123⟩) (by with_reducible assumption) ?rest12_123
            case hy12_123 => ((intro w hSw; (try dsimp only at hSw); go_simp); (try with_reducible rfl))
            (try simp only [Act.put, List.getElem_toArray, List.getElem_cons_succ, List.getElem_cons_zero, List.setIfInBounds_toArray, List.set_cons_zero, List.set_cons_succ])
            refine wpAnyH_take (i := 13) (oi := _) (v := ?v13_124) rfl (by kernel_rfl) (by kernel_rfl) (by kernel_rfl) (fun _ _ _ h => h) (Or.inl ⟨by rfl, ?hy13_124⟩) (by with_reducible assumption) ?rest13_124
            case hy13_124 => ((intro w hSw; (try dsimp only at hSw); go_simp); (try with_reducible rfl))
            (try simp only [Act.put, List.getElem_toArray, List.getElem_cons_succ, List.getElem_cons_zero, List.setIfInBounds_toArray, List.set_cons_zero, List.set_cons_succ])
            refine wpAnyH_take (i := 14) (oi := _) (v := ?v14_125) rfl (by kernel_rfl) (by kernel_rfl) (by kernel_rfl) (fun _ _ _ h => h) (Or.inl ⟨by rfl, ?hy14_125⟩) (by with_reducible assumption) ?rest14_125
            case hy14_125 => ((intro w hSw; (try dsimp only at hSw); go_simp); (try with_reducible rfl))
            (try simp only [Act.put, List.getElem_toArray, List.getElem_cons_succ, List.getElem_cons_zero, List.setIfInBounds_toArray, List.set_cons_zero, List.set_cons_succ])
            refine wpAnyH_take (i := 15) (oi := _) (v := ?v15_126) rfl (by kernel_rfl) (by kernel_rfl) (by kernel_rfl) (fun _ _ _ h => h) (Or.inl ⟨by rfl, ?hy15_126⟩) (by with_reducible assumption) ?rest15_126
            case hy15_126 => ((intro w hSw; (try dsimp only at hSw); go_simp); (try with_reducible rfl))
            (try simp only [Act.put, List.getElem_toArray, List.getElem_cons_succ, List.getElem_cons_zero, List.setIfInBounds_toArray, List.set_cons_zero, List.set_cons_succ])
            refine wpAnyH_take (i := 16) (oi := _) (v := ?v16_127) rfl (by kernel_rfl) (by kernel_rfl) (by kernel_rfl) (fun _ _ _ h => h) (Or.inl ⟨by rfl, ?hy16_127⟩) (by with_reducible assumption) ?rest16_127
            case hy16_127 => ((intro w hSw; (try dsimp only at hSw); go_simp); (try with_reducible rfl))
            (try simp only [Act.put, List.getElem_toArray, List.getElem_cons_succ, List.getElem_cons_zero, List.setIfInBounds_toArray, List.set_cons_zero, List.set_cons_succ])
            refine wpAnyH_take (i := 17) (oi := _) (v := ?v17_128) rfl (by kernel_rfl) (by kernel_rfl) (by kernel_rfl) (fun _ _ _ h => h) (Or.inl ⟨by rfl, ?hy17_128⟩) (by with_reducible assumption) ?rest17_128
            case hy17_128 => ((intro w hSw; (try dsimp only at hSw); go_simp); (try with_reducible rfl))
            (try simp only [Act.put, List.getElem_toArray, List.getElem_cons_succ, List.getElem_cons_zero, List.setIfInBounds_toArray, List.set_cons_zero, List.set_cons_succ])
            refine wpAnyH_take (i := 18) (oi := _) (v := ?v18_129) rfl (by kernel_rfl) (by kernel_rfl) (by kernel_rfl) (fun _ _ _ h => h) (Or.inl ⟨by rfl, ?hy18_129⟩) (by with_reducible assumption) ?rest18_129
            case hy18_129 => ((intro w hSw; (try dsimp only at hSw); go_simp); (try with_reducible rfl))
            (try simp only [Act.put, List.getElem_toArray, List.getElem_cons_succ, List.getElem_cons_zero, List.setIfInBounds_toArray, List.set_cons_zero, List.set_cons_succ])
            refine wpAnyH_take (i := 19) (oi := _) (v := ?v19_130) rfl (by kernel_rfl) (by kernel_rfl) (by kernel_rfl) (fun _ _ _ h => h) (Or.inl ⟨by rfl, ?hy19_130⟩) (by with_reducible assumption) ?rest19_130
            case hy19_130 => ((intro w hSw; (try dsimp only at hSw); go_simp); (try with_reducible rfl))
            (try simp only [Act.put, List.getElem_toArray, List.getElem_cons_succ, List.getElem_cons_zero, List.setIfInBounds_toArray, List.set_cons_zero, List.set_cons_succ])
            refine wpAnyH_take (i := 20) (oi := _) (v := ?v20_131) rfl (by kernel_rfl) (by kernel_rfl) (by kernel_rfl) (fun _ _ _ h => h) (Or.inl ⟨by rfl, ?hy20_131⟩) (by with_reducible assumption) ?rest20_131
            case hy20_131 => ((intro w hSw; (try dsimp only at hSw); go_simp); (try with_reducible rfl))
            (try simp only [Act.put, List.getElem_toArray, List.getElem_cons_succ, List.getElem_cons_zero, List.setIfInBounds_toArray, List.set_cons_zero, List.set_cons_succ])
            refine wpAnyH_take (i := 21) (oi := _) (v := ?v21_132) rfl (by kernel_rfl) (by kernel_rfl) (by kernel_rfl) (fun _ _ _ h => h) (Or.inl ⟨by rfl, ?hy21_132⟩) (by with_reducible assumption) ?rest21_132
            case hy21_132 => ((intro w hSw; (try dsimp only at hSw); go_simp); (try with_reducible rfl))
            (try simp only [Act.put, List.getElem_toArray, List.getElem_cons_succ, List.getElem_cons_zero, List.setIfInBounds_toArray, List.set_cons_zero, List.set_cons_succ])
            refine wpAnyH_take (i := 22) (oi := _) (v := ?v22_133) rfl (by kernel_rfl) (by kernel_rfl) (by kernel_rfl) (fun _ _ _ h => h) (Or.inl ⟨by rfl, ?hy22_133⟩) (by with_reducible assumption) ?rest22_133
            case hy22_133 => ((intro w hSw; (try dsimp only at hSw); go_simp); (try with_reducible rfl))
            (try simp only [Act.put, List.getElem_toArray, List.getElem_cons_succ, List.getElem_cons_zero, List.setIfInBounds_toArray, List.set_cons_zero, List.set_cons_succ])
            refine wpAnyH_take (i := 23) (oi := _) (v := ?v23_134) rfl (by kernel_rfl) (by kernel_rfl) (by kernel_rfl) (fun _ _ _ h => h) (Or.inl ⟨by rfl, ?hy23_134⟩) (by with_reducible assumption) ?rest23_134
            case hy23_134 => ((intro w hSw; (try dsimp only at hSw); go_simp); (try with_reducible rfl))
            (try simp only [Act.put, List.getElem_toArray, List.getElem_cons_succ, List.getElem_cons_zero, List.setIfInBounds_toArray, List.set_cons_zero, List.set_cons_succ])
            refine wpAnyH_take (i := 24) (oi := _) (v := ?v24_135) rfl (by kernel_rfl) (by kernel_rfl) (by kernel_rfl) (fun _ _ _ h => h) (Or.inl ⟨by rfl, ?hy24_135⟩) (by with_reducible assumption) ?rest24_135
            case hy24_135 => ((intro w hSw; (try dsimp only at hSw); go_simp); (try with_reducible rfl))
            (try simp only [Act.put, List.getElem_toArray, List.getElem_cons_succ, List.getElem_cons_zero, List.setIfInBounds_toArray, List.set_cons_zero, List.set_cons_succ])
            refine wpAnyH_take (i := 25) (oi := _) (v := ?v25_136) rfl (by kernel_rfl) (by kernel_rfl) (by kernel_rfl) (fun _ _ _ h => h) (Or.inl ⟨by rfl, ?hy25_136⟩) (by with_reducible assumption) ?rest25_136
            case hy25_136 => ((intro w hSw; (try dsimp only at hSw); go_simp); (try with_reducible rfl))
            (try simp only [Act.put, List.getElem_toArray, List.getElem_cons_succ, List.getElem_cons_zero, List.setIfInBounds_toArray, List.set_cons_zero, List.set_cons_succ])
            refine wpAnyH_take (i := 26) (oi := _) (v := ?v26_137) rfl (by kernel_rfl) (by kernel_rfl) (by kernel_rfl) (fun _ _ _ h => h) (Or.inl ⟨by rfl, ?hy26_137⟩) (by with_reducible assumption) ?rest26_137
            case hy26_137 => ((intro w hSw; (try dsimp only at hSw); go_simp); (try with_reducible rfl))
            (try simp only [Act.put, List.getElem_toArray, List.getElem_cons_succ, List.getElem_cons_zero, List.setIfInBounds_toArray, List.set_cons_zero, List.set_cons_succ])
            refine wpAnyH_take (i := 27) (oi := _) (v := ?v27_138) rfl (by kernel_rfl) (by kernel_rfl) (by kernel_rfl) (fun _ _ _ h => h) (Or.inl ⟨by rfl, ?hy27_138⟩) (by with_reducible assumption) ?rest27_138
            case hy27_138 => ((intro w hSw; (try dsimp only at hSw); go_simp); (try with_reducible rfl))
            (try simp only [Act.put, List.getElem_toArray, List.getElem_cons_succ, List.getElem_cons_zero, List.setIfInBounds_toArray, List.set_cons_zero, List.set_cons_succ])
            refine wpAnyH_take (i := 28) (oi := _) (v := ?v28_139) rfl (by kernel_rfl) (by kernel_rfl) (by kernel_rfl) (fun _ _ _ h => h) (Or.inl ⟨by rfl, ?hy28_139⟩) (by with_reducible assumption) ?rest28_139
            case hy28_139 => ((intro w hSw; (try dsimp only at hSw); go_simp); (try with_reducible rfl))
            (try simp only [Act.put, List.getElem_toArray, List.getElem_cons_succ, List.getElem_cons_zero, List.setIfInBounds_toArray, List.set_cons_zero, List.set_cons_succ])
            refine wpAnyH_take (i := 29) (oi := _) (v := ?v29_140) rfl (by kernel_rfl) (by kernel_rfl) (by kernel_rfl) (fun _ _ _ h => h) (Or.inl ⟨by rfl, ?hy29_140⟩) (by with_reducible assumption) ?rest29_140
            case hy29_140 => ((intro w hSw; (try dsimp only at hSw); go_simp); (try with_reducible rfl))
            (try simp only [Act.put, List.getElem_toArray, List.getElem_cons_succ, List.getElem_cons_zero, List.setIfInBounds_toArray, List.set_cons_zero, List.set_cons_succ])
            refine wpAnyH_take (i := 30) (oi := _) (v := ?v30_141) rfl (by kernel_rfl) (by kernel_rfl) (by kernel_rfl) (fun _ _ _ h => h) (Or.inl ⟨by rfl, ?hy30_141⟩) (by with_reducible assumption) ?rest30_141
            case hy30_141 => ((intro w hSw; (try dsimp only at hSw); go_simp); (try with_reducible rfl))
            (try simp only [Act.put, List.getElem_toArray, List.getElem_cons_succ, List.getElem_cons_zero, List.setIfInBounds_toArray, List.set_cons_zero, List.set_cons_succ])
            refine wpAnyH_take (i := 31) (oi := _) (v := ?v31_142) rfl (by kernel_rfl) (by kernel_rfl) (by kernel_rfl) (fun _ _ _ h => h) (Or.inl ⟨by rfl, ?hy31_142⟩) (by with_reducible assumption) ?rest31_142
            case hy31_142 => ((intro w hSw; (try dsimp only at hSw); go_simp); (try with_reducible rfl))
            (try simp only [Act.put, List.getElem_toArray, List.getElem_cons_succ, List.getElem_cons_zero, List.setIfInBounds_toArray, List.set_cons_zero, List.set_cons_succ])
            refine wpAnyH_take (i := 32) (oi := _) (v := ?v32_143) rfl (by kernel_rfl) (by kernel_rfl) (by kernel_rfl) (fun _ _ _ h => h) (Or.inl ⟨by rfl, ?hy32_143⟩) (by with_reducible assumption) ?rest32_143
            case hy32_143 => ((intro w hSw; (try dsimp only at hSw); go_simp); (try with_reducible rfl))
            (try simp only [Act.put, List.getElem_toArray, List.getElem_cons_succ, List.getElem_cons_zero, List.setIfInBounds_toArray, List.set_cons_zero, List.set_cons_succ])
            refine wpAnyH_take (i := 33) (oi := _) (v := ?v33_144) rfl (by kernel_rfl) (by kernel_rfl) (by kernel_rfl) (fun _ _ _ h => h) (Or.inl ⟨by rfl, ?hy33_144⟩) (by with_reducible assumption) ?rest33_144
            case hy33_144 => ((intro w hSw; (try dsimp only at hSw); go_simp); (try with_reducible rfl))
            (try simp only [Act.put, List.getElem_toArray, List.getElem_cons_succ, List.getElem_cons_zero, List.setIfInBounds_toArray, List.set_cons_zero, List.set_cons_succ])
            refine wpAnyH_take (i := 34) (oi := _) (v := ?v34_145) rfl (by kernel_rfl) (by kernel_rfl) (by kernel_rfl) (fun _ _ _ h => h) (Or.inl ⟨by rfl, ?hy34_145⟩) (by with_reducible assumption) ?rest34_145
            case hy34_145 => ((intro w hSw; (try dsimp only at hSw); go_simp); (try with_reducible rfl))
            (try simp only [Act.put, List.getElem_toArray, List.getElem_cons_succ, List.getElem_cons_zero, List.setIfInBounds_toArray, List.set_cons_zero, List.set_cons_succ])
            refine wpAnyH_take (i := 35) (oi := _) (v := ?v35_146) rfl (by kernel_rfl) (by kernel_rfl) (by kernel_rfl) (fun _ _ _ h => h) (Or.inl ⟨by rfl, ?hy35_146⟩) (by with_reducible assumption) ?rest35_146
            case hy35_146 => ((intro w hSw; (try dsimp only at hSw); go_simp); (try with_reducible rfl))
            (try simp only [Act.put, List.getElem_toArray, List.getElem_cons_succ, List.getElem_cons_zero, List.setIfInBounds_toArray, List.set_cons_zero, List.set_cons_succ])
            refine wpAnyH_take (i := 36) (oi := _) (v := undef) rfl (by kernel_rfl) (by kernel_rfl) (by kernel_rfl) (fun _ _ _ h => h) (Or.inr ⟨by rfl, rfl⟩) (by with_reducible assumption) ?rest36_147
            (try simp only [Act.put, List.getElem_toArray, List.getElem_cons_succ, List.getElem_cons_zero, List.setIfInBounds_toArray, List.set_cons_zero, List.set_cons_succ])
            refine wpAnyH_take (i := 37) (oi := _) (v := undef) rfl (by kernel_rfl) (by kernel_rfl) (by kernel_rfl) (fun _ _ _ h => h) (Or.inr ⟨by rfl, rfl⟩) (by with_reducible assumption) ?rest37_148
            (try simp only [Act.put, List.getElem_toArray, List.getElem_cons_succ, List.getElem_cons_zero, List.setIfInBounds_toArray, List.set_cons_zero, List.set_cons_succ])
            refine wpAnyH_take (i := 38) (oi := _) (v := undef) rfl (by kernel_rfl) (by kernel_rfl) (by kernel_rfl) (fun _ _ _ h => h) (Or.inr ⟨by rfl, rfl⟩) (by with_reducible assumption) ?rest38_149
            (try simp only [Act.put, List.getElem_toArray, List.getElem_cons_succ, List.getElem_cons_zero, List.setIfInBounds_toArray, List.set_cons_zero, List.set_cons_succ])
            refine wpAnyH_take (i := 39) (oi := _) (v := undef) rfl (by kernel_rfl) (by kernel_rfl) (by kernel_rfl) (fun _ _ _ h => h) (Or.inr ⟨by rfl, rfl⟩) (by with_reducible assumption) ?rest39_150
            (try simp only [Act.put, List.getElem_toArray, List.getElem_cons_succ, List.getElem_cons_zero, List.setIfInBounds_toArray, List.set_cons_zero, List.set_cons_succ])
            refine wpAnyH_take (i := 40) (oi := _) (v := undef) rfl (by kernel_rfl) (by kernel_rfl) (by kernel_rfl) (fun _ _ _ h => h) (Or.inr ⟨by rfl, rfl⟩) (by with_reducible assumption) ?rest40_151
            (try simp only [Act.put, List.getElem_toArray, List.getElem_cons_succ, List.getElem_cons_zero, List.setIfInBounds_toArray, List.set_cons_zero, List.set_cons_succ])
            refine wpAnyH_take (i := 41) (oi := _) (v := undef) rfl (by kernel_rfl) (by kernel_rfl) (by kernel_rfl) (fun _ _ _ h => h) (Or.inr ⟨by rfl, rfl⟩) (by with_reducible assumption) ?rest41_152
            (try simp only [Act.put, List.getElem_toArray, List.getElem_cons_succ, List.getElem_cons_zero, List.setIfInBounds_toArray, List.set_cons_zero, List.set_cons_succ])
            refine wpAnyH_take (i := 42) (oi := _) (v := undef) rfl (by kernel_rfl) (by kernel_rfl) (by kernel_rfl) (fun _ _ _ h => h) (Or.inr ⟨by rfl, rfl⟩) (by with_reducible assumption) ?rest42_153
            (try simp only [Act.put, List.getElem_toArray, List.getElem_cons_succ, List.getElem_cons_zero, List.setIfInBounds_toArray, List.set_cons_zero, List.set_cons_succ])
            refine wpAnyH_take (i := 43) (oi := _) (v := undef) rfl (by kernel_rfl) (by kernel_rfl) (by kernel_rfl) (fun _ _ _ h => h) (Or.inr ⟨by rfl, rfl⟩) (by with_reducible assumption) ?rest43_154
            (try simp only [Act.put, List.getElem_toArray, List.getElem_cons_succ, List.getElem_cons_zero, List.setIfInBounds_toArray, List.set_cons_zero, List.set_cons_succ])
            refine wpAnyH_take (i := 44) (oi := _) (v := undef) rfl (by kernel_rfl) (by kernel_rfl) (by kernel_rfl) (fun _ _ _ h => h) (Or.inr ⟨by rfl, rfl⟩) (by with_reducible assumption) ?rest44_155
            (try simp only [Act.put, List.getElem_toArray, List.getElem_cons_succ, List.getElem_cons_zero, List.setIfInBounds_toArray, List.set_cons_zero, List.set_cons_succ])
            refine wpAnyH_take (i := 45) (oi := _) (v := undef) rfl (by kernel_rfl) (by kernel_rfl) (by kernel_rfl) (fun _ _ _ h => h) (Or.inr ⟨by rfl, rfl⟩) (by with_reducible assumption) ?rest45_156
            (try simp only [Act.put, List.getElem_toArray, List.getElem_cons_succ, List.getElem_cons_zero, List.setIfInBounds_toArray, List.set_cons_zero, List.set_cons_succ])
            refine wpAnyH_take (i := 46) (oi := _) (v := undef) rfl (by kernel_rfl) (by kernel_rfl) (by kernel_rfl) (fun _ _ _ h => h) (Or.inr ⟨by rfl, rfl⟩) (by with_reducible assumption) ?rest46_157
            (try simp only [Act.put, List.getElem_toArray, List.getElem_cons_succ, List.getElem_cons_zero, List.setIfInBounds_toArray, List.set_cons_zero, List.set_cons_succ])
            refine wpAnyH_take (i := 47) (oi := _) (v := undef) rfl (by kernel_rfl) (by kernel_rfl) (by kernel_rfl) (fun _ _ _ h => h) (Or.inr ⟨by rfl, rfl⟩) (by with_reducible assumption) ?rest47_158
            (try simp only [Act.put, List.getElem_toArray, List.getElem_cons_succ, List.getElem_cons_zero, List.setIfInBounds_toArray, List.set_cons_zero, List.set_cons_succ])
            refine wpAnyH_take (i := 48) (oi := _) (v := undef) rfl (by kernel_rfl) (by kernel_rfl) (by kernel_rfl) (fun _ _ _ h => h) (Or.inr ⟨by rfl, rfl⟩) (by with_reducible assumption) ?rest48_159
            (try simp only [Act.put, List.getElem_toArray, List.getElem_cons_succ, List.getElem_cons_zero, List.setIfInBounds_toArray, List.set_cons_zero, List.set_cons_succ])
            refine wpAnyH_take (i := 49) (oi := _) (v := undef) rfl (by kernel_rfl) (by kernel_rfl) (by kernel_rfl) (fun _ _ _ h => h) (Or.inr ⟨by rfl, rfl⟩) (by with_reducible assumption) ?rest49_160
            (try simp only [Act.put, List.getElem_toArray, List.getElem_cons_succ, List.getElem_cons_zero, List.setIfInBounds_toArray, List.set_cons_zero, List.set_cons_succ])
            refine wpAnyH_take (i := 50) (oi := _) (v := undef) rfl (by kernel_rfl) (by kernel_rfl) (by kernel_rfl) (fun _ _ _ h => h) (Or.inr ⟨by rfl, rfl⟩) (by with_reducible assumption) ?rest50_161
            (try simp only [Act.put, List.getElem_toArray, List.getElem_cons_succ, List.getElem_cons_zero, List.setIfInBounds_toArray, List.set_cons_zero, List.set_cons_succ])
            refine wpAnyH_take (i := 51) (oi := _) (v := undef) rfl (by kernel_rfl) (by kernel_rfl) (by kernel_rfl) (fun _ _ _ h => h) (Or.inr ⟨by rfl, rfl⟩) (by with_reducible assumption) ?rest51_162
            (try simp only [Act.put, List.getElem_toArray, List.getElem_cons_succ, List.getElem_cons_zero, List.setIfInBounds_toArray, List.set_cons_zero, List.set_cons_succ])
            refine wpAnyH_take (i := 52) (oi := _) (v := undef) rfl (by kernel_rfl) (by kernel_rfl) (by kernel_rfl) (fun _ _ _ h => h) (Or.inr ⟨by rfl, rfl⟩) (by with_reducible assumption) ?rest52_163
            (try simp only [Act.put, List.getElem_toArray, List.getElem_cons_succ, List.getElem_cons_zero, List.setIfInBounds_toArray, List.set_cons_zero, List.set_cons_succ])
            refine wpAnyH_take (i := 53) (oi := _) (v := undef) rfl (by kernel_rfl) (by kernel_rfl) (by kernel_rfl) (fun _ _ _ h => h) (Or.inr ⟨by rfl, rfl⟩) (by with_reducible assumption) ?rest53_164
            (try simp only [Act.put, List.getElem_toArray, List.getElem_cons_succ, List.getElem_cons_zero, List.setIfInBounds_toArray, List.set_cons_zero, List.set_cons_succ])
            refine wpAnyH_take (i := 54) (oi := _) (v := undef) rfl (by kernel_rfl) (by kernel_rfl) (by kernel_rfl) (fun _ _ _ h => h) (Or.inr ⟨by rfl, rfl⟩) (by with_reducible assumption) ?rest54_165
            (try simp only [Act.put, List.getElem_toArray, List.getElem_cons_succ, List.getElem_cons_zero, List.setIfInBounds_toArray, List.set_cons_zero, List.set_cons_succ])
            refine wpAnyH_take (i := 55) (oi := _) (v := ?v55_166) rfl (by kernel_rfl) (by kernel_rfl) (by kernel_rfl) (fun _ _ _ h => h) (Or.inl ⟨by rfl, ?hy55_166⟩) (by with_reducible assumption) ?rest55_166
            case hy55_166 => ((intro w hSw; (try dsimp only at hSw); go_simp); (try with_reducible rfl))
            (try simp only [Act.put, List.getElem_toArray, List.getElem_cons_succ, List.getElem_cons_zero, List.setIfInBounds_toArray, List.set_cons_zero, List.set_cons_succ])
            refine wpAnyH_take (i := 56) (oi := _) (v := ?v56_167) rfl (by kernel_rfl) (by kernel_rfl) (by kernel_rfl) (fun _ _ _ h => h) (Or.inl ⟨by rfl, ?hy56_167⟩) (by with_reducible assumption) ?rest56_167
            case hy56_167 => ((intro w hSw; (try dsimp only at hSw); go_simp); (try with_reducible rfl))
            (try simp only [Act.put, List.getElem_toArray, List.getElem_cons_succ, List.getElem_cons_zero, List.setIfInBounds_toArray, List.set_cons_zero, List.set_cons_succ])
            refine wpAnyH_take (i := 57) (oi := _) (v := ?v57_168) rfl (by kernel_rfl) (by kernel_rfl) (by kernel_rfl) (fun _ _ _ h => h) (Or.inl ⟨by rfl, ?hy57_168⟩) (by with_reducible assumption) ?rest57_168
            case hy57_168 => ((intro w hSw; (try dsimp only at hSw); go_simp); (try with_reducible rfl))
            (try simp only [Act.put, List.getElem_toArray, List.getElem_cons_succ, List.getElem_cons_zero, List.setIfInBounds_toArray, List.set_cons_zero, List.set_cons_succ])
            refine wpAnyH_done (by kernel_rfl) (NoPanic.normal ?_) _
            go_wp2_with fail
            go_meet
            exact ⟨by first | rfl | simp, (by assumption : _ ∧ Below w7.heap.size w7 _).2⟩
    case neg =>
      have hdp : 0 < d.size := by omega
      obtain ⟨t1, t2⟩ := (⟨bs_isEmpty hdp, bs_ne_nil hdp⟩ : d.toList.isEmpty = false ∧ ¬ d.toList = [])
      have hdnf : dn = false := by
        cases dn
        · rfl
        · exact absurd (b5 rfl).1 hd0
      subst hdnf
      clear b5
      cases f
      case false =>
        have hr : chRes u d d.size (false && !false) = .tuple #[.agg #[.int .i64 u, .string d, .bool false], .bool true] := by unfold chRes; rw [if_neg (by simp [hd0])]; rfl
        rw [hr] at y4
        have Y4 := Lib.hid y4
        clear y4 hr
        go_wp2_with fail
        refine (Y2.out _).mono ?_
        rintro e w2 ⟨rfl, hb2⟩
        have hz2 := hb2.size
        (try simp at hz2)
        have rs_2 : w2.heap[w1.heap.size]? = some (.cells #[.int .i64 u, .string d, .int .i64 s, .bool false, .bool fs, .bool false] 26 (0, 0)) := (hb2.block _ (by first | (simp; done) | (simp; omega))).trans (by repeat (first | exact heap_new _ _ _ (by first | rfl | (simp; done) | (simp; omega)) | refine (Below.heap_alloc _ _ _ (by first | omega | (simp; done) | (simp; omega))).trans ?_))
        have hw2 : Below w.heap.size w w2 := (by repeat (first | with_reducible exact Below.refl _ _ | with_reducible assumption | with_reducible refine Below.drew ?_ | with_reducible refine Below.alloc ?_ (by first | exact Nat.le_refl _ | omega | (simp; done) | (simp; omega)) _ | with_reducible refine Below.setCell ?_ (by first | exact Nat.le_refl _ | omega | (simp; done) | (simp; omega)) _ | (with_reducible refine ext_trans ?_ (by with_reducible assumption))))
        have lRs_2 : w1.heap.size < w2.heap.size := by omega
        have Rs_2 := Lib.hid rs_2
        have r0_rs_2 := cell_of_row _ _ 0 _ _ _ rs_2
        have r1_rs_2 := cell_of_row _ _ 1 _ _ _ rs_2
        have r2_rs_2 := cell_of_row _ _ 2 _ _ _ rs_2
        have r3_rs_2 := cell_of_row _ _ 3 _ _ _ rs_2
        have r4_rs_2 := cell_of_row _ _ 4 _ _ _ rs_2
        have r5_rs_2 := cell_of_row _ _ 5 _ _ _ rs_2
        have f0_rs_2 := frozen_of_row _ _ 0 _ _ rs_2
        have f1_rs_2 := frozen_of_row _ _ 1 _ _ rs_2
        have f2_rs_2 := frozen_of_row _ _ 2 _ _ rs_2
        have f3_rs_2 := frozen_of_row _ _ 3 _ _ rs_2
        have f4_rs_2 := frozen_of_row _ _ 4 _ _ rs_2
        have f5_rs_2 := frozen_of_row _ _ 5 _ _ rs_2
        simp at r0_rs_2 r1_rs_2 r2_rs_2 r3_rs_2 r4_rs_2 r5_rs_2
        clear rs_2
        go_wp2_with fail
        have hb3 : Below w2.heap.size w2 (w2.alloc (.cells #[.int .i64 u, .string d, .int .i64 0, .bool false, .bool false, .bool false] 26)) := (by repeat (first | with_reducible exact Below.refl _ _ | with_reducible assumption | with_reducible refine Below.drew ?_ | with_reducible refine Below.alloc ?_ (by first | exact Nat.le_refl _ | omega | (simp; done) | (simp; omega)) _ | with_reducible refine Below.setCell ?_ (by first | exact Nat.le_refl _ | omega | (simp; done) | (simp; omega)) _ | (with_reducible refine ext_trans ?_ (by with_reducible assumption))))
        have rx_3 : (w2.alloc (.cells #[.int .i64 u, .string d, .int .i64 0, .bool false, .bool false, .bool false] 26)).heap[w2.heap.size]? = some (.cells #[.int .i64 u, .string d, .int .i64 0, .bool false, .bool false, .bool false] 26 (0, 0)) := (by repeat (first | exact heap_new _ _ _ (by first | rfl | (simp; done) | (simp; omega)) | refine (Below.heap_alloc _ _ _ (by first | omega | (simp; done) | (simp; omega))).trans ?_))
        have lNx_3 : w2.heap.size < (w2.alloc (.cells #[.int .i64 u, .string d, .int .i64 0, .bool false, .bool false, .bool false] 26)).heap.size := by simp
        generalize (w2.alloc (.cells #[.int .i64 u, .string d, .int .i64 0, .bool false, .bool false, .bool false] 26)) = w3 at *
        have hz3 := hb3.size
        (try simp at hz3)
        have rs_3 := (hb3.block _ (by first | omega | (simp; done) | (simp; omega))).trans Rs_2.out
        have hw3 : Below w.heap.size w w3 := (by repeat (first | with_reducible exact Below.refl _ _ | with_reducible assumption | with_reducible refine Below.drew ?_ | with_reducible refine Below.alloc ?_ (by first | exact Nat.le_refl _ | omega | (simp; done) | (simp; omega)) _ | with_reducible refine Below.setCell ?_ (by first | exact Nat.le_refl _ | omega | (simp; done) | (simp; omega)) _ | (with_reducible refine ext_trans ?_ (by with_reducible assumption))))
        have lRs_3 : w1.heap.size < w3.heap.size := by omega
        have lRx_3 : w2.heap.size < w3.heap.size := by omega
        have Rs_3 := Lib.hid rs_3
        have r0_rs_3 := cell_of_row _ _ 0 _ _ _ rs_3
        have r1_rs_3 := cell_of_row _ _ 1 _ _ _ rs_3
        have r2_rs_3 := cell_of_row _ _ 2 _ _ _ rs_3
        have r3_rs_3 := cell_of_row _ _ 3 _ _ _ rs_3
        have r4_rs_3 := cell_of_row _ _ 4 _ _ _ rs_3
        have r5_rs_3 := cell_of_row _ _ 5 _ _ _ rs_3
        have f0_rs_3 := frozen_of_row _ _ 0 _ _ rs_3
        have f1_rs_3 := frozen_of_row _ _ 1 _ _ rs_3
        have f2_rs_3 := frozen_of_row _ _ 2 _ _ rs_3
        have f3_rs_3 := frozen_of_row _ _ 3 _ _ rs_3
        have f4_rs_3 := frozen_of_row _ _ 4 _ _ rs_3
        have f5_rs_3 := frozen_of_row _ _ 5 _ _ rs_3
        simp at r0_rs_3 r1_rs_3 r2_rs_3 r3_rs_3 r4_rs_3 r5_rs_3
        clear rs_3
        have Rx_3 := Lib.hid rx_3
        have r0_rx_3 := cell_of_row _ _ 0 _ _ _ rx_3
        have r1_rx_3 := cell_of_row _ _ 1 _ _ _ rx_3
        have r2_rx_3 := cell_of_row _ _ 2 _ _ _ rx_3
        have r3_rx_3 := cell_of_row _ _ 3 _ _ _ rx_3
        have r4_rx_3 := cell_of_row _ _ 4 _ _ _ rx_3
        have r5_rx_3 := cell_of_row _ _ 5 _ _ _ rx_3
        have f0_rx_3 := frozen_of_row _ _ 0 _ _ rx_3
        have f1_rx_3 := frozen_of_row _ _ 1 _ _ rx_3
        have f2_rx_3 := frozen_of_row _ _ 2 _ _ rx_3
        have f3_rx_3 := frozen_of_row _ _ 3 _ _ rx_3
        have f4_rx_3 := frozen_of_row _ _ 4 _ _ rx_3
        have f5_rx_3 := frozen_of_row _ _ 5 _ _ rx_3
        simp at r0_rx_3 r1_rx_3 r2_rx_3 r3_rx_3 r4_rx_3 r5_rx_3
        clear rx_3
        clear r0_rs_2 f0_rs_2 r1_rs_2 f1_rs_2 r2_rs_2 f2_rs_2 r3_rs_2 f3_rs_2 r4_rs_2 f4_rs_2 r5_rs_2 f5_rs_2
        go_wp2_with fail
        go_cut [16] (fun z wx => z = .bool false ∧ Below w3.heap.size w3 wx)
        case first =>
          first | go_region_held3 (fun w' => (∀ b' o, b' < (w3).heap.size → w'.cell? ⟨b', o, none⟩ = (w3).cell? ⟨b', o, none⟩) ∧ Below (w3).heap.size (w3) w') (first | with_reducible assumption | (with_reducible apply rg_keep; rotate_left; with_reducible assumption; with_reducible assumption) | with_reducible exact rg_start _ | with_reducible exact rg_alloc (KeptS.out (by with_reducible assumption)) _ | with_reducible exact rg_alloc (by with_reducible assumption) _ | with_reducible exact rg_start_alloc _ _ | ((repeat (with_reducible refine rg_set ?_ _ (by first | exact Nat.le_refl _ | omega | (simp; done) | (simp; omega)) _)); first | with_reducible exact KeptS.out (by with_reducible assumption) | with_reducible assumption | with_reducible exact rg_alloc (KeptS.out (by with_reducible assumption)) _)) (first | (go_at_call 20; ((with_reducible refine (Y1.out _).mono ?_); (rintro e wC ⟨rfl, hbC⟩; have hSC := rg_keepK (by first | with_reducible assumption | exact KeptS.out (by with_reducible assumption)) hbC)))) | fail
          all_goals (go_wp2_with fail; go_meet; exact ⟨rfl, (by assumption : _ ∧ Below w3.heap.size w3 wC).2⟩)
        case rest =>
        obtain ⟨rfl, hb4⟩ := hcut
        rename World => w4
        have hz4 := hb4.size
        (try simp at hz4)
        have rs_4 := (hb4.block _ (by first | omega | (simp; done) | (simp; omega))).trans Rs_3.out
        have rx_4 := (hb4.block _ (by first | omega | (simp; done) | (simp; omega))).trans Rx_3.out
        have hw4 : Below w.heap.size w w4 := (by repeat (first | with_reducible exact Below.refl _ _ | with_reducible assumption | with_reducible refine Below.drew ?_ | with_reducible refine Below.alloc ?_ (by first | exact Nat.le_refl _ | omega | (simp; done) | (simp; omega)) _ | with_reducible refine Below.setCell ?_ (by first | exact Nat.le_refl _ | omega | (simp; done) | (simp; omega)) _ | (with_reducible refine ext_trans ?_ (by with_reducible assumption))))
        have lRs_4 : w1.heap.size < w4.heap.size := by omega
        have lRx_4 : w2.heap.size < w4.heap.size := by omega
        have Rs_4 := Lib.hid rs_4
        have r0_rs_4 := cell_of_row _ _ 0 _ _ _ rs_4
        have r1_rs_4 := cell_of_row _ _ 1 _ _ _ rs_4
        have r2_rs_4 := cell_of_row _ _ 2 _ _ _ rs_4
        have r3_rs_4 := cell_of_row _ _ 3 _ _ _ rs_4
        have r4_rs_4 := cell_of_row _ _ 4 _ _ _ rs_4
        have r5_rs_4 := cell_of_row _ _ 5 _ _ _ rs_4
        have f0_rs_4 := frozen_of_row _ _ 0 _ _ rs_4
        have f1_rs_4 := frozen_of_row _ _ 1 _ _ rs_4
        have f2_rs_4 := frozen_of_row _ _ 2 _ _ rs_4
        have f3_rs_4 := frozen_of_row _ _ 3 _ _ rs_4
        have f4_rs_4 := frozen_of_row _ _ 4 _ _ rs_4
        have f5_rs_4 := frozen_of_row _ _ 5 _ _ rs_4
        simp at r0_rs_4 r1_rs_4 r2_rs_4 r3_rs_4 r4_rs_4 r5_rs_4
        clear rs_4
        have Rx_4 := Lib.hid rx_4
        have r0_rx_4 := cell_of_row _ _ 0 _ _ _ rx_4
        have r1_rx_4 := cell_of_row _ _ 1 _ _ _ rx_4
        have r2_rx_4 := cell_of_row _ _ 2 _ _ _ rx_4
        have r3_rx_4 := cell_of_row _ _ 3 _ _ _ rx_4
        have r4_rx_4 := cell_of_row _ _ 4 _ _ _ rx_4
        have r5_rx_4 := cell_of_row _ _ 5 _ _ _ rx_4
        have f0_rx_4 := frozen_of_row _ _ 0 _ _ rx_4
        have f1_rx_4 := frozen_of_row _ _ 1 _ _ rx_4
        have f2_rx_4 := frozen_of_row _ _ 2 _ _ rx_4
        have f3_rx_4 := frozen_of_row _ _ 3 _ _ rx_4
        have f4_rx_4 := frozen_of_row _ _ 4 _ _ rx_4
        have f5_rx_4 := frozen_of_row _ _ 5 _ _ rx_4
        simp at r0_rx_4 r1_rx_4 r2_rx_4 r3_rx_4 r4_rx_4 r5_rx_4
        clear rx_4
        clear r0_rs_3 f0_rs_3 r1_rs_3 f1_rs_3 r2_rs_3 f2_rs_3 r3_rs_3 f3_rs_3 r4_rs_3 f4_rs_3 r5_rs_3 f5_rs_3
        clear r0_rx_3 f0_rx_3 r1_rx_3 f1_rx_3 r2_rx_3 f2_rx_3 r3_rx_3 f3_rx_3 r4_rx_3 f4_rx_3 r5_rx_3 f5_rx_3
        go_wp2_with fail
        refine (Y3.out _).mono ?_
        rintro e w5 ⟨rfl, hb5⟩
        have hz5 := hb5.size
        (try simp at hz5)
        have rs_5 := (hb5.block _ (by first | omega | (simp; done) | (simp; omega))).trans Rs_4.out
        have rx_5 := (hb5.block _ (by first | omega | (simp; done) | (simp; omega))).trans Rx_4.out
        have hw5 : Below w.heap.size w w5 := (by repeat (first | with_reducible exact Below.refl _ _ | with_reducible assumption | with_reducible refine Below.drew ?_ | with_reducible refine Below.alloc ?_ (by first | exact Nat.le_refl _ | omega | (simp; done) | (simp; omega)) _ | with_reducible refine Below.setCell ?_ (by first | exact Nat.le_refl _ | omega | (simp; done) | (simp; omega)) _ | (with_reducible refine ext_trans ?_ (by with_reducible assumption))))
        have lRs_5 : w1.heap.size < w5.heap.size := by omega
        have lRx_5 : w2.heap.size < w5.heap.size := by omega
        have Rs_5 := Lib.hid rs_5
        have r0_rs_5 := cell_of_row _ _ 0 _ _ _ rs_5
        have r1_rs_5 := cell_of_row _ _ 1 _ _ _ rs_5
        have r2_rs_5 := cell_of_row _ _ 2 _ _ _ rs_5
        have r3_rs_5 := cell_of_row _ _ 3 _ _ _ rs_5
        have r4_rs_5 := cell_of_row _ _ 4 _ _ _ rs_5
        have r5_rs_5 := cell_of_row _ _ 5 _ _ _ rs_5
        have f0_rs_5 := frozen_of_row _ _ 0 _ _ rs_5
        have f1_rs_5 := frozen_of_row _ _ 1 _ _ rs_5
        have f2_rs_5 := frozen_of_row _ _ 2 _ _ rs_5
        have f3_rs_5 := frozen_of_row _ _ 3 _ _ rs_5
        have f4_rs_5 := frozen_of_row _ _ 4 _ _ rs_5
        have f5_rs_5 := frozen_of_row _ _ 5 _ _ rs_5
        simp at r0_rs_5 r1_rs_5 r2_rs_5 r3_rs_5 r4_rs_5 r5_rs_5
        clear rs_5
        have Rx_5 := Lib.hid rx_5
        have r0_rx_5 := cell_of_row _ _ 0 _ _ _ rx_5
        have r1_rx_5 := cell_of_row _ _ 1 _ _ _ rx_5
        have r2_rx_5 := cell_of_row _ _ 2 _ _ _ rx_5
        have r3_rx_5 := cell_of_row _ _ 3 _ _ _ rx_5
        have r4_rx_5 := cell_of_row _ _ 4 _ _ _ rx_5
        have r5_rx_5 := cell_of_row _ _ 5 _ _ _ rx_5
        have f0_rx_5 := frozen_of_row _ _ 0 _ _ rx_5
        have f1_rx_5 := frozen_of_row _ _ 1 _ _ rx_5
        have f2_rx_5 := frozen_of_row _ _ 2 _ _ rx_5
        have f3_rx_5 := frozen_of_row _ _ 3 _ _ rx_5
        have f4_rx_5 := frozen_of_row _ _ 4 _ _ rx_5
        have f5_rx_5 := frozen_of_row _ _ 5 _ _ rx_5
        simp at r0_rx_5 r1_rx_5 r2_rx_5 r3_rx_5 r4_rx_5 r5_rx_5
        clear rx_5
        clear r0_rs_4 f0_rs_4 r1_rs_4 f1_rs_4 r2_rs_4 f2_rs_4 r3_rs_4 f3_rs_4 r4_rs_4 f4_rs_4 r5_rs_4 f5_rs_4
        clear r0_rx_4 f0_rx_4 r1_rx_4 f1_rx_4 r2_rx_4 f2_rx_4 r3_rx_4 f3_rx_4 r4_rx_4 f4_rx_4 r5_rx_4 f5_rx_4
        go_wp2_with fail
        refine (Y4.out _).mono ?_
        rintro e w6 ⟨rfl, hb6⟩
        have hz6 := hb6.size
        (try simp at hz6)
        have rs_6 := (hb6.block _ (by first | omega | (simp; done) | (simp; omega))).trans Rs_5.out
        have rx_6 := (hb6.block _ (by first | omega | (simp; done) | (simp; omega))).trans Rx_5.out
        have hw6 : Below w.heap.size w w6 := (by repeat (first | with_reducible exact Below.refl _ _ | with_reducible assumption | with_reducible refine Below.drew ?_ | with_reducible refine Below.alloc ?_ (by first | exact Nat.le_refl _ | omega | (simp; done) | (simp; omega)) _ | with_reducible refine Below.setCell ?_ (by first | exact Nat.le_refl _ | omega | (simp; done) | (simp; omega)) _ | (with_reducible refine ext_trans ?_ (by with_reducible assumption))))
        have lRs_6 : w1.heap.size < w6.heap.size := by omega
        have lRx_6 : w2.heap.size < w6.heap.size := by omega
        have Rs_6 := Lib.hid rs_6
        have r0_rs_6 := cell_of_row _ _ 0 _ _ _ rs_6
        have r1_rs_6 := cell_of_row _ _ 1 _ _ _ rs_6
        have r2_rs_6 := cell_of_row _ _ 2 _ _ _ rs_6
        have r3_rs_6 := cell_of_row _ _ 3 _ _ _ rs_6
        have r4_rs_6 := cell_of_row _ _ 4 _ _ _ rs_6
        have r5_rs_6 := cell_of_row _ _ 5 _ _ _ rs_6
        have f0_rs_6 := frozen_of_row _ _ 0 _ _ rs_6
        have f1_rs_6 := frozen_of_row _ _ 1 _ _ rs_6
        have f2_rs_6 := frozen_of_row _ _ 2 _ _ rs_6
        have f3_rs_6 := frozen_of_row _ _ 3 _ _ rs_6
        have f4_rs_6 := frozen_of_row _ _ 4 _ _ rs_6
        have f5_rs_6 := frozen_of_row _ _ 5 _ _ rs_6
        simp at r0_rs_6 r1_rs_6 r2_rs_6 r3_rs_6 r4_rs_6 r5_rs_6
        clear rs_6
        have Rx_6 := Lib.hid rx_6
        have r0_rx_6 := cell_of_row _ _ 0 _ _ _ rx_6
        have r1_rx_6 := cell_of_row _ _ 1 _ _ _ rx_6
        have r2_rx_6 := cell_of_row _ _ 2 _ _ _ rx_6
        have r3_rx_6 := cell_of_row _ _ 3 _ _ _ rx_6
        have r4_rx_6 := cell_of_row _ _ 4 _ _ _ rx_6
        have r5_rx_6 := cell_of_row _ _ 5 _ _ _ rx_6
        have f0_rx_6 := frozen_of_row _ _ 0 _ _ rx_6
        have f1_rx_6 := frozen_of_row _ _ 1 _ _ rx_6
        have f2_rx_6 := frozen_of_row _ _ 2 _ _ rx_6
        have f3_rx_6 := frozen_of_row _ _ 3 _ _ rx_6
        have f4_rx_6 := frozen_of_row _ _ 4 _ _ rx_6
        have f5_rx_6 := frozen_of_row _ _ 5 _ _ rx_6
        simp at r0_rx_6 r1_rx_6 r2_rx_6 r3_rx_6 r4_rx_6 r5_rx_6
        clear rx_6
        clear r0_rs_5 f0_rs_5 r1_rs_5 f1_rs_5 r2_rs_5 f2_rs_5 r3_rs_5 f3_rs_5 r4_rs_5 f4_rs_5 r5_rs_5 f5_rs_5
        clear r0_rx_5 f0_rx_5 r1_rx_5 f1_rx_5 r2_rx_5 f2_rx_5 r3_rx_5 f3_rx_5 r4_rx_5 f4_rx_5 r5_rx_5 f5_rx_5
        go_wp2_with fail
        have hb7 : Below w6.heap.size w6 (w6.alloc (.cells #[.int .i64 u, .string d, .bool false] 39)) := (by repeat (first | with_reducible exact Below.refl _ _ | with_reducible assumption | with_reducible refine Below.drew ?_ | with_reducible refine Below.alloc ?_ (by first | exact Nat.le_refl _ | omega | (simp; done) | (simp; omega)) _ | with_reducible refine Below.setCell ?_ (by first | exact Nat.le_refl _ | omega | (simp; done) | (simp; omega)) _ | (with_reducible refine ext_trans ?_ (by with_reducible assumption))))
        have rc_7 : (w6.alloc (.cells #[.int .i64 u, .string d, .bool false] 39)).heap[w6.heap.size]? = some (.cells #[.int .i64 u, .string d, .bool false] 39 (0, 0)) := (by repeat (first | exact heap_new _ _ _ (by first | rfl | (simp; done) | (simp; omega)) | refine (Below.heap_alloc _ _ _ (by first | omega | (simp; done) | (simp; omega))).trans ?_))
        have lNc_7 : w6.heap.size < (w6.alloc (.cells #[.int .i64 u, .string d, .bool false] 39)).heap.size := by simp
        generalize (w6.alloc (.cells #[.int .i64 u, .string d, .bool false] 39)) = w7 at *
        have hz7 := hb7.size
        (try simp at hz7)
        have rs_7 := (hb7.block _ (by first | omega | (simp; done) | (simp; omega))).trans Rs_6.out
        have rx_7 := (hb7.block _ (by first | omega | (simp; done) | (simp; omega))).trans Rx_6.out
        have hw7 : Below w.heap.size w w7 := (by repeat (first | with_reducible exact Below.refl _ _ | with_reducible assumption | with_reducible refine Below.drew ?_ | with_reducible refine Below.alloc ?_ (by first | exact Nat.le_refl _ | omega | (simp; done) | (simp; omega)) _ | with_reducible refine Below.setCell ?_ (by first | exact Nat.le_refl _ | omega | (simp; done) | (simp; omega)) _ | (with_reducible refine ext_trans ?_ (by with_reducible assumption))))
        have lRs_7 : w1.heap.size < w7.heap.size := by omega
        have lRx_7 : w2.heap.size < w7.heap.size := by omega
        have lRc_7 : w6.heap.size < w7.heap.size := by omega
        have Rs_7 := Lib.hid rs_7
        have r0_rs_7 := cell_of_row _ _ 0 _ _ _ rs_7
        have r1_rs_7 := cell_of_row _ _ 1 _ _ _ rs_7
        have r2_rs_7 := cell_of_row _ _ 2 _ _ _ rs_7
        have r3_rs_7 := cell_of_row _ _ 3 _ _ _ rs_7
        have r4_rs_7 := cell_of_row _ _ 4 _ _ _ rs_7
        have r5_rs_7 := cell_of_row _ _ 5 _ _ _ rs_7
        have f0_rs_7 := frozen_of_row _ _ 0 _ _ rs_7
        have f1_rs_7 := frozen_of_row _ _ 1 _ _ rs_7
        have f2_rs_7 := frozen_of_row _ _ 2 _ _ rs_7
        have f3_rs_7 := frozen_of_row _ _ 3 _ _ rs_7
        have f4_rs_7 := frozen_of_row _ _ 4 _ _ rs_7
        have f5_rs_7 := frozen_of_row _ _ 5 _ _ rs_7
        simp at r0_rs_7 r1_rs_7 r2_rs_7 r3_rs_7 r4_rs_7 r5_rs_7
        clear rs_7
        have Rx_7 := Lib.hid rx_7
        have r0_rx_7 := cell_of_row _ _ 0 _ _ _ rx_7
        have r1_rx_7 := cell_of_row _ _ 1 _ _ _ rx_7
        have r2_rx_7 := cell_of_row _ _ 2 _ _ _ rx_7
        have r3_rx_7 := cell_of_row _ _ 3 _ _ _ rx_7
        have r4_rx_7 := cell_of_row _ _ 4 _ _ _ rx_7
        have r5_rx_7 := cell_of_row _ _ 5 _ _ _ rx_7
        have f0_rx_7 := frozen_of_row _ _ 0 _ _ rx_7
        have f1_rx_7 := frozen_of_row _ _ 1 _ _ rx_7
        have f2_rx_7 := frozen_of_row _ _ 2 _ _ rx_7
        have f3_rx_7 := frozen_of_row _ _ 3 _ _ rx_7
        have f4_rx_7 := frozen_of_row _ _ 4 _ _ rx_7
        have f5_rx_7 := frozen_of_row _ _ 5 _ _ rx_7
        simp at r0_rx_7 r1_rx_7 r2_rx_7 r3_rx_7 r4_rx_7 r5_rx_7
        clear rx_7
        have Rc_7 := Lib.hid rc_7
        have r0_rc_7 := cell_of_row _ _ 0 _ _ _ rc_7
        have r1_rc_7 := cell_of_row _ _ 1 _ _ _ rc_7
        have r2_rc_7 := cell_of_row _ _ 2 _ _ _ rc_7
        have f0_rc_7 := frozen_of_row _ _ 0 _ _ rc_7
        have f1_rc_7 := frozen_of_row _ _ 1 _ _ rc_7
        have f2_rc_7 := frozen_of_row _ _ 2 _ _ rc_7
        simp at r0_rc_7 r1_rc_7 r2_rc_7
        clear rc_7
        clear r0_rs_6 f0_rs_6 r1_rs_6 f1_rs_6 r2_rs_6 f2_rs_6 r3_rs_6 f3_rs_6 r4_rs_6 f4_rs_6 r5_rs_6 f5_rs_6
        clear r0_rx_6 f0_rx_6 r1_rx_6 f1_rx_6 r2_rx_6 f2_rx_6 r3_rx_6 f3_rx_6 r4_rx_6 f4_rx_6 r5_rx_6 f5_rx_6
        go_wp2_with fail
        go_cut [2] (fun z wx => z = .bool true ∧ Below w7.heap.size w7 wx)
        case rest =>
          obtain ⟨rfl, hbz⟩ := hcut
          go_wp2_with fail
          go_ret
          exact ⟨rfl, hw7.trans (hbz.mono hw7.size)⟩
        case first =>
          refine wp_region_noPanic ?_
          refine wp_region_held_drew (S := (fun w' => (∀ b' o, b' < w7.heap.size → w'.cell? ⟨b', o, none⟩ = w7.cell? ⟨b', o, none⟩) ∧ Below w7.heap.size w7 w')) (by kernel_rfl) (by first | exact rg_start _) (fun hHeld => ?_)
          refine wpAnyH_take (i := 0) (oi := _) (v := ?v0_169) rfl (by kernel_rfl) (by kernel_rfl) (by kernel_rfl) (fun _ _ _ h => h) (Or.inl ⟨by rfl, ?hy0_169⟩) (by with_reducible assumption) ?rest0_169
          case hy0_169 => ((intro w hSw; (try dsimp only at hSw); go_simp); (try with_reducible rfl))
          (try simp only [Act.put, List.getElem_toArray, List.getElem_cons_succ, List.getElem_cons_zero, List.setIfInBounds_toArray, List.set_cons_zero, List.set_cons_succ])
          refine wpAnyH_ready (rs := [1]) (by kernel_rfl) (by simp) ?_
          refine AllReadyH.cons (o := _) rfl (fun K hK => ?_) AllReadyH.nil
          go_simp
          go_at_call 19; ((with_reducible refine (Y5.out _).mono ?_); (rintro e wq7 ⟨rfl, hbq7⟩; have hSq7 := rg_keepK (by with_reducible assumption) hbq7))
          go_wp2_with fail
          refine hK.out _ _ ?_ (fun hHeld => ?_)
          · (try dsimp only); (first | with_reducible assumption | (with_reducible apply rg_keep; rotate_left; with_reducible assumption; with_reducible assumption) | with_reducible exact rg_start _ | with_reducible exact rg_alloc (KeptS.out (by with_reducible assumption)) _ | with_reducible exact rg_alloc (by with_reducible assumption) _ | with_reducible exact rg_start_alloc _ _ | ((repeat (with_reducible refine rg_set ?_ _ (by first | exact Nat.le_refl _ | omega | (simp; done) | (simp; omega)) _)); first | with_reducible exact KeptS.out (by with_reducible assumption) | with_reducible assumption | with_reducible exact rg_alloc (KeptS.out (by with_reducible assumption)) _))
          clear hK K
          (try simp only [Act.put, List.getElem_toArray, List.getElem_cons_succ, List.getElem_cons_zero, List.setIfInBounds_toArray, List.set_cons_zero, List.set_cons_succ])
          refine wpAnyH_take (i := 2) (oi := _) (v := ?v2_170) rfl (by kernel_rfl) (by kernel_rfl) (by kernel_rfl) (fun _ _ _ h => h) (Or.inl ⟨by rfl, ?hy2_170⟩) (by with_reducible assumption) ?rest2_170
          case hy2_170 => ((intro w hSw; (try dsimp only at hSw); go_simp); (try with_reducible rfl))
          (try simp only [Act.put, List.getElem_toArray, List.getElem_cons_succ, List.getElem_cons_zero, List.setIfInBounds_toArray, List.set_cons_zero, List.set_cons_succ])
          refine wpAnyH_take (i := 3) (oi := _) (v := ?v3_171) rfl (by kernel_rfl) (by kernel_rfl) (by kernel_rfl) (fun _ _ _ h => h) (Or.inl ⟨by rfl, ?hy3_171⟩) (by with_reducible assumption) ?rest3_171
          case hy3_171 => ((intro w hSw; (try dsimp only at hSw); go_simp); (try with_reducible rfl))
          (try simp only [Act.put, List.getElem_toArray, List.getElem_cons_succ, List.getElem_cons_zero, List.setIfInBounds_toArray, List.set_cons_zero, List.set_cons_succ])
          refine wpAnyH_take (i := 5) (oi := _) (v := ?v5_172) rfl (by kernel_rfl) (by kernel_rfl) (by kernel_rfl) (fun _ _ _ h => h) (Or.inl ⟨by rfl, ?hy5_172⟩) (by with_reducible assumption) ?rest5_172
          case hy5_172 => ((intro w hSw; (try dsimp only at hSw); go_simp); (try with_reducible rfl))
          (try simp only [Act.put, List.getElem_toArray, List.getElem_cons_succ, List.getElem_cons_zero, List.setIfInBounds_toArray, List.set_cons_zero, List.set_cons_succ])
          refine wpAnyH_take (i := 6) (oi := _) (v := ?v6_173) rfl (by kernel_rfl) (by kernel_rfl) (by kernel_rfl) (fun _ _ _ h => h) (Or.inl ⟨by rfl, ?hy6_173⟩) (by with_reducible assumption) ?rest6_173
          case hy6_173 => ((intro w hSw; (try dsimp only at hSw); go_simp); (try with_reducible rfl))
          (try simp only [Act.put, List.getElem_toArray, List.getElem_cons_succ, List.getElem_cons_zero, List.setIfInBounds_toArray, List.set_cons_zero, List.set_cons_succ])
          refine wpAnyH_ready (rs := [4]) (by kernel_rfl) (by simp) ?_
          refine AllReadyH.cons (o := _) rfl (fun K hK => ?_) AllReadyH.nil
          go_simp
          go_at_call 17; ((with_reducible refine (Y6.out _).mono ?_); (rintro e wq8 ⟨rfl, hbq8⟩; have hSq8 := rg_keepK (by with_reducible assumption) hbq8))
          go_wp2_with fail
          refine hK.out _ _ ?_ (fun hHeld => ?_)
          · (try dsimp only); (first | with_reducible assumption | (with_reducible apply rg_keep; rotate_left; with_reducible assumption; with_reducible assumption) | with_reducible exact rg_start _ | with_reducible exact rg_alloc (KeptS.out (by with_reducible assumption)) _ | with_reducible exact rg_alloc (by with_reducible assumption) _ | with_reducible exact rg_start_alloc _ _ | ((repeat (with_reducible refine rg_set ?_ _ (by first | exact Nat.le_refl _ | omega | (simp; done) | (simp; omega)) _)); first | with_reducible exact KeptS.out (by with_reducible assumption) | with_reducible assumption | with_reducible exact rg_alloc (KeptS.out (by with_reducible assumption)) _))
          clear hK K
          (try simp only [Act.put, List.getElem_toArray, List.getElem_cons_succ, List.getElem_cons_zero, List.setIfInBounds_toArray, List.set_cons_zero, List.set_cons_succ])
          refine wpAnyH_take (i := 7) (oi := _) (v := ?v7_174) rfl (by kernel_rfl) (by kernel_rfl) (by kernel_rfl) (fun _ _ _ h => h) (Or.inl ⟨by rfl, ?hy7_174⟩) (by with_reducible assumption) ?rest7_174
          case hy7_174 => ((intro w hSw; (try dsimp only at hSw); go_simp); (try with_reducible rfl))
          (try simp only [Act.put, List.getElem_toArray, List.getElem_cons_succ, List.getElem_cons_zero, List.setIfInBounds_toArray, List.set_cons_zero, List.set_cons_succ])
          refine wpAnyH_take (i := 8) (oi := _) (v := ?v8_175) rfl (by kernel_rfl) (by kernel_rfl) (by kernel_rfl) (fun _ _ _ h => h) (Or.inl ⟨by rfl, ?hy8_175⟩) (by with_reducible assumption) ?rest8_175
          case hy8_175 => ((intro w hSw; (try dsimp only at hSw); go_simp); (try with_reducible rfl))
          (try simp only [Act.put, List.getElem_toArray, List.getElem_cons_succ, List.getElem_cons_zero, List.setIfInBounds_toArray, List.set_cons_zero, List.set_cons_succ])
          refine wpAnyH_take (i := 9) (oi := _) (v := ?v9_176) rfl (by kernel_rfl) (by kernel_rfl) (by kernel_rfl) (fun _ _ _ h => h) (Or.inl ⟨by rfl, ?hy9_176⟩) (by with_reducible assumption) ?rest9_176
          case hy9_176 => ((intro w hSw; (try dsimp only at hSw); go_simp); (try with_reducible rfl))
          (try simp only [Act.put, List.getElem_toArray, List.getElem_cons_succ, List.getElem_cons_zero, List.setIfInBounds_toArray, List.set_cons_zero, List.set_cons_succ])
          refine wpAnyH_take (i := 10) (oi := _) (v := ?v10_177) rfl (by kernel_rfl) (by kernel_rfl) (by kernel_rfl) (fun _ _ _ h => h) (Or.inl ⟨by rfl, ?hy10_177⟩) (by with_reducible assumption) ?rest10_177
          case hy10_177 => ((intro w hSw; (try dsimp only at hSw); go_simp); (try with_reducible rfl))
          (try simp only [Act.put, List.getElem_toArray, List.getElem_cons_succ, List.getElem_cons_zero, List.setIfInBounds_toArray, List.set_cons_zero, List.set_cons_succ])
          refine wpAnyH_take (i := 11) (oi := _) (v := ?v11_178) rfl (by kernel_rfl) (by kernel_rfl) (by kernel_rfl) (fun _ _ _ h => h) (Or.inl ⟨by rfl, ?hy11_178⟩) (by with_reducible assumption) ?rest11_178
          case hy11_178 => ((intro w hSw; (try dsimp only at hSw); go_simp); (try with_reducible rfl))
          (try simp only [Act.put, List.getElem_toArray, List.getElem_cons_succ, List.getElem_cons_zero, List.setIfInBounds_toArray, List.set_cons_zero, List.set_cons_succ])
          refine wpAnyH_take (i := 12) (oi := _) (v := ?v12_179) rfl (by kernel_rfl) (by kernel_rfl) (by kernel_rfl) (fun _ _ _ h => h) (Or.inl ⟨by rfl, ?hy12_179⟩) (by with_reducible assumption) ?rest12_179
          case hy12_179 => ((intro w hSw; (try dsimp only at hSw); go_simp); (try with_reducible rfl))
          (try simp only [Act.put, List.getElem_toArray, List.getElem_cons_succ, List.getElem_cons_zero, List.setIfInBounds_toArray, List.set_cons_zero, List.set_cons_succ])
          refine wpAnyH_take (i := 13) (oi := _) (v := ?v13_180) rfl (by kernel_rfl) (by kernel_rfl) (by kernel_rfl) (fun _ _ _ h => h) (Or.inl ⟨by rfl, ?hy13_180⟩) (by with_reducible assumption) ?rest13_180
          case hy13_180 => ((intro w hSw; (try dsimp only at hSw); go_simp); (try with_reducible rfl))
          (try simp only [Act.put, List.getElem_toArray, List.getElem_cons_succ, List.getElem_cons_zero, List.setIfInBounds_toArray, List.set_cons_zero, List.set_cons_succ])
          refine wpAnyH_take (i := 14) (oi := _) (v := ?v14_181) rfl (by kernel_rfl) (by kernel_rfl) (by kernel_rfl) (fun _ _ _ h => h) (Or.inl ⟨by rfl, ?hy14_181⟩) (by with_reducible assumption) ?rest14_181
          case hy14_181 => ((intro w hSw; (try dsimp only at hSw); go_simp); (try with_reducible rfl))
          (try simp only [Act.put, List.getElem_toArray, List.getElem_cons_succ, List.getElem_cons_zero, List.setIfInBounds_toArray, List.set_cons_zero, List.set_cons_succ])
          refine wpAnyH_take (i := 15) (oi := _) (v := ?v15_182) rfl (by kernel_rfl) (by kernel_rfl) (by kernel_rfl) (fun _ _ _ h => h) (Or.inl ⟨by rfl, ?hy15_182⟩) (by with_reducible assumption) ?rest15_182
          case hy15_182 => ((intro w hSw; (try dsimp only at hSw); go_simp); (try with_reducible rfl))
          (try simp only [Act.put, List.getElem_toArray, List.getElem_cons_succ, List.getElem_cons_zero, List.setIfInBounds_toArray, List.set_cons_zero, List.set_cons_succ])
          refine wpAnyH_take (i := 16) (oi := _) (v := ?v16_183) rfl (by kernel_rfl) (by kernel_rfl) (by kernel_rfl) (fun _ _ _ h => h) (Or.inl ⟨by rfl, ?hy16_183⟩) (by with_reducible assumption) ?rest16_183
          case hy16_183 => ((intro w hSw; (try dsimp only at hSw); go_simp); (try with_reducible rfl))
          (try simp only [Act.put, List.getElem_toArray, List.getElem_cons_succ, List.getElem_cons_zero, List.setIfInBounds_toArray, List.set_cons_zero, List.set_cons_succ])
          refine wpAnyH_take (i := 17) (oi := _) (v := ?v17_184) rfl (by kernel_rfl) (by kernel_rfl) (by kernel_rfl) (fun _ _ _ h => h) (Or.inl ⟨by rfl, ?hy17_184⟩) (by with_reducible assumption) ?rest17_184
          case hy17_184 => ((intro w hSw; (try dsimp only at hSw); go_simp); (try with_reducible rfl))
          (try simp only [Act.put, List.getElem_toArray, List.getElem_cons_succ, List.getElem_cons_zero, List.setIfInBounds_toArray, List.set_cons_zero, List.set_cons_succ])
          refine wpAnyH_take (i := 18) (oi := _) (v := ?v18_185) rfl (by kernel_rfl) (by kernel_rfl) (by kernel_rfl) (fun _ _ _ h => h) (Or.inl ⟨by rfl, ?hy18_185⟩) (by with_reducible assumption) ?rest18_185
          case hy18_185 => ((intro w hSw; (try dsimp only at hSw); go_simp); (try with_reducible rfl))
          (try simp only [Act.put, List.getElem_toArray, List.getElem_cons_succ, List.getElem_cons_zero, List.setIfInBounds_toArray, List.set_cons_zero, List.set_cons_succ])
          refine wpAnyH_take (i := 19) (oi := _) (v := ?v19_186) rfl (by kernel_rfl) (by kernel_rfl) (by kernel_rfl) (fun _ _ _ h => h) (Or.inl ⟨by rfl, ?hy19_186⟩) (by with_reducible assumption) ?rest19_186
          case hy19_186 => ((intro w hSw; (try dsimp only at hSw); go_simp); (try with_reducible rfl))
          (try simp only [Act.put, List.getElem_toArray, List.getElem_cons_succ, List.getElem_cons_zero, List.setIfInBounds_toArray, List.set_cons_zero, List.set_cons_succ])
          refine wpAnyH_take (i := 20) (oi := _) (v := ?v20_187) rfl (by kernel_rfl) (by kernel_rfl) (by kernel_rfl) (fun _ _ _ h => h) (Or.inl ⟨by rfl, ?hy20_187⟩) (by with_reducible assumption) ?rest20_187
          case hy20_187 => ((intro w hSw; (try dsimp only at hSw); go_simp); (try with_reducible rfl))
          (try simp only [Act.put, List.getElem_toArray, List.getElem_cons_succ, List.getElem_cons_zero, List.setIfInBounds_toArray, List.set_cons_zero, List.set_cons_succ])
          refine wpAnyH_take (i := 21) (oi := _) (v := ?v21_188) rfl (by kernel_rfl) (by kernel_rfl) (by kernel_rfl) (fun _ _ _ h => h) (Or.inl ⟨by rfl, ?hy21_188⟩) (by with_reducible assumption) ?rest21_188
          case hy21_188 => ((intro w hSw; (try dsimp only at hSw); go_simp); (try with_reducible rfl))
          (try simp only [Act.put, List.getElem_toArray, List.getElem_cons_succ, List.getElem_cons_zero, List.setIfInBounds_toArray, List.set_cons_zero, List.set_cons_succ])
          refine wpAnyH_take (i := 22) (oi := _) (v := undef) rfl (by kernel_rfl) (by kernel_rfl) (by kernel_rfl) (fun _ _ _ h => h) (Or.inr ⟨by rfl, rfl⟩) (by with_reducible assumption) ?rest22_189
          (try simp only [Act.put, List.getElem_toArray, List.getElem_cons_succ, List.getElem_cons_zero, List.setIfInBounds_toArray, List.set_cons_zero, List.set_cons_succ])
          refine wpAnyH_take (i := 23) (oi := _) (v := undef) rfl (by kernel_rfl) (by kernel_rfl) (by kernel_rfl) (fun _ _ _ h => h) (Or.inr ⟨by rfl, rfl⟩) (by with_reducible assumption) ?rest23_190
          (try simp only [Act.put, List.getElem_toArray, List.getElem_cons_succ, List.getElem_cons_zero, List.setIfInBounds_toArray, List.set_cons_zero, List.set_cons_succ])
          refine wpAnyH_take (i := 24) (oi := _) (v := undef) rfl (by kernel_rfl) (by kernel_rfl) (by kernel_rfl) (fun _ _ _ h => h) (Or.inr ⟨by rfl, rfl⟩) (by with_reducible assumption) ?rest24_191
          (try simp only [Act.put, List.getElem_toArray, List.getElem_cons_succ, List.getElem_cons_zero, List.setIfInBounds_toArray, List.set_cons_zero, List.set_cons_succ])
          refine wpAnyH_take (i := 25) (oi := _) (v := undef) rfl (by kernel_rfl) (by kernel_rfl) (by kernel_rfl) (fun _ _ _ h => h) (Or.inr ⟨by rfl, rfl⟩) (by with_reducible assumption) ?rest25_192
          (try simp only [Act.put, List.getElem_toArray, List.getElem_cons_succ, List.getElem_cons_zero, List.setIfInBounds_toArray, List.set_cons_zero, List.set_cons_succ])
          refine wpAnyH_take (i := 26) (oi := _) (v := undef) rfl (by kernel_rfl) (by kernel_rfl) (by kernel_rfl) (fun _ _ _ h => h) (Or.inr ⟨by rfl, rfl⟩) (by with_reducible assumption) ?rest26_193
          (try simp only [Act.put, List.getElem_toArray, List.getElem_cons_succ, List.getElem_cons_zero, List.setIfInBounds_toArray, List.set_cons_zero, List.set_cons_succ])
          refine wpAnyH_take (i := 27) (oi := _) (v := undef) rfl (by kernel_rfl) (by kernel_rfl) (by kernel_rfl) (fun _ _ _ h => h) (Or.inr ⟨by rfl, rfl⟩) (by with_reducible assumption) ?rest27_194
          (try simp only [Act.put, List.getElem_toArray, List.getElem_cons_succ, List.getElem_cons_zero, List.setIfInBounds_toArray, List.set_cons_zero, List.set_cons_succ])
          refine wpAnyH_take (i := 28) (oi := _) (v := undef) rfl (by kernel_rfl) (by kernel_rfl) (by kernel_rfl) (fun _ _ _ h => h) (Or.inr ⟨by rfl, rfl⟩) (by with_reducible assumption) ?rest28_195
          (try simp only [Act.put, List.getElem_toArray, List.getElem_cons_succ, List.getElem_cons_zero, List.setIfInBounds_toArray, List.set_cons_zero, List.set_cons_succ])
          refine wpAnyH_take (i := 29) (oi := _) (v := ?v29_196) rfl (by kernel_rfl) (by kernel_rfl) (by kernel_rfl) (fun _ _ _ h => h) (Or.inl ⟨by rfl, ?hy29_196⟩) (by with_reducible assumption) ?rest29_196
          case hy29_196 => ((intro w hSw; (try dsimp only at hSw); go_simp); (try with_reducible rfl))
          (try simp only [Act.put, List.getElem_toArray, List.getElem_cons_succ, List.getElem_cons_zero, List.setIfInBounds_toArray, List.set_cons_zero, List.set_cons_succ])
          refine wpAnyH_take (i := 30) (oi := _) (v := ?v30_197) rfl (by kernel_rfl) (by kernel_rfl) (by kernel_rfl) (fun _ _ _ h => h) (Or.inl ⟨by rfl, ?hy30_197⟩) (by with_reducible assumption) ?rest30_197
          case hy30_197 => ((intro w hSw; (try dsimp only at hSw); go_simp); (try with_reducible rfl))
          (try simp only [Act.put, List.getElem_toArray, List.getElem_cons_succ, List.getElem_cons_zero, List.setIfInBounds_toArray, List.set_cons_zero, List.set_cons_succ])
          refine wpAnyH_take (i := 31) (oi := _) (v := ?v31_198) rfl (by kernel_rfl) (by kernel_rfl) (by kernel_rfl) (fun _ _ _ h => h) (Or.inl ⟨by rfl, ?hy31_198⟩) (by with_reducible assumption) ?rest31_198
          case hy31_198 => ((intro w hSw; (try dsimp only at hSw); go_simp); (try with_reducible rfl))
          (try simp only [Act.put, List.getElem_toArray, List.getElem_cons_succ, List.getElem_cons_zero, List.setIfInBounds_toArray, List.set_cons_zero, List.set_cons_succ])
          refine wpAnyH_take (i := 32) (oi := _) (v := ?v32_199) rfl (by kernel_rfl) (by kernel_rfl) (by kernel_rfl) (fun _ _ _ h => h) (Or.inl ⟨by rfl, ?hy32_199⟩) (by with_reducible assumption) ?rest32_199
          case hy32_199 => ((intro w hSw; (try dsimp only at hSw); go_simp); (try with_reducible rfl))
          (try simp only [Act.put, List.getElem_toArray, List.getElem_cons_succ, List.getElem_cons_zero, List.setIfInBounds_toArray, List.set_cons_zero, List.set_cons_succ])
          refine wpAnyH_take (i := 33) (oi := _) (v := ?v33_200) rfl (by kernel_rfl) (by kernel_rfl) (by kernel_rfl) (fun _ _ _ h => h) (Or.inl ⟨by rfl, ?hy33_200⟩) (by with_reducible assumption) ?rest33_200
          case hy33_200 => ((intro w hSw; (try dsimp only at hSw); go_simp); (try with_reducible rfl))
          (try simp only [Act.put, List.getElem_toArray, List.getElem_cons_succ, List.getElem_cons_zero, List.setIfInBounds_toArray, List.set_cons_zero, List.set_cons_succ])
          refine wpAnyH_take (i := 34) (oi := _) (v := ?v34_201) rfl (by kernel_rfl) (by kernel_rfl) (by kernel_rfl) (fun _ _ _ h => h) (Or.inl ⟨by rfl, ?hy34_201⟩) (by with_reducible assumption) ?rest34_201
          case hy34_201 => ((intro w hSw; (try dsimp only at hSw); go_simp); (try with_reducible rfl))
          (try simp only [Act.put, List.getElem_toArray, List.getElem_cons_succ, List.getElem_cons_zero, List.setIfInBounds_toArray, List.set_cons_zero, List.set_cons_succ])
          refine wpAnyH_take (i := 35) (oi := _) (v := ?v35_202) rfl (by kernel_rfl) (by kernel_rfl) (by kernel_rfl) (fun _ _ _ h => h) (Or.inl ⟨by rfl, ?hy35_202⟩) (by with_reducible assumption) ?rest35_202
          case hy35_202 => ((intro w hSw; (try dsimp only at hSw); go_simp); (try with_reducible rfl))
          (try simp only [Act.put, List.getElem_toArray, List.getElem_cons_succ, List.getElem_cons_zero, List.setIfInBounds_toArray, List.set_cons_zero, List.set_cons_succ])
          refine wpAnyH_take (i := 36) (oi := _) (v := ?v36_203) rfl (by kernel_rfl) (by kernel_rfl) (by kernel_rfl) (fun _ _ _ h => h) (Or.inl ⟨by rfl, ?hy36_203⟩) (by with_reducible assumption) ?rest36_203
          case hy36_203 => ((intro w hSw; (try dsimp only at hSw); go_simp); (try with_reducible rfl))
          (try simp only [Act.put, List.getElem_toArray, List.getElem_cons_succ, List.getElem_cons_zero, List.setIfInBounds_toArray, List.set_cons_zero, List.set_cons_succ])
          refine wpAnyH_take (i := 37) (oi := _) (v := ?v37_204) rfl (by kernel_rfl) (by kernel_rfl) (by kernel_rfl) (fun _ _ _ h => h) (Or.inl ⟨by rfl, ?hy37_204⟩) (by with_reducible assumption) ?rest37_204
          case hy37_204 => ((intro w hSw; (try dsimp only at hSw); go_simp); (try with_reducible rfl))
          (try simp only [Act.put, List.getElem_toArray, List.getElem_cons_succ, List.getElem_cons_zero, List.setIfInBounds_toArray, List.set_cons_zero, List.set_cons_succ])
          refine wpAnyH_take (i := 38) (oi := _) (v := ?v38_205) rfl (by kernel_rfl) (by kernel_rfl) (by kernel_rfl) (fun _ _ _ h => h) (Or.inl ⟨by rfl, ?hy38_205⟩) (by with_reducible assumption) ?rest38_205
          case hy38_205 => ((intro w hSw; (try dsimp only at hSw); go_simp); (try with_reducible rfl))
          (try simp only [Act.put, List.getElem_toArray, List.getElem_cons_succ, List.getElem_cons_zero, List.setIfInBounds_toArray, List.set_cons_zero, List.set_cons_succ])
          refine wpAnyH_take (i := 39) (oi := _) (v := ?v39_206) rfl (by kernel_rfl) (by kernel_rfl) (by kernel_rfl) (fun _ _ _ h => h) (Or.inl ⟨by rfl, ?hy39_206⟩) (by with_reducible assumption) ?rest39_206
          case hy39_206 => ((intro w hSw; (try dsimp only at hSw); go_simp); (try with_reducible rfl))
          (try simp only [Act.put, List.getElem_toArray, List.getElem_cons_succ, List.getElem_cons_zero, List.setIfInBounds_toArray, List.set_cons_zero, List.set_cons_succ])
          refine wpAnyH_take (i := 40) (oi := _) (v := ?v40_207) rfl (by kernel_rfl) (by kernel_rfl) (by kernel_rfl) (fun _ _ _ h => h) (Or.inl ⟨by rfl, ?hy40_207⟩) (by with_reducible assumption) ?rest40_207
          case hy40_207 => ((intro w hSw; (try dsimp only at hSw); go_simp); (try with_reducible rfl))
          (try simp only [Act.put, List.getElem_toArray, List.getElem_cons_succ, List.getElem_cons_zero, List.setIfInBounds_toArray, List.set_cons_zero, List.set_cons_succ])
          refine wpAnyH_take (i := 41) (oi := _) (v := ?v41_208) rfl (by kernel_rfl) (by kernel_rfl) (by kernel_rfl) (fun _ _ _ h => h) (Or.inl ⟨by rfl, ?hy41_208⟩) (by with_reducible assumption) ?rest41_208
          case hy41_208 => ((intro w hSw; (try dsimp only at hSw); go_simp); (try with_reducible rfl))
          (try simp only [Act.put, List.getElem_toArray, List.getElem_cons_succ, List.getElem_cons_zero, List.setIfInBounds_toArray, List.set_cons_zero, List.set_cons_succ])
          refine wpAnyH_take (i := 42) (oi := _) (v := ?v42_209) rfl (by kernel_rfl) (by kernel_rfl) (by kernel_rfl) (fun _ _ _ h => h) (Or.inl ⟨by rfl, ?hy42_209⟩) (by with_reducible assumption) ?rest42_209
          case hy42_209 => ((intro w hSw; (try dsimp only at hSw); go_simp); (try with_reducible rfl))
          (try simp only [Act.put, List.getElem_toArray, List.getElem_cons_succ, List.getElem_cons_zero, List.setIfInBounds_toArray, List.set_cons_zero, List.set_cons_succ])
          refine wpAnyH_take (i := 43) (oi := _) (v := ?v43_210) rfl (by kernel_rfl) (by kernel_rfl) (by kernel_rfl) (fun _ _ _ h => h) (Or.inl ⟨by rfl, ?hy43_210⟩) (by with_reducible assumption) ?rest43_210
          case hy43_210 => ((intro w hSw; (try dsimp only at hSw); go_simp); (try with_reducible rfl))
          (try simp only [Act.put, List.getElem_toArray, List.getElem_cons_succ, List.getElem_cons_zero, List.setIfInBounds_toArray, List.set_cons_zero, List.set_cons_succ])
          refine wpAnyH_take (i := 44) (oi := _) (v := ?v44_211) rfl (by kernel_rfl) (by kernel_rfl) (by kernel_rfl) (fun _ _ _ h => h) (Or.inl ⟨by rfl, ?hy44_211⟩) (by with_reducible assumption) ?rest44_211
          case hy44_211 => ((intro w hSw; (try dsimp only at hSw); go_simp); (try with_reducible rfl))
          (try simp only [Act.put, List.getElem_toArray, List.getElem_cons_succ, List.getElem_cons_zero, List.setIfInBounds_toArray, List.set_cons_zero, List.set_cons_succ])
          refine wpAnyH_take (i := 45) (oi := _) (v := ?v45_212) rfl (by kernel_rfl) (by kernel_rfl) (by kernel_rfl) (fun _ _ _ h => h) (Or.inl ⟨by rfl, ?hy45_212⟩) (by with_reducible assumption) ?rest45_212
          case hy45_212 => ((intro w hSw; (try dsimp only at hSw); go_simp); (try with_reducible rfl))
          (try simp only [Act.put, List.getElem_toArray, List.getElem_cons_succ, List.getElem_cons_zero, List.setIfInBounds_toArray, List.set_cons_zero, List.set_cons_succ])
          refine wpAnyH_take (i := 46) (oi := _) (v := ?v46_213) rfl (by kernel_rfl) (by kernel_rfl) (by kernel_rfl) (fun _ _ _ h => h) (Or.inl ⟨by rfl, ?hy46_213⟩) (by with_reducible assumption) ?rest46_213
          case hy46_213 => ((intro w hSw; (try dsimp only at hSw); go_simp); (try with_reducible rfl))
          (try simp only [Act.put, List.getElem_toArray, List.getElem_cons_succ, List.getElem_cons_zero, List.setIfInBounds_toArray, List.set_cons_zero, List.set_cons_succ])
          refine wpAnyH_take (i := 47) (oi := _) (v := ?v47_214) rfl (by kernel_rfl) (by kernel_rfl) (by kernel_rfl) (fun _ _ _ h => h) (Or.inl ⟨by rfl, ?hy47_214⟩) (by with_reducible assumption) ?rest47_214
          case hy47_214 => ((intro w hSw; (try dsimp only at hSw); go_simp); (try with_reducible rfl))
          (try simp only [Act.put, List.getElem_toArray, List.getElem_cons_succ, List.getElem_cons_zero, List.setIfInBounds_toArray, List.set_cons_zero, List.set_cons_succ])
          refine wpAnyH_take (i := 48) (oi := _) (v := ?v48_215) rfl (by kernel_rfl) (by kernel_rfl) (by kernel_rfl) (fun _ _ _ h => h) (Or.inl ⟨by rfl, ?hy48_215⟩) (by with_reducible assumption) ?rest48_215
          case hy48_215 => ((intro w hSw; (try dsimp only at hSw); go_simp); (try with_reducible rfl))
          (try simp only [Act.put, List.getElem_toArray, List.getElem_cons_succ, List.getElem_cons_zero, List.setIfInBounds_toArray, List.set_cons_zero, List.set_cons_succ])
          refine wpAnyH_take (i := 49) (oi := _) (v := ?v49_216) rfl (by kernel_rfl) (by kernel_rfl) (by kernel_rfl) (fun _ _ _ h => h) (Or.inl ⟨by rfl, ?hy49_216⟩) (by with_reducible assumption) ?rest49_216
          case hy49_216 => ((intro w hSw; (try dsimp only at hSw); go_simp); (try with_reducible rfl))
          (try simp only [Act.put, List.getElem_toArray, List.getElem_cons_succ, List.getElem_cons_zero, List.setIfInBounds_toArray, List.set_cons_zero, List.set_cons_succ])
          refine wpAnyH_take (i := 50) (oi := _) (v := ?v50_217) rfl (by kernel_rfl) (by kernel_rfl) (by kernel_rfl) (fun _ _ _ h => h) (Or.inl ⟨by rfl, ?hy50_217⟩) (by with_reducible assumption) ?rest50_217
          case hy50_217 => ((intro w hSw; (try dsimp only at hSw); go_simp); (try with_reducible rfl))
          (try simp only [Act.put, List.getElem_toArray, List.getElem_cons_succ, List.getElem_cons_zero, List.setIfInBounds_toArray, List.set_cons_zero, List.set_cons_succ])
          refine wpAnyH_take (i := 51) (oi := _) (v := ?v51_218) rfl (by kernel_rfl) (by kernel_rfl) (by kernel_rfl) (fun _ _ _ h => h) (Or.inl ⟨by rfl, ?hy51_218⟩) (by with_reducible assumption) ?rest51_218
          case hy51_218 => ((intro w hSw; (try dsimp only at hSw); go_simp); (try with_reducible rfl))
          (try simp only [Act.put, List.getElem_toArray, List.getElem_cons_succ, List.getElem_cons_zero, List.setIfInBounds_toArray, List.set_cons_zero, List.set_cons_succ])
          refine wpAnyH_take (i := 52) (oi := _) (v := ?v52_219) rfl (by kernel_rfl) (by kernel_rfl) (by kernel_rfl) (fun _ _ _ h => h) (Or.inl ⟨by rfl, ?hy52_219⟩) (by with_reducible assumption) ?rest52_219
          case hy52_219 => ((intro w hSw; (try dsimp only at hSw); go_simp); (try with_reducible rfl))
          (try simp only [Act.put, List.getElem_toArray, List.getElem_cons_succ, List.getElem_cons_zero, List.setIfInBounds_toArray, List.set_cons_zero, List.set_cons_succ])
          refine wpAnyH_take (i := 53) (oi := _) (v := ?v53_220) rfl (by kernel_rfl) (by kernel_rfl) (by kernel_rfl) (fun _ _ _ h => h) (Or.inl ⟨by rfl, ?hy53_220⟩) (by with_reducible assumption) ?rest53_220
          case hy53_220 => ((intro w hSw; (try dsimp only at hSw); go_simp); (try with_reducible rfl))
          (try simp only [Act.put, List.getElem_toArray, List.getElem_cons_succ, List.getElem_cons_zero, List.setIfInBounds_toArray, List.set_cons_zero, List.set_cons_succ])
          refine wpAnyH_take (i := 54) (oi := _) (v := ?v54_221) rfl (by kernel_rfl) (by kernel_rfl) (by kernel_rfl) (fun _ _ _ h => h) (Or.inl ⟨by rfl, ?hy54_221⟩) (by with_reducible assumption) ?rest54_221
          case hy54_221 => ((intro w hSw; (try dsimp only at hSw); go_simp); (try with_reducible rfl))
          (try simp only [Act.put, List.getElem_toArray, List.getElem_cons_succ, List.getElem_cons_zero, List.setIfInBounds_toArray, List.set_cons_zero, List.set_cons_succ])
          refine wpAnyH_take (i := 55) (oi := _) (v := ?v55_222) rfl (by kernel_rfl) (by kernel_rfl) (by kernel_rfl) (fun _ _ _ h => h) (Or.inl ⟨by rfl, ?hy55_222⟩) (by with_reducible assumption) ?rest55_222
          case hy55_222 => ((intro w hSw; (try dsimp only at hSw); go_simp); (try with_reducible rfl))
          (try simp only [Act.put, List.getElem_toArray, List.getElem_cons_succ, List.getElem_cons_zero, List.setIfInBounds_toArray, List.set_cons_zero, List.set_cons_succ])
          refine wpAnyH_take (i := 56) (oi := _) (v := ?v56_223) rfl (by kernel_rfl) (by kernel_rfl) (by kernel_rfl) (fun _ _ _ h => h) (Or.inl ⟨by rfl, ?hy56_223⟩) (by with_reducible assumption) ?rest56_223
          case hy56_223 => ((intro w hSw; (try dsimp only at hSw); go_simp); (try with_reducible rfl))
          (try simp only [Act.put, List.getElem_toArray, List.getElem_cons_succ, List.getElem_cons_zero, List.setIfInBounds_toArray, List.set_cons_zero, List.set_cons_succ])
          refine wpAnyH_take (i := 57) (oi := _) (v := ?v57_224) rfl (by kernel_rfl) (by kernel_rfl) (by kernel_rfl) (fun _ _ _ h => h) (Or.inl ⟨by rfl, ?hy57_224⟩) (by with_reducible assumption) ?rest57_224
          case hy57_224 => ((intro w hSw; (try dsimp only at hSw); go_simp); (try with_reducible rfl))
          (try simp only [Act.put, List.getElem_toArray, List.getElem_cons_succ, List.getElem_cons_zero, List.setIfInBounds_toArray, List.set_cons_zero, List.set_cons_succ])
          refine wpAnyH_done (by kernel_rfl) (NoPanic.normal ?_) _
          go_wp2_with fail
          go_meet
          exact ⟨by first | rfl | simp, (by assumption : _ ∧ Below w7.heap.size w7 _).2⟩
      case true =>
        have hr : chRes u d d.size (true && !false) = .tuple #[.agg #[.int .i64 u, .string d, .bool true], .bool true] := by unfold chRes; rw [if_neg (by simp [hd0])]; rfl
        rw [hr] at y4
        have Y4 := Lib.hid y4
        clear y4 hr
        go_wp2_with fail
        refine (Y2.out _).mono ?_
        rintro e w2 ⟨rfl, hb2⟩
        have hz2 := hb2.size
        (try simp at hz2)
        have rs_2 : w2.heap[w1.heap.size]? = some (.cells #[.int .i64 u, .string d, .int .i64 s, .bool true, .bool fs, .bool false] 26 (0, 0)) := (hb2.block _ (by first | (simp; done) | (simp; omega))).trans (by repeat (first | exact heap_new _ _ _ (by first | rfl | (simp; done) | (simp; omega)) | refine (Below.heap_alloc _ _ _ (by first | omega | (simp; done) | (simp; omega))).trans ?_))
        have hw2 : Below w.heap.size w w2 := (by repeat (first | with_reducible exact Below.refl _ _ | with_reducible assumption | with_reducible refine Below.drew ?_ | with_reducible refine Below.alloc ?_ (by first | exact Nat.le_refl _ | omega | (simp; done) | (simp; omega)) _ | with_reducible refine Below.setCell ?_ (by first | exact Nat.le_refl _ | omega | (simp; done) | (simp; omega)) _ | (with_reducible refine ext_trans ?_ (by with_reducible assumption))))
        have lRs_2 : w1.heap.size < w2.heap.size := by omega
        have Rs_2 := Lib.hid rs_2
        have r0_rs_2 := cell_of_row _ _ 0 _ _ _ rs_2
        have r1_rs_2 := cell_of_row _ _ 1 _ _ _ rs_2
        have r2_rs_2 := cell_of_row _ _ 2 _ _ _ rs_2
        have r3_rs_2 := cell_of_row _ _ 3 _ _ _ rs_2
        have r4_rs_2 := cell_of_row _ _ 4 _ _ _ rs_2
        have r5_rs_2 := cell_of_row _ _ 5 _ _ _ rs_2
        have f0_rs_2 := frozen_of_row _ _ 0 _ _ rs_2
        have f1_rs_2 := frozen_of_row _ _ 1 _ _ rs_2
        have f2_rs_2 := frozen_of_row _ _ 2 _ _ rs_2
        have f3_rs_2 := frozen_of_row _ _ 3 _ _ rs_2
        have f4_rs_2 := frozen_of_row _ _ 4 _ _ rs_2
        have f5_rs_2 := frozen_of_row _ _ 5 _ _ rs_2
        simp at r0_rs_2 r1_rs_2 r2_rs_2 r3_rs_2 r4_rs_2 r5_rs_2
        clear rs_2
        go_wp2_with fail
        have hb3 : Below w2.heap.size w2 (w2.alloc (.cells #[.int .i64 u, .string d, .int .i64 0, .bool true, .bool false, .bool false] 26)) := (by repeat (first | with_reducible exact Below.refl _ _ | with_reducible assumption | with_reducible refine Below.drew ?_ | with_reducible refine Below.alloc ?_ (by first | exact Nat.le_refl _ | omega | (simp; done) | (simp; omega)) _ | with_reducible refine Below.setCell ?_ (by first | exact Nat.le_refl _ | omega | (simp; done) | (simp; omega)) _ | (with_reducible refine ext_trans ?_ (by with_reducible assumption))))
        have rx_3 : (w2.alloc (.cells #[.int .i64 u, .string d, .int .i64 0, .bool true, .bool false, .bool false] 26)).heap[w2.heap.size]? = some (.cells #[.int .i64 u, .string d, .int .i64 0, .bool true, .bool false, .bool false] 26 (0, 0)) := (by repeat (first | exact heap_new _ _ _ (by first | rfl | (simp; done) | (simp; omega)) | refine (Below.heap_alloc _ _ _ (by first | omega | (simp; done) | (simp; omega))).trans ?_))
        have lNx_3 : w2.heap.size < (w2.alloc (.cells #[.int .i64 u, .string d, .int .i64 0, .bool true, .bool false, .bool false] 26)).heap.size := by simp
        generalize (w2.alloc (.cells #[.int .i64 u, .string d, .int .i64 0, .bool true, .bool false, .bool false] 26)) = w3 at *
        have hz3 := hb3.size
        (try simp at hz3)
        have rs_3 := (hb3.block _ (by first | omega | (simp; done) | (simp; omega))).trans Rs_2.out
        have hw3 : Below w.heap.size w w3 := (by repeat (first | with_reducible exact Below.refl _ _ | with_reducible assumption | with_reducible refine Below.drew ?_ | with_reducible refine Below.alloc ?_ (by first | exact Nat.le_refl _ | omega | (simp; done) | (simp; omega)) _ | with_reducible refine Below.setCell ?_ (by first | exact Nat.le_refl _ | omega | (simp; done) | (simp; omega)) _ | (with_reducible refine ext_trans ?_ (by with_reducible assumption))))
        have lRs_3 : w1.heap.size < w3.heap.size := by omega
        have lRx_3 : w2.heap.size < w3.heap.size := by omega
        have Rs_3 := Lib.hid rs_3
        have r0_rs_3 := cell_of_row _ _ 0 _ _ _ rs_3
        have r1_rs_3 := cell_of_row _ _ 1 _ _ _ rs_3
        have r2_rs_3 := cell_of_row _ _ 2 _ _ _ rs_3
        have r3_rs_3 := cell_of_row _ _ 3 _ _ _ rs_3
        have r4_rs_3 := cell_of_row _ _ 4 _ _ _ rs_3
        have r5_rs_3 := cell_of_row _ _ 5 _ _ _ rs_3
        have f0_rs_3 := frozen_of_row _ _ 0 _ _ rs_3
        have f1_rs_3 := frozen_of_row _ _ 1 _ _ rs_3
        have f2_rs_3 := frozen_of_row _ _ 2 _ _ rs_3
        have f3_rs_3 := frozen_of_row _ _ 3 _ _ rs_3
        have f4_rs_3 := frozen_of_row _ _ 4 _ _ rs_3
        have f5_rs_3 := frozen_of_row _ _ 5 _ _ rs_3
        simp at r0_rs_3 r1_rs_3 r2_rs_3 r3_rs_3 r4_rs_3 r5_rs_3
        clear rs_3
        have Rx_3 := Lib.hid rx_3
        have r0_rx_3 := cell_of_row _ _ 0 _ _ _ rx_3
        have r1_rx_3 := cell_of_row _ _ 1 _ _ _ rx_3
        have r2_rx_3 := cell_of_row _ _ 2 _ _ _ rx_3
        have r3_rx_3 := cell_of_row _ _ 3 _ _ _ rx_3
        have r4_rx_3 := cell_of_row _ _ 4 _ _ _ rx_3
        have r5_rx_3 := cell_of_row _ _ 5 _ _ _ rx_3
        have f0_rx_3 := frozen_of_row _ _ 0 _ _ rx_3
        have f1_rx_3 := frozen_of_row _ _ 1 _ _ rx_3
        have f2_rx_3 := frozen_of_row _ _ 2 _ _ rx_3
        have f3_rx_3 := frozen_of_row _ _ 3 _ _ rx_3
        have f4_rx_3 := frozen_of_row _ _ 4 _ _ rx_3
        have f5_rx_3 := frozen_of_row _ _ 5 _ _ rx_3
        simp at r0_rx_3 r1_rx_3 r2_rx_3 r3_rx_3 r4_rx_3 r5_rx_3
        clear rx_3
        clear r0_rs_2 f0_rs_2 r1_rs_2 f1_rs_2 r2_rs_2 f2_rs_2 r3_rs_2 f3_rs_2 r4_rs_2 f4_rs_2 r5_rs_2 f5_rs_2
        go_wp2_with fail
        go_cut [16] (fun z wx => z = .bool false ∧ Below w3.heap.size w3 wx)
        case first =>
          first | go_region_held3 (fun w' => (∀ b' o, b' < (w3).heap.size → w'.cell? ⟨b', o, none⟩ = (w3).cell? ⟨b', o, none⟩) ∧ Below (w3).heap.size (w3) w') (first | with_reducible assumption | (with_reducible apply rg_keep; rotate_left; with_reducible assumption; with_reducible assumption) | with_reducible exact rg_start _ | with_reducible exact rg_alloc (KeptS.out (by with_reducible assumption)) _ | with_reducible exact rg_alloc (by with_reducible assumption) _ | with_reducible exact rg_start_alloc _ _ | ((repeat (with_reducible refine rg_set ?_ _ (by first | exact Nat.le_refl _ | omega | (simp; done) | (simp; omega)) _)); first | with_reducible exact KeptS.out (by with_reducible assumption) | with_reducible assumption | with_reducible exact rg_alloc (KeptS.out (by with_reducible assumption)) _)) (first | (go_at_call 20; ((with_reducible refine (Y1.out _).mono ?_); (rintro e wC ⟨rfl, hbC⟩; have hSC := rg_keepK (by first | with_reducible assumption | exact KeptS.out (by with_reducible assumption)) hbC)))) | fail
          all_goals (go_wp2_with fail; go_meet; exact ⟨rfl, (by assumption : _ ∧ Below w3.heap.size w3 wC).2⟩)
        case rest =>
        obtain ⟨rfl, hb4⟩ := hcut
        rename World => w4
        have hz4 := hb4.size
        (try simp at hz4)
        have rs_4 := (hb4.block _ (by first | omega | (simp; done) | (simp; omega))).trans Rs_3.out
        have rx_4 := (hb4.block _ (by first | omega | (simp; done) | (simp; omega))).trans Rx_3.out
        have hw4 : Below w.heap.size w w4 := (by repeat (first | with_reducible exact Below.refl _ _ | with_reducible assumption | with_reducible refine Below.drew ?_ | with_reducible refine Below.alloc ?_ (by first | exact Nat.le_refl _ | omega | (simp; done) | (simp; omega)) _ | with_reducible refine Below.setCell ?_ (by first | exact Nat.le_refl _ | omega | (simp; done) | (simp; omega)) _ | (with_reducible refine ext_trans ?_ (by with_reducible assumption))))
        have lRs_4 : w1.heap.size < w4.heap.size := by omega
        have lRx_4 : w2.heap.size < w4.heap.size := by omega
        have Rs_4 := Lib.hid rs_4
        have r0_rs_4 := cell_of_row _ _ 0 _ _ _ rs_4
        have r1_rs_4 := cell_of_row _ _ 1 _ _ _ rs_4
        have r2_rs_4 := cell_of_row _ _ 2 _ _ _ rs_4
        have r3_rs_4 := cell_of_row _ _ 3 _ _ _ rs_4
        have r4_rs_4 := cell_of_row _ _ 4 _ _ _ rs_4
        have r5_rs_4 := cell_of_row _ _ 5 _ _ _ rs_4
        have f0_rs_4 := frozen_of_row _ _ 0 _ _ rs_4
        have f1_rs_4 := frozen_of_row _ _ 1 _ _ rs_4
        have f2_rs_4 := frozen_of_row _ _ 2 _ _ rs_4
        have f3_rs_4 := frozen_of_row _ _ 3 _ _ rs_4
        have f4_rs_4 := frozen_of_row _ _ 4 _ _ rs_4
        have f5_rs_4 := frozen_of_row _ _ 5 _ _ rs_4
        simp at r0_rs_4 r1_rs_4 r2_rs_4 r3_rs_4 r4_rs_4 r5_rs_4
        clear rs_4
        have Rx_4 := Lib.hid rx_4
        have r0_rx_4 := cell_of_row _ _ 0 _ _ _ rx_4
        have r1_rx_4 := cell_of_row _ _ 1 _ _ _ rx_4
        have r2_rx_4 := cell_of_row _ _ 2 _ _ _ rx_4
        have r3_rx_4 := cell_of_row _ _ 3 _ _ _ rx_4
        have r4_rx_4 := cell_of_row _ _ 4 _ _ _ rx_4
        have r5_rx_4 := cell_of_row _ _ 5 _ _ _ rx_4
        have f0_rx_4 := frozen_of_row _ _ 0 _ _ rx_4
        have f1_rx_4 := frozen_of_row _ _ 1 _ _ rx_4
        have f2_rx_4 := frozen_of_row _ _ 2 _ _ rx_4
        have f3_rx_4 := frozen_of_row _ _ 3 _ _ rx_4
        have f4_rx_4 := frozen_of_row _ _ 4 _ _ rx_4
        have f5_rx_4 := frozen_of_row _ _ 5 _ _ rx_4
        simp at r0_rx_4 r1_rx_4 r2_rx_4 r3_rx_4 r4_rx_4 r5_rx_4
        clear rx_4
        clear r0_rs_3 f0_rs_3 r1_rs_3 f1_rs_3 r2_rs_3 f2_rs_3 r3_rs_3 f3_rs_3 r4_rs_3 f4_rs_3 r5_rs_3 f5_rs_3
        clear r0_rx_3 f0_rx_3 r1_rx_3 f1_rx_3 r2_rx_3 f2_rx_3 r3_rx_3 f3_rx_3 r4_rx_3 f4_rx_3 r5_rx_3 f5_rx_3
        go_wp2_with fail
        refine (Y3.out _).mono ?_
        rintro e w5 ⟨rfl, hb5⟩
        have hz5 := hb5.size
        (try simp at hz5)
        have rs_5 := (hb5.block _ (by first | omega | (simp; done) | (simp; omega))).trans Rs_4.out
        have rx_5 := (hb5.block _ (by first | omega | (simp; done) | (simp; omega))).trans Rx_4.out
        have hw5 : Below w.heap.size w w5 := (by repeat (first | with_reducible exact Below.refl _ _ | with_reducible assumption | with_reducible refine Below.drew ?_ | with_reducible refine Below.alloc ?_ (by first | exact Nat.le_refl _ | omega | (simp; done) | (simp; omega)) _ | with_reducible refine Below.setCell ?_ (by first | exact Nat.le_refl _ | omega | (simp; done) | (simp; omega)) _ | (with_reducible refine ext_trans ?_ (by with_reducible assumption))))
        have lRs_5 : w1.heap.size < w5.heap.size := by omega
        have lRx_5 : w2.heap.size < w5.heap.size := by omega
        have Rs_5 := Lib.hid rs_5
        have r0_rs_5 := cell_of_row _ _ 0 _ _ _ rs_5
        have r1_rs_5 := cell_of_row _ _ 1 _ _ _ rs_5
        have r2_rs_5 := cell_of_row _ _ 2 _ _ _ rs_5
        have r3_rs_5 := cell_of_row _ _ 3 _ _ _ rs_5
        have r4_rs_5 := cell_of_row _ _ 4 _ _ _ rs_5
        have r5_rs_5 := cell_of_row _ _ 5 _ _ _ rs_5
        have f0_rs_5 := frozen_of_row _ _ 0 _ _ rs_5
        have f1_rs_5 := frozen_of_row _ _ 1 _ _ rs_5
        have f2_rs_5 := frozen_of_row _ _ 2 _ _ rs_5
        have f3_rs_5 := frozen_of_row _ _ 3 _ _ rs_5
        have f4_rs_5 := frozen_of_row _ _ 4 _ _ rs_5
        have f5_rs_5 := frozen_of_row _ _ 5 _ _ rs_5
        simp at r0_rs_5 r1_rs_5 r2_rs_5 r3_rs_5 r4_rs_5 r5_rs_5
        clear rs_5
        have Rx_5 := Lib.hid rx_5
        have r0_rx_5 := cell_of_row _ _ 0 _ _ _ rx_5
        have r1_rx_5 := cell_of_row _ _ 1 _ _ _ rx_5
        have r2_rx_5 := cell_of_row _ _ 2 _ _ _ rx_5
        have r3_rx_5 := cell_of_row _ _ 3 _ _ _ rx_5
        have r4_rx_5 := cell_of_row _ _ 4 _ _ _ rx_5
        have r5_rx_5 := cell_of_row _ _ 5 _ _ _ rx_5
        have f0_rx_5 := frozen_of_row _ _ 0 _ _ rx_5
        have f1_rx_5 := frozen_of_row _ _ 1 _ _ rx_5
        have f2_rx_5 := frozen_of_row _ _ 2 _ _ rx_5
        have f3_rx_5 := frozen_of_row _ _ 3 _ _ rx_5
        have f4_rx_5 := frozen_of_row _ _ 4 _ _ rx_5
        have f5_rx_5 := frozen_of_row _ _ 5 _ _ rx_5
        simp at r0_rx_5 r1_rx_5 r2_rx_5 r3_rx_5 r4_rx_5 r5_rx_5
        clear rx_5
        clear r0_rs_4 f0_rs_4 r1_rs_4 f1_rs_4 r2_rs_4 f2_rs_4 r3_rs_4 f3_rs_4 r4_rs_4 f4_rs_4 r5_rs_4 f5_rs_4
        clear r0_rx_4 f0_rx_4 r1_rx_4 f1_rx_4 r2_rx_4 f2_rx_4 r3_rx_4 f3_rx_4 r4_rx_4 f4_rx_4 r5_rx_4 f5_rx_4
        go_wp2_with fail
        refine (Y4.out _).mono ?_
        rintro e w6 ⟨rfl, hb6⟩
        have hz6 := hb6.size
        (try simp at hz6)
        have rs_6 := (hb6.block _ (by first | omega | (simp; done) | (simp; omega))).trans Rs_5.out
        have rx_6 := (hb6.block _ (by first | omega | (simp; done) | (simp; omega))).trans Rx_5.out
        have hw6 : Below w.heap.size w w6 := (by repeat (first | with_reducible exact Below.refl _ _ | with_reducible assumption | with_reducible refine Below.drew ?_ | with_reducible refine Below.alloc ?_ (by first | exact Nat.le_refl _ | omega | (simp; done) | (simp; omega)) _ | with_reducible refine Below.setCell ?_ (by first | exact Nat.le_refl _ | omega | (simp; done) | (simp; omega)) _ | (with_reducible refine ext_trans ?_ (by with_reducible assumption))))
        have lRs_6 : w1.heap.size < w6.heap.size := by omega
        have lRx_6 : w2.heap.size < w6.heap.size := by omega
        have Rs_6 := Lib.hid rs_6
        have r0_rs_6 := cell_of_row _ _ 0 _ _ _ rs_6
        have r1_rs_6 := cell_of_row _ _ 1 _ _ _ rs_6
        have r2_rs_6 := cell_of_row _ _ 2 _ _ _ rs_6
        have r3_rs_6 := cell_of_row _ _ 3 _ _ _ rs_6
        have r4_rs_6 := cell_of_row _ _ 4 _ _ _ rs_6
        have r5_rs_6 := cell_of_row _ _ 5 _ _ _ rs_6
        have f0_rs_6 := frozen_of_row _ _ 0 _ _ rs_6
        have f1_rs_6 := frozen_of_row _ _ 1 _ _ rs_6
        have f2_rs_6 := frozen_of_row _ _ 2 _ _ rs_6
        have f3_rs_6 := frozen_of_row _ _ 3 _ _ rs_6
        have f4_rs_6 := frozen_of_row _ _ 4 _ _ rs_6
        have f5_rs_6 := frozen_of_row _ _ 5 _ _ rs_6
        simp at r0_rs_6 r1_rs_6 r2_rs_6 r3_rs_6 r4_rs_6 r5_rs_6
        clear rs_6
        have Rx_6 := Lib.hid rx_6
        have r0_rx_6 := cell_of_row _ _ 0 _ _ _ rx_6
        have r1_rx_6 := cell_of_row _ _ 1 _ _ _ rx_6
        have r2_rx_6 := cell_of_row _ _ 2 _ _ _ rx_6
        have r3_rx_6 := cell_of_row _ _ 3 _ _ _ rx_6
        have r4_rx_6 := cell_of_row _ _ 4 _ _ _ rx_6
        have r5_rx_6 := cell_of_row _ _ 5 _ _ _ rx_6
        have f0_rx_6 := frozen_of_row _ _ 0 _ _ rx_6
        have f1_rx_6 := frozen_of_row _ _ 1 _ _ rx_6
        have f2_rx_6 := frozen_of_row _ _ 2 _ _ rx_6
        have f3_rx_6 := frozen_of_row _ _ 3 _ _ rx_6
        have f4_rx_6 := frozen_of_row _ _ 4 _ _ rx_6
        have f5_rx_6 := frozen_of_row _ _ 5 _ _ rx_6
        simp at r0_rx_6 r1_rx_6 r2_rx_6 r3_rx_6 r4_rx_6 r5_rx_6
        clear rx_6
        clear r0_rs_5 f0_rs_5 r1_rs_5 f1_rs_5 r2_rs_5 f2_rs_5 r3_rs_5 f3_rs_5 r4_rs_5 f4_rs_5 r5_rs_5 f5_rs_5
        clear r0_rx_5 f0_rx_5 r1_rx_5 f1_rx_5 r2_rx_5 f2_rx_5 r3_rx_5 f3_rx_5 r4_rx_5 f4_rx_5 r5_rx_5 f5_rx_5
        go_wp2_with fail
        have hb7 : Below w6.heap.size w6 (w6.alloc (.cells #[.int .i64 u, .string d, .bool true] 39)) := (by repeat (first | with_reducible exact Below.refl _ _ | with_reducible assumption | with_reducible refine Below.drew ?_ | with_reducible refine Below.alloc ?_ (by first | exact Nat.le_refl _ | omega | (simp; done) | (simp; omega)) _ | with_reducible refine Below.setCell ?_ (by first | exact Nat.le_refl _ | omega | (simp; done) | (simp; omega)) _ | (with_reducible refine ext_trans ?_ (by with_reducible assumption))))
        have rc_7 : (w6.alloc (.cells #[.int .i64 u, .string d, .bool true] 39)).heap[w6.heap.size]? = some (.cells #[.int .i64 u, .string d, .bool true] 39 (0, 0)) := (by repeat (first | exact heap_new _ _ _ (by first | rfl | (simp; done) | (simp; omega)) | refine (Below.heap_alloc _ _ _ (by first | omega | (simp; done) | (simp; omega))).trans ?_))
        have lNc_7 : w6.heap.size < (w6.alloc (.cells #[.int .i64 u, .string d, .bool true] 39)).heap.size := by simp
        generalize (w6.alloc (.cells #[.int .i64 u, .string d, .bool true] 39)) = w7 at *
        have hz7 := hb7.size
        (try simp at hz7)
        have rs_7 := (hb7.block _ (by first | omega | (simp; done) | (simp; omega))).trans Rs_6.out
        have rx_7 := (hb7.block _ (by first | omega | (simp; done) | (simp; omega))).trans Rx_6.out
        have hw7 : Below w.heap.size w w7 := (by repeat (first | with_reducible exact Below.refl _ _ | with_reducible assumption | with_reducible refine Below.drew ?_ | with_reducible refine Below.alloc ?_ (by first | exact Nat.le_refl _ | omega | (simp; done) | (simp; omega)) _ | with_reducible refine Below.setCell ?_ (by first | exact Nat.le_refl _ | omega | (simp; done) | (simp; omega)) _ | (with_reducible refine ext_trans ?_ (by with_reducible assumption))))
        have lRs_7 : w1.heap.size < w7.heap.size := by omega
        have lRx_7 : w2.heap.size < w7.heap.size := by omega
        have lRc_7 : w6.heap.size < w7.heap.size := by omega
        have Rs_7 := Lib.hid rs_7
        have r0_rs_7 := cell_of_row _ _ 0 _ _ _ rs_7
        have r1_rs_7 := cell_of_row _ _ 1 _ _ _ rs_7
        have r2_rs_7 := cell_of_row _ _ 2 _ _ _ rs_7
        have r3_rs_7 := cell_of_row _ _ 3 _ _ _ rs_7
        have r4_rs_7 := cell_of_row _ _ 4 _ _ _ rs_7
        have r5_rs_7 := cell_of_row _ _ 5 _ _ _ rs_7
        have f0_rs_7 := frozen_of_row _ _ 0 _ _ rs_7
        have f1_rs_7 := frozen_of_row _ _ 1 _ _ rs_7
        have f2_rs_7 := frozen_of_row _ _ 2 _ _ rs_7
        have f3_rs_7 := frozen_of_row _ _ 3 _ _ rs_7
        have f4_rs_7 := frozen_of_row _ _ 4 _ _ rs_7
        have f5_rs_7 := frozen_of_row _ _ 5 _ _ rs_7
        simp at r0_rs_7 r1_rs_7 r2_rs_7 r3_rs_7 r4_rs_7 r5_rs_7
        clear rs_7
        have Rx_7 := Lib.hid rx_7
        have r0_rx_7 := cell_of_row _ _ 0 _ _ _ rx_7
        have r1_rx_7 := cell_of_row _ _ 1 _ _ _ rx_7
        have r2_rx_7 := cell_of_row _ _ 2 _ _ _ rx_7
        have r3_rx_7 := cell_of_row _ _ 3 _ _ _ rx_7
        have r4_rx_7 := cell_of_row _ _ 4 _ _ _ rx_7
        have r5_rx_7 := cell_of_row _ _ 5 _ _ _ rx_7
        have f0_rx_7 := frozen_of_row _ _ 0 _ _ rx_7
        have f1_rx_7 := frozen_of_row _ _ 1 _ _ rx_7
        have f2_rx_7 := frozen_of_row _ _ 2 _ _ rx_7
        have f3_rx_7 := frozen_of_row _ _ 3 _ _ rx_7
        have f4_rx_7 := frozen_of_row _ _ 4 _ _ rx_7
        have f5_rx_7 := frozen_of_row _ _ 5 _ _ rx_7
        simp at r0_rx_7 r1_rx_7 r2_rx_7 r3_rx_7 r4_rx_7 r5_rx_7
        clear rx_7
        have Rc_7 := Lib.hid rc_7
        have r0_rc_7 := cell_of_row _ _ 0 _ _ _ rc_7
        have r1_rc_7 := cell_of_row _ _ 1 _ _ _ rc_7
        have r2_rc_7 := cell_of_row _ _ 2 _ _ _ rc_7
        have f0_rc_7 := frozen_of_row _ _ 0 _ _ rc_7
        have f1_rc_7 := frozen_of_row _ _ 1 _ _ rc_7
        have f2_rc_7 := frozen_of_row _ _ 2 _ _ rc_7
        simp at r0_rc_7 r1_rc_7 r2_rc_7
        clear rc_7
        clear r0_rs_6 f0_rs_6 r1_rs_6 f1_rs_6 r2_rs_6 f2_rs_6 r3_rs_6 f3_rs_6 r4_rs_6 f4_rs_6 r5_rs_6 f5_rs_6
        clear r0_rx_6 f0_rx_6 r1_rx_6 f1_rx_6 r2_rx_6 f2_rx_6 r3_rx_6 f3_rx_6 r4_rx_6 f4_rx_6 r5_rx_6 f5_rx_6
        go_wp2_with fail
        go_cut [2] (fun z wx => z = .bool true ∧ Below w7.heap.size w7 wx)
        case rest =>
          obtain ⟨rfl, hbz⟩ := hcut
          go_wp2_with fail
          go_ret
          exact ⟨rfl, hw7.trans (hbz.mono hw7.size)⟩
        case first =>
          refine wp_region_noPanic ?_
          refine wp_region_held_drew (S := (fun w' => (∀ b' o, b' < w7.heap.size → w'.cell? ⟨b', o, none⟩ = w7.cell? ⟨b', o, none⟩) ∧ Below w7.heap.size w7 w')) (by kernel_rfl) (by first | exact rg_start _) (fun hHeld => ?_)
          refine wpAnyH_take (i := 0) (oi := _) (v := ?v0_225) rfl (by kernel_rfl) (by kernel_rfl) (by kernel_rfl) (fun _ _ _ h => h) (Or.inl ⟨by rfl, ?hy0_225⟩) (by with_reducible assumption) ?rest0_225
          case hy0_225 => ((intro w hSw; (try dsimp only at hSw); go_simp); (try with_reducible rfl))
          (try simp only [Act.put, List.getElem_toArray, List.getElem_cons_succ, List.getElem_cons_zero, List.setIfInBounds_toArray, List.set_cons_zero, List.set_cons_succ])
          refine wpAnyH_ready (rs := [1]) (by kernel_rfl) (by simp) ?_
          refine AllReadyH.cons (o := _) rfl (fun K hK => ?_) AllReadyH.nil
          go_simp
          go_at_call 19; ((with_reducible refine (Y5.out _).mono ?_); (rintro e wq9 ⟨rfl, hbq9⟩; have hSq9 := rg_keepK (by with_reducible assumption) hbq9))
          go_wp2_with fail
          refine hK.out _ _ ?_ (fun hHeld => ?_)
          · (try dsimp only); (first | with_reducible assumption | (with_reducible apply rg_keep; rotate_left; with_reducible assumption; with_reducible assumption) | with_reducible exact rg_start _ | with_reducible exact rg_alloc (KeptS.out (by with_reducible assumption)) _ | with_reducible exact rg_alloc (by with_reducible assumption) _ | with_reducible exact rg_start_alloc _ _ | ((repeat (with_reducible refine rg_set ?_ _ (by first | exact Nat.le_refl _ | omega | (simp; done) | (simp; omega)) _)); first | with_reducible exact KeptS.out (by with_reducible assumption) | with_reducible assumption | with_reducible exact rg_alloc (KeptS.out (by with_reducible assumption)) _))
          clear hK K
          (try simp only [Act.put, List.getElem_toArray, List.getElem_cons_succ, List.getElem_cons_zero, List.setIfInBounds_toArray, List.set_cons_zero, List.set_cons_succ])
          refine wpAnyH_take (i := 2) (oi := _) (v := ?v2_226) rfl (by kernel_rfl) (by kernel_rfl) (by kernel_rfl) (fun _ _ _ h => h) (Or.inl ⟨by rfl, ?hy2_226⟩) (by with_reducible assumption) ?rest2_226
          case hy2_226 => ((intro w hSw; (try dsimp only at hSw); go_simp); (try with_reducible rfl))
          (try simp only [Act.put, List.getElem_toArray, List.getElem_cons_succ, List.getElem_cons_zero, List.setIfInBounds_toArray, List.set_cons_zero, List.set_cons_succ])
          refine wpAnyH_take (i := 3) (oi := _) (v := ?v3_227) rfl (by kernel_rfl) (by kernel_rfl) (by kernel_rfl) (fun _ _ _ h => h) (Or.inl ⟨by rfl, ?hy3_227⟩) (by with_reducible assumption) ?rest3_227
          case hy3_227 => ((intro w hSw; (try dsimp only at hSw); go_simp); (try with_reducible rfl))
          (try simp only [Act.put, List.getElem_toArray, List.getElem_cons_succ, List.getElem_cons_zero, List.setIfInBounds_toArray, List.set_cons_zero, List.set_cons_succ])
          refine wpAnyH_take (i := 5) (oi := _) (v := ?v5_228) rfl (by kernel_rfl) (by kernel_rfl) (by kernel_rfl) (fun _ _ _ h => h) (Or.inl ⟨by rfl, ?hy5_228⟩) (by with_reducible assumption) ?rest5_228
          case hy5_228 => ((intro w hSw; (try dsimp only at hSw); go_simp); (try with_reducible rfl))
          (try simp only [Act.put, List.getElem_toArray, List.getElem_cons_succ, List.getElem_cons_zero, List.setIfInBounds_toArray, List.set_cons_zero, List.set_cons_succ])
          refine wpAnyH_take (i := 6) (oi := _) (v := ?v6_229) rfl (by kernel_rfl) (by kernel_rfl) (by kernel_rfl) (fun _ _ _ h => h) (Or.inl ⟨by rfl, ?hy6_229⟩) (by with_reducible assumption) ?rest6_229
          case hy6_229 => ((intro w hSw; (try dsimp only at hSw); go_simp); (try with_reducible rfl))
          (try simp only [Act.put, List.getElem_toArray, List.getElem_cons_succ, List.getElem_cons_zero, List.setIfInBounds_toArray, List.set_cons_zero, List.set_cons_succ])
          refine wpAnyH_ready (rs := [4]) (by kernel_rfl) (by simp) ?_
          refine AllReadyH.cons (o := _) rfl (fun K hK => ?_) AllReadyH.nil
          go_simp
          go_at_call 17; ((with_reducible refine (Y6.out _).mono ?_); (rintro e wq10 ⟨rfl, hbq10⟩; have hSq10 := rg_keepK (by with_reducible assumption) hbq10))
          go_wp2_with fail
          refine hK.out _ _ ?_ (fun hHeld => ?_)
          · (try dsimp only); (first | with_reducible assumption | (with_reducible apply rg_keep; rotate_left; with_reducible assumption; with_reducible assumption) | with_reducible exact rg_start _ | with_reducible exact rg_alloc (KeptS.out (by with_reducible assumption)) _ | with_reducible exact rg_alloc (by with_reducible assumption) _ | with_reducible exact rg_start_alloc _ _ | ((repeat (with_reducible refine rg_set ?_ _ (by first | exact Nat.le_refl _ | omega | (simp; done) | (simp; omega)) _)); first | with_reducible exact KeptS.out (by with_reducible assumption) | with_reducible assumption | with_reducible exact rg_alloc (KeptS.out (by with_reducible assumption)) _))
          clear hK K
          (try simp only [Act.put, List.getElem_toArray, List.getElem_cons_succ, List.getElem_cons_zero, List.setIfInBounds_toArray, List.set_cons_zero, List.set_cons_succ])
          refine wpAnyH_take (i := 7) (oi := _) (v := ?v7_230) rfl (by kernel_rfl) (by kernel_rfl) (by kernel_rfl) (fun _ _ _ h => h) (Or.inl ⟨by rfl, ?hy7_230⟩) (by with_reducible assumption) ?rest7_230
          case hy7_230 => ((intro w hSw; (try dsimp only at hSw); go_simp); (try with_reducible rfl))
          (try simp only [Act.put, List.getElem_toArray, List.getElem_cons_succ, List.getElem_cons_zero, List.setIfInBounds_toArray, List.set_cons_zero, List.set_cons_succ])
          refine wpAnyH_take (i := 8) (oi := _) (v := ?v8_231) rfl (by kernel_rfl) (by kernel_rfl) (by kernel_rfl) (fun _ _ _ h => h) (Or.inl ⟨by rfl, ?hy8_231⟩) (by with_reducible assumption) ?rest8_231
          case hy8_231 => ((intro w hSw; (try dsimp only at hSw); go_simp); (try with_reducible rfl))
          (try simp only [Act.put, List.getElem_toArray, List.getElem_cons_succ, List.getElem_cons_zero, List.setIfInBounds_toArray, List.set_cons_zero, List.set_cons_succ])
          refine wpAnyH_take (i := 9) (oi := _) (v := ?v9_232) rfl (by kernel_rfl) (by kernel_rfl) (by kernel_rfl) (fun _ _ _ h => h) (Or.inl ⟨by rfl, ?hy9_232⟩) (by with_reducible assumption) ?rest9_232
          case hy9_232 => ((intro w hSw; (try dsimp only at hSw); go_simp); (try with_reducible rfl))
          (try simp only [Act.put, List.getElem_toArray, List.getElem_cons_succ, List.getElem_cons_zero, List.setIfInBounds_toArray, List.set_cons_zero, List.set_cons_succ])
          refine wpAnyH_take (i := 10) (oi := _) (v := ?v10_233) rfl (by kernel_rfl) (by kernel_rfl) (by kernel_rfl) (fun _ _ _ h => h) (Or.inl ⟨by rfl, ?hy10_233⟩) (by with_reducible assumption) ?rest10_233
          case hy10_233 => ((intro w hSw; (try dsimp only at hSw); go_simp); (try with_reducible rfl))
          (try simp only [Act.put, List.getElem_toArray, List.getElem_cons_succ, List.getElem_cons_zero, List.setIfInBounds_toArray, List.set_cons_zero, List.set_cons_succ])
          refine wpAnyH_take (i := 11) (oi := _) (v := ?v11_234) rfl (by kernel_rfl) (by kernel_rfl) (by kernel_rfl) (fun _ _ _ h => h) (Or.inl ⟨by rfl, ?hy11_234⟩) (by with_reducible assumption) ?rest11_234
          case hy11_234 => ((intro w hSw; (try dsimp only at hSw); go_simp); (try with_reducible rfl))
          (try simp only [Act.put, List.getElem_toArray, List.getElem_cons_succ, List.getElem_cons_zero, List.setIfInBounds_toArray, List.set_cons_zero, List.set_cons_succ])
          refine wpAnyH_take (i := 12) (oi := _) (v := ?v12_235) rfl (by kernel_rfl) (by kernel_rfl) (by kernel_rfl) (fun _ _ _ h => h) (Or.inl ⟨by rfl, ?hy12_235⟩) (by with_reducible assumption) ?rest12_235
          case hy12_235 => ((intro w hSw; (try dsimp only at hSw); go_simp); (try with_reducible rfl))
          (try simp only [Act.put, List.getElem_toArray, List.getElem_cons_succ, List.getElem_cons_zero, List.setIfInBounds_toArray, List.set_cons_zero, List.set_cons_succ])
          refine wpAnyH_take (i := 13) (oi := _) (v := ?v13_236) rfl (by kernel_rfl) (by kernel_rfl) (by kernel_rfl) (fun _ _ _ h => h) (Or.inl ⟨by rfl, ?hy13_236⟩) (by with_reducible assumption) ?rest13_236
          case hy13_236 => ((intro w hSw; (try dsimp only at hSw); go_simp); (try with_reducible rfl))
          (try simp only [Act.put, List.getElem_toArray, List.getElem_cons_succ, List.getElem_cons_zero, List.setIfInBounds_toArray, List.set_cons_zero, List.set_cons_succ])
          refine wpAnyH_take (i := 14) (oi := _) (v := ?v14_237) rfl (by kernel_rfl) (by kernel_rfl) (by kernel_rfl) (fun _ _ _ h => h) (Or.inl ⟨by rfl, ?hy14_237⟩) (by with_reducible assumption) ?rest14_237
          case hy14_237 => ((intro w hSw; (try dsimp only at hSw); go_simp); (try with_reducible rfl))
          (try simp only [Act.put, List.getElem_toArray, List.getElem_cons_succ, List.getElem_cons_zero, List.setIfInBounds_toArray, List.set_cons_zero, List.set_cons_succ])
          refine wpAnyH_take (i := 15) (oi := _) (v := ?v15_238) rfl (by kernel_rfl) (by kernel_rfl) (by kernel_rfl) (fun _ _ _ h => h) (Or.inl ⟨by rfl, ?hy15_238⟩) (by with_reducible assumption) ?rest15_238
          case hy15_238 => ((intro w hSw; (try dsimp only at hSw); go_simp); (try with_reducible rfl))
          (try simp only [Act.put, List.getElem_toArray, List.getElem_cons_succ, List.getElem_cons_zero, List.setIfInBounds_toArray, List.set_cons_zero, List.set_cons_succ])
          refine wpAnyH_take (i := 16) (oi := _) (v := ?v16_239) rfl (by kernel_rfl) (by kernel_rfl) (by kernel_rfl) (fun _ _ _ h => h) (Or.inl ⟨by rfl, ?hy16_239⟩) (by with_reducible assumption) ?rest16_239
          case hy16_239 => ((intro w hSw; (try dsimp only at hSw); go_simp); (try with_reducible rfl))
          (try simp only [Act.put, List.getElem_toArray, List.getElem_cons_succ, List.getElem_cons_zero, List.setIfInBounds_toArray, List.set_cons_zero, List.set_cons_succ])
          refine wpAnyH_take (i := 17) (oi := _) (v := ?v17_240) rfl (by kernel_rfl) (by kernel_rfl) (by kernel_rfl) (fun _ _ _ h => h) (Or.inl ⟨by rfl, ?hy17_240⟩) (by with_reducible assumption) ?rest17_240
          case hy17_240 => ((intro w hSw; (try dsimp only at hSw); go_simp); (try with_reducible rfl))
          (try simp only [Act.put, List.getElem_toArray, List.getElem_cons_succ, List.getElem_cons_zero, List.setIfInBounds_toArray, List.set_cons_zero, List.set_cons_succ])
          refine wpAnyH_take (i := 18) (oi := _) (v := ?v18_241) rfl (by kernel_rfl) (by kernel_rfl) (by kernel_rfl) (fun _ _ _ h => h) (Or.inl ⟨by rfl, ?hy18_241⟩) (by with_reducible assumption) ?rest18_241
          case hy18_241 => ((intro w hSw; (try dsimp only at hSw); go_simp); (try with_reducible rfl))
          (try simp only [Act.put, List.getElem_toArray, List.getElem_cons_succ, List.getElem_cons_zero, List.setIfInBounds_toArray, List.set_cons_zero, List.set_cons_succ])
          refine wpAnyH_take (i := 19) (oi := _) (v := ?v19_242) rfl (by kernel_rfl) (by kernel_rfl) (by kernel_rfl) (fun _ _ _ h => h) (Or.inl ⟨by rfl, ?hy19_242⟩) (by with_reducible assumption) ?rest19_242
          case hy19_242 => ((intro w hSw; (try dsimp only at hSw); go_simp); (try with_reducible rfl))
          (try simp only [Act.put, List.getElem_toArray, List.getElem_cons_succ, List.getElem_cons_zero, List.setIfInBounds_toArray, List.set_cons_zero, List.set_cons_succ])
          refine wpAnyH_take (i := 20) (oi := _) (v := ?v20_243) rfl (by kernel_rfl) (by kernel_rfl) (by kernel_rfl) (fun _ _ _ h => h) (Or.inl ⟨by rfl, ?hy20_243⟩) (by with_reducible assumption) ?rest20_243
          case hy20_243 => ((intro w hSw; (try dsimp only at hSw); go_simp); (try with_reducible rfl))
          (try simp only [Act.put, List.getElem_toArray, List.getElem_cons_succ, List.getElem_cons_zero, List.setIfInBounds_toArray, List.set_cons_zero, List.set_cons_succ])
          refine wpAnyH_take (i := 21) (oi := _) (v := ?v21_244) rfl (by kernel_rfl) (by kernel_rfl) (by kernel_rfl) (fun _ _ _ h => h) (Or.inl ⟨by rfl, ?hy21_244⟩) (by with_reducible assumption) ?rest21_244
          case hy21_244 => ((intro w hSw; (try dsimp only at hSw); go_simp); (try with_reducible rfl))
          (try simp only [Act.put, List.getElem_toArray, List.getElem_cons_succ, List.getElem_cons_zero, List.setIfInBounds_toArray, List.set_cons_zero, List.set_cons_succ])
          refine wpAnyH_take (i := 22) (oi := _) (v := undef) rfl (by kernel_rfl) (by kernel_rfl) (by kernel_rfl) (fun _ _ _ h => h) (Or.inr ⟨by rfl, rfl⟩) (by with_reducible assumption) ?rest22_245
          (try simp only [Act.put, List.getElem_toArray, List.getElem_cons_succ, List.getElem_cons_zero, List.setIfInBounds_toArray, List.set_cons_zero, List.set_cons_succ])
          refine wpAnyH_take (i := 23) (oi := _) (v := undef) rfl (by kernel_rfl) (by kernel_rfl) (by kernel_rfl) (fun _ _ _ h => h) (Or.inr ⟨by rfl, rfl⟩) (by with_reducible assumption) ?rest23_246
          (try simp only [Act.put, List.getElem_toArray, List.getElem_cons_succ, List.getElem_cons_zero, List.setIfInBounds_toArray, List.set_cons_zero, List.set_cons_succ])
          refine wpAnyH_take (i := 24) (oi := _) (v := undef) rfl (by kernel_rfl) (by kernel_rfl) (by kernel_rfl) (fun _ _ _ h => h) (Or.inr ⟨by rfl, rfl⟩) (by with_reducible assumption) ?rest24_247
          (try simp only [Act.put, List.getElem_toArray, List.getElem_cons_succ, List.getElem_cons_zero, List.setIfInBounds_toArray, List.set_cons_zero, List.set_cons_succ])
          refine wpAnyH_take (i := 25) (oi := _) (v := undef) rfl (by kernel_rfl) (by kernel_rfl) (by kernel_rfl) (fun _ _ _ h => h) (Or.inr ⟨by rfl, rfl⟩) (by with_reducible assumption) ?rest25_248
          (try simp only [Act.put, List.getElem_toArray, List.getElem_cons_succ, List.getElem_cons_zero, List.setIfInBounds_toArray, List.set_cons_zero, List.set_cons_succ])
          refine wpAnyH_take (i := 26) (oi := _) (v := undef) rfl (by kernel_rfl) (by kernel_rfl) (by kernel_rfl) (fun _ _ _ h => h) (Or.inr ⟨by rfl, rfl⟩) (by with_reducible assumption) ?rest26_249
          (try simp only [Act.put, List.getElem_toArray, List.getElem_cons_succ, List.getElem_cons_zero, List.setIfInBounds_toArray, List.set_cons_zero, List.set_cons_succ])
          refine wpAnyH_take (i := 27) (oi := _) (v := undef) rfl (by kernel_rfl) (by kernel_rfl) (by kernel_rfl) (fun _ _ _ h => h) (Or.inr ⟨by rfl, rfl⟩) (by with_reducible assumption) ?rest27_250
          (try simp only [Act.put, List.getElem_toArray, List.getElem_cons_succ, List.getElem_cons_zero, List.setIfInBounds_toArray, List.set_cons_zero, List.set_cons_succ])
          refine wpAnyH_take (i := 28) (oi := _) (v := undef) rfl (by kernel_rfl) (by kernel_rfl) (by kernel_rfl) (fun _ _ _ h => h) (Or.inr ⟨by rfl, rfl⟩) (by with_reducible assumption) ?rest28_251
          (try simp only [Act.put, List.getElem_toArray, List.getElem_cons_succ, List.getElem_cons_zero, List.setIfInBounds_toArray, List.set_cons_zero, List.set_cons_succ])
          refine wpAnyH_take (i := 29) (oi := _) (v := ?v29_252) rfl (by kernel_rfl) (by kernel_rfl) (by kernel_rfl) (fun _ _ _ h => h) (Or.inl ⟨by rfl, ?hy29_252⟩) (by with_reducible assumption) ?rest29_252
          case hy29_252 => ((intro w hSw; (try dsimp only at hSw); go_simp); (try with_reducible rfl))
          (try simp only [Act.put, List.getElem_toArray, List.getElem_cons_succ, List.getElem_cons_zero, List.setIfInBounds_toArray, List.set_cons_zero, List.set_cons_succ])
          refine wpAnyH_take (i := 30) (oi := _) (v := ?v30_253) rfl (by kernel_rfl) (by kernel_rfl) (by kernel_rfl) (fun _ _ _ h => h) (Or.inl ⟨by rfl, ?hy30_253⟩) (by with_reducible assumption) ?rest30_253
          case hy30_253 => ((intro w hSw; (try dsimp only at hSw); go_simp); (try with_reducible rfl))
          (try simp only [Act.put, List.getElem_toArray, List.getElem_cons_succ, List.getElem_cons_zero, List.setIfInBounds_toArray, List.set_cons_zero, List.set_cons_succ])
          refine wpAnyH_take (i := 31) (oi := _) (v := ?v31_254) rfl (by kernel_rfl) (by kernel_rfl) (by kernel_rfl) (fun _ _ _ h => h) (Or.inl ⟨by rfl, ?hy31_254⟩) (by with_reducible assumption) ?rest31_254
          case hy31_254 => ((intro w hSw; (try dsimp only at hSw); go_simp); (try with_reducible rfl))
          (try simp only [Act.put, List.getElem_toArray, List.getElem_cons_succ, List.getElem_cons_zero, List.setIfInBounds_toArray, List.set_cons_zero, List.set_cons_succ])
          refine wpAnyH_take (i := 32) (oi := _) (v := ?v32_255) rfl (by kernel_rfl) (by kernel_rfl) (by kernel_rfl) (fun _ _ _ h => h) (Or.inl ⟨by rfl, ?hy32_255⟩) (by with_reducible assumption) ?rest32_255
          case hy32_255 => ((intro w hSw; (try dsimp only at hSw); go_simp); (try with_reducible rfl))
          (try simp only [Act.put, List.getElem_toArray, List.getElem_cons_succ, List.getElem_cons_zero, List.setIfInBounds_toArray, List.set_cons_zero, List.set_cons_succ])
          refine wpAnyH_take (i := 33) (oi := _) (v := ?v33_256) rfl (by kernel_rfl) (by kernel_rfl) (by kernel_rfl) (fun _ _ _ h => h) (Or.inl ⟨by rfl, ?hy33_256⟩) (by with_reducible assumption) ?rest33_256
          case hy33_256 => ((intro w hSw; (try dsimp only at hSw); go_simp); (try with_reducible rfl))
          (try simp only [Act.put, List.getElem_toArray, List.getElem_cons_succ, List.getElem_cons_zero, List.setIfInBounds_toArray, List.set_cons_zero, List.set_cons_succ])
          refine wpAnyH_take (i := 34) (oi := _) (v := ?v34_257) rfl (by kernel_rfl) (by kernel_rfl) (by kernel_rfl) (fun _ _ _ h => h) (Or.inl ⟨by rfl, ?hy34_257⟩) (by with_reducible assumption) ?rest34_257
          case hy34_257 => ((intro w hSw; (try dsimp only at hSw); go_simp); (try with_reducible rfl))
          (try simp only [Act.put, List.getElem_toArray, List.getElem_cons_succ, List.getElem_cons_zero, List.setIfInBounds_toArray, List.set_cons_zero, List.set_cons_succ])
          refine wpAnyH_take (i := 35) (oi := _) (v := ?v35_258) rfl (by kernel_rfl) (by kernel_rfl) (by kernel_rfl) (fun _ _ _ h => h) (Or.inl ⟨by rfl, ?hy35_258⟩) (by with_reducible assumption) ?rest35_258
          case hy35_258 => ((intro w hSw; (try dsimp only at hSw); go_simp); (try with_reducible rfl))
          (try simp only [Act.put, List.getElem_toArray, List.getElem_cons_succ, List.getElem_cons_zero, List.setIfInBounds_toArray, List.set_cons_zero, List.set_cons_succ])
          refine wpAnyH_take (i := 36) (oi := _) (v := ?v36_259) rfl (by kernel_rfl) (by kernel_rfl) (by kernel_rfl) (fun _ _ _ h => h) (Or.inl ⟨by rfl, ?hy36_259⟩) (by with_reducible assumption) ?rest36_259
          case hy36_259 => ((intro w hSw; (try dsimp only at hSw); go_simp); (try with_reducible rfl))
          (try simp only [Act.put, List.getElem_toArray, List.getElem_cons_succ, List.getElem_cons_zero, List.setIfInBounds_toArray, List.set_cons_zero, List.set_cons_succ])
          refine wpAnyH_take (i := 37) (oi := _) (v := ?v37_260) rfl (by kernel_rfl) (by kernel_rfl) (by kernel_rfl) (fun _ _ _ h => h) (Or.inl ⟨by rfl, ?hy37_260⟩) (by with_reducible assumption) ?rest37_260
          case hy37_260 => ((intro w hSw; (try dsimp only at hSw); go_simp); (try with_reducible rfl))
          (try simp only [Act.put, List.getElem_toArray, List.getElem_cons_succ, List.getElem_cons_zero, List.setIfInBounds_toArray, List.set_cons_zero, List.set_cons_succ])
          refine wpAnyH_take (i := 38) (oi := _) (v := ?v38_261) rfl (by kernel_rfl) (by kernel_rfl) (by kernel_rfl) (fun _ _ _ h => h) (Or.inl ⟨by rfl, ?hy38_261⟩) (by with_reducible assumption) ?rest38_261
          case hy38_261 => ((intro w hSw; (try dsimp only at hSw); go_simp); (try with_reducible rfl))
          (try simp only [Act.put, List.getElem_toArray, List.getElem_cons_succ, List.getElem_cons_zero, List.setIfInBounds_toArray, List.set_cons_zero, List.set_cons_succ])
          refine wpAnyH_take (i := 39) (oi := _) (v := ?v39_262) rfl (by kernel_rfl) (by kernel_rfl) (by kernel_rfl) (fun _ _ _ h => h) (Or.inl ⟨by rfl, ?hy39_262⟩) (by with_reducible assumption) ?rest39_262
          case hy39_262 => ((intro w hSw; (try dsimp only at hSw); go_simp); (try with_reducible rfl))
          (try simp only [Act.put, List.getElem_toArray, List.getElem_cons_succ, List.getElem_cons_zero, List.setIfInBounds_toArray, List.set_cons_zero, List.set_cons_succ])
          refine wpAnyH_take (i := 40) (oi := _) (v := ?v40_263) rfl (by kernel_rfl) (by kernel_rfl) (by kernel_rfl) (fun _ _ _ h => h) (Or.inl ⟨by rfl, ?hy40_263⟩) (by with_reducible assumption) ?rest40_263
          case hy40_263 => ((intro w hSw; (try dsimp only at hSw); go_simp); (try with_reducible rfl))
          (try simp only [Act.put, List.getElem_toArray, List.getElem_cons_succ, List.getElem_cons_zero, List.setIfInBounds_toArray, List.set_cons_zero, List.set_cons_succ])
          refine wpAnyH_take (i := 41) (oi := _) (v := ?v41_264) rfl (by kernel_rfl) (by kernel_rfl) (by kernel_rfl) (fun _ _ _ h => h) (Or.inl ⟨by rfl, ?hy41_264⟩) (by with_reducible assumption) ?rest41_264
          case hy41_264 => ((intro w hSw; (try dsimp only at hSw); go_simp); (try with_reducible rfl))
          (try simp only [Act.put, List.getElem_toArray, List.getElem_cons_succ, List.getElem_cons_zero, List.setIfInBounds_toArray, List.set_cons_zero, List.set_cons_succ])
          refine wpAnyH_take (i := 42) (oi := _) (v := ?v42_265) rfl (by kernel_rfl) (by kernel_rfl) (by kernel_rfl) (fun _ _ _ h => h) (Or.inl ⟨by rfl, ?hy42_265⟩) (by with_reducible assumption) ?rest42_265
          case hy42_265 => ((intro w hSw; (try dsimp only at hSw); go_simp); (try with_reducible rfl))
          (try simp only [Act.put, List.getElem_toArray, List.getElem_cons_succ, List.getElem_cons_zero, List.setIfInBounds_toArray, List.set_cons_zero, List.set_cons_succ])
          refine wpAnyH_take (i := 43) (oi := _) (v := ?v43_266) rfl (by kernel_rfl) (by kernel_rfl) (by kernel_rfl) (fun _ _ _ h => h) (Or.inl ⟨by rfl, ?hy43_266⟩) (by with_reducible assumption) ?rest43_266
          case hy43_266 => ((intro w hSw; (try dsimp only at hSw); go_simp); (try with_reducible rfl))
          (try simp only [Act.put, List.getElem_toArray, List.getElem_cons_succ, List.getElem_cons_zero, List.setIfInBounds_toArray, List.set_cons_zero, List.set_cons_succ])
          refine wpAnyH_take (i := 44) (oi := _) (v := ?v44_267) rfl (by kernel_rfl) (by kernel_rfl) (by kernel_rfl) (fun _ _ _ h => h) (Or.inl ⟨by rfl, ?hy44_267⟩) (by with_reducible assumption) ?rest44_267
          case hy44_267 => ((intro w hSw; (try dsimp only at hSw); go_simp); (try with_reducible rfl))
          (try simp only [Act.put, List.getElem_toArray, List.getElem_cons_succ, List.getElem_cons_zero, List.setIfInBounds_toArray, List.set_cons_zero, List.set_cons_succ])
          refine wpAnyH_take (i := 45) (oi := _) (v := ?v45_268) rfl (by kernel_rfl) (by kernel_rfl) (by kernel_rfl) (fun _ _ _ h => h) (Or.inl ⟨by rfl, ?hy45_268⟩) (by with_reducible assumption) ?rest45_268
          case hy45_268 => ((intro w hSw; (try dsimp only at hSw); go_simp); (try with_reducible rfl))
          (try simp only [Act.put, List.getElem_toArray, List.getElem_cons_succ, List.getElem_cons_zero, List.setIfInBounds_toArray, List.set_cons_zero, List.set_cons_succ])
          refine wpAnyH_take (i := 46) (oi := _) (v := ?v46_269) rfl (by kernel_rfl) (by kernel_rfl) (by kernel_rfl) (fun _ _ _ h => h) (Or.inl ⟨by rfl, ?hy46_269⟩) (by with_reducible assumption) ?rest46_269
          case hy46_269 => ((intro w hSw; (try dsimp only at hSw); go_simp); (try with_reducible rfl))
          (try simp only [Act.put, List.getElem_toArray, List.getElem_cons_succ, List.getElem_cons_zero, List.setIfInBounds_toArray, List.set_cons_zero, List.set_cons_succ])
          refine wpAnyH_take (i := 47) (oi := _) (v := ?v47_270) rfl (by kernel_rfl) (by kernel_rfl) (by kernel_rfl) (fun _ _ _ h => h) (Or.inl ⟨by rfl, ?hy47_270⟩) (by with_reducible assumption) ?rest47_270
          case hy47_270 => ((intro w hSw; (try dsimp only at hSw); go_simp); (try with_reducible rfl))
          (try simp only [Act.put, List.getElem_toArray, List.getElem_cons_succ, List.getElem_cons_zero, List.setIfInBounds_toArray, List.set_cons_zero, List.set_cons_succ])
          refine wpAnyH_take (i := 48) (oi := _) (v := ?v48_271) rfl (by kernel_rfl) (by kernel_rfl) (by kernel_rfl) (fun _ _ _ h => h) (Or.inl ⟨by rfl, ?hy48_271⟩) (by with_reducible assumption) ?rest48_271
          case hy48_271 => ((intro w hSw; (try dsimp only at hSw); go_simp); (try with_reducible rfl))
          (try simp only [Act.put, List.getElem_toArray, List.getElem_cons_succ, List.getElem_cons_zero, List.setIfInBounds_toArray, List.set_cons_zero, List.set_cons_succ])
          refine wpAnyH_take (i := 49) (oi := _) (v := ?v49_272) rfl (by kernel_rfl) (by kernel_rfl) (by kernel_rfl) (fun _ _ _ h => h) (Or.inl ⟨by rfl, ?hy49_272⟩) (by with_reducible assumption) ?rest49_272
          case hy49_272 => ((intro w hSw; (try dsimp only at hSw); go_simp); (try with_reducible rfl))
          (try simp only [Act.put, List.getElem_toArray, List.getElem_cons_succ, List.getElem_cons_zero, List.setIfInBounds_toArray, List.set_cons_zero, List.set_cons_succ])
          refine wpAnyH_take (i := 50) (oi := _) (v := ?v50_273) rfl (by kernel_rfl) (by kernel_rfl) (by kernel_rfl) (fun _ _ _ h => h) (Or.inl ⟨by rfl, ?hy50_273⟩) (by with_reducible assumption) ?rest50_273
          case hy50_273 => ((intro w hSw; (try dsimp only at hSw); go_simp); (try with_reducible rfl))
          (try simp only [Act.put, List.getElem_toArray, List.getElem_cons_succ, List.getElem_cons_zero, List.setIfInBounds_toArray, List.set_cons_zero, List.set_cons_succ])
          refine wpAnyH_take (i := 51) (oi := _) (v := ?v51_274) rfl (by kernel_rfl) (by kernel_rfl) (by kernel_rfl) (fun _ _ _ h => h) (Or.inl ⟨by rfl, ?hy51_274⟩) (by with_reducible assumption) ?rest51_274
          case hy51_274 => ((intro w hSw; (try dsimp only at hSw); go_simp); (try with_reducible rfl))
          (try simp only [Act.put, List.getElem_toArray, List.getElem_cons_succ, List.getElem_cons_zero, List.setIfInBounds_toArray, List.set_cons_zero, List.set_cons_succ])
          refine wpAnyH_take (i := 52) (oi := _) (v := ?v52_275) rfl (by kernel_rfl) (by kernel_rfl) (by kernel_rfl) (fun _ _ _ h => h) (Or.inl ⟨by rfl, ?hy52_275⟩) (by with_reducible assumption) ?rest52_275
          case hy52_275 => ((intro w hSw; (try dsimp only at hSw); go_simp); (try with_reducible rfl))
          (try simp only [Act.put, List.getElem_toArray, List.getElem_cons_succ, List.getElem_cons_zero, List.setIfInBounds_toArray, List.set_cons_zero, List.set_cons_succ])
          refine wpAnyH_take (i := 53) (oi := _) (v := ?v53_276) rfl (by kernel_rfl) (by kernel_rfl) (by kernel_rfl) (fun _ _ _ h => h) (Or.inl ⟨by rfl, ?hy53_276⟩) (by with_reducible assumption) ?rest53_276
          case hy53_276 => ((intro w hSw; (try dsimp only at hSw); go_simp); (try with_reducible rfl))
          (try simp only [Act.put, List.getElem_toArray, List.getElem_cons_succ, List.getElem_cons_zero, List.setIfInBounds_toArray, List.set_cons_zero, List.set_cons_succ])
          refine wpAnyH_take (i := 54) (oi := _) (v := ?v54_277) rfl (by kernel_rfl) (by kernel_rfl) (by kernel_rfl) (fun _ _ _ h => h) (Or.inl ⟨by rfl, ?hy54_277⟩) (by with_reducible assumption) ?rest54_277
          case hy54_277 => ((intro w hSw; (try dsimp only at hSw); go_simp); (try with_reducible rfl))
          (try simp only [Act.put, List.getElem_toArray, List.getElem_cons_succ, List.getElem_cons_zero, List.setIfInBounds_toArray, List.set_cons_zero, List.set_cons_succ])
          refine wpAnyH_take (i := 55) (oi := _) (v := ?v55_278) rfl (by kernel_rfl) (by kernel_rfl) (by kernel_rfl) (fun _ _ _ h => h) (Or.inl ⟨by rfl, ?hy55_278⟩) (by with_reducible assumption) ?rest55_278
          case hy55_278 => ((intro w hSw; (try dsimp only at hSw); go_simp); (try with_reducible rfl))
          (try simp only [Act.put, List.getElem_toArray, List.getElem_cons_succ, List.getElem_cons_zero, List.setIfInBounds_toArray, List.set_cons_zero, List.set_cons_succ])
          refine wpAnyH_take (i := 56) (oi := _) (v := ?v56_279) rfl (by kernel_rfl) (by kernel_rfl) (by kernel_rfl) (fun _ _ _ h => h) (Or.inl ⟨by rfl, ?hy56_279⟩) (by with_reducible assumption) ?rest56_279
          case hy56_279 => ((intro w hSw; (try dsimp only at hSw); go_simp); (try with_reducible rfl))
          (try simp only [Act.put, List.getElem_toArray, List.getElem_cons_succ, List.getElem_cons_zero, List.setIfInBounds_toArray, List.set_cons_zero, List.set_cons_succ])
          refine wpAnyH_take (i := 57) (oi := _) (v := ?v57_280) rfl (by kernel_rfl) (by kernel_rfl) (by kernel_rfl) (fun _ _ _ h => h) (Or.inl ⟨by rfl, ?hy57_280⟩) (by with_reducible assumption) ?rest57_280
          case hy57_280 => ((intro w hSw; (try dsimp only at hSw); go_simp); (try with_reducible rfl))
          (try simp only [Act.put, List.getElem_toArray, List.getElem_cons_succ, List.getElem_cons_zero, List.setIfInBounds_toArray, List.set_cons_zero, List.set_cons_succ])
          refine wpAnyH_done (by kernel_rfl) (NoPanic.normal ?_) _
          go_wp2_with fail
          go_meet
          exact ⟨by first | rfl | simp, (by assumption : _ ∧ Below w7.heap.size w7 _).2⟩

set_option maxRecDepth 100000 in
theorem FnRewound_lifted (os : Os) (started : os.Started) (H : Type) (enc : TypeId × Value → H) :
    ReturnsInHanded {} Try.checked os 12 .any (Rows.fnRewoundSpec.pre6 enc Try.prog Try.f12 Rows.fnRewoundRow.domain false) (Rows.fnRewoundSpec.post enc Try.prog Try.f12 false true false false) := by
  refine law_lifted (C := Try.checked) own_ started (by kernel_rfl) Try.func12 laid_ rfl ?_ ?_ rfl Try.underlying4
    (ChangeSpec.witness6 (enc := enc) (C := Try.checked) false ⟨#[], #[.slice none 0 0], []⟩ 8 (by kernel_rfl) (by kernel_rfl) (by kernel_rfl) (by kernel_rfl)) ?_
  · intro ds h
    match ds, h with
    | [_], _ => rfl
  · intro t ht
    rw [Try.params12] at ht
    simp at ht
    subst ht
    exact ⟨by kernel_rfl, of_decide_eq_true (by kernel_rfl)⟩
  · intro W base args ds p hval hA hlt
    have hval : ∀ (j : Nat) t v, Try.f12.params[j]? = some t → args[j]? = some v → Value.okWide Try.prog W .any base t v := hval
    have hA : DataW.TrodAll enc Try.prog W 0 (fun _ => true) true Try.f12.params.toList args.toList ds p := hA
    rw [Try.params12] at hA hval
    obtain ⟨v0, d0, rfl, rfl, h0⟩ := trodAll_one hA
    obtain ⟨Aa, na, ca, rfl, wna, wba, wca⟩ := open_bytes (hval 0 49 v0 rfl rfl) h0
    exact FnRewound_walk wna W wba

theorem FnRewound_holds : Rows.FnRewoundSaid :=
  OpenClaim.holds_of_wide 12 Try.f12 rfl rfl rfl rfl rfl rfl rfl ⟨rfl, rfl, rfl, rfl, rfl⟩ rfl rfl rfl rfl rfl (by kernel_rfl) Try.func12 (by kernel_rfl)
    (of_decide_eq_true (by kernel_rfl)) (by have hw := wrap_ (P := Try.prog) (fn := Try.f12) (by kernel_rfl); exact hw)
    (fun os started H enc _ => FnRewound_lifted os started H enc)
end Go.Proofs.Ytkkpeienbhbgeaa
