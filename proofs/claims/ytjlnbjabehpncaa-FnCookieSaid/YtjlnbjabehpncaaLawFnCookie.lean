/-
  The law FnCookie returns true for every input. No condition.
-/
import Derived.Test.YtjlnbjabehpncaaKdw
import Derived.Test.YtjlnbjabehpncaaCkl
import Derived.Test.YtjlnbjabehpncaaReg
import Derived.Test.YtjlnbjabehpncaaBytes
import Derived.Deep.DeepCutAuto
import Derived.Deep.RegionHeld3
import Derived.IntWalk
namespace Go.Proofs.Ytjlnbjabehpncaa
set_option maxRecDepth 100000
open Go.ChangeShapes Go.WideShapes Go.ChangeAt Go.RowKit Go.Deep

theorem fits_of {m : RMac} (h : fitRows m.rs) : m.fits := ⟨by have := h.1; unfold maxLen; omega, fun y hy => (h.2 y hy).1⟩
theorem len_of {m : RMac} (h : fitRows m.rs) : m.rs.length ≤ 1048600 := by have := h.1; omega
theorem same_refl (x : RKeys) : x.same x = true := by simp [RKeys.same, RMac.same, sameB]
theorem macOk_mk {x : RKeys} {a b c seq i : Int} (h1 : x.ok = true) (h2 : tupleB a b c = true) (h3 : wordB seq 32 = true) (h4 : 0 ≤ i) (h5 : i ≤ 7) : macOk a b c seq x.ep i = true := by
  obtain ⟨h6, h7, _⟩ := RKeys.ok_bd h1
  have h8 : wordB x.ep 32 = true := by rw [wordB32, inB_iff]; omega
  simp only [macOk, h2, h3, h8, inB_iff.2 ⟨h4, h5⟩, Bool.and_self]
set_option maxHeartbeats 16000000 in
theorem FnCookie_walk {A : Option Addr} {n c : Nat} (hn : n ≤ maxLen) (w : World) (hb : Byts w w.heap.size A n) :
    Calls Try.prog 3 #[.slice A n c] w fun e w' => e = .returned (.bool true) ∧ Below w.heap.size w w' := by
  have hlen := hn
  unfold maxLen at hlen
  by_cases hbig : (1048576 : Int) < n
  · go_enter Try.func3, Try.ntmps3
    go_wp2_with fail
    refine (big_any hn _).mono ?_
    rintro e w' ⟨rfl, rfl⟩
    go_wp2_with fail
    go_ret
    exact ⟨rfl, Below.refl _ _⟩
  go_enter Try.func3, Try.ntmps3
  go_wp2_with fail
  refine (big_any hn _).mono ?_
  rintro e w' ⟨rfl, rfl⟩
  go_wp2_with fail
  refine (DrawRotated_any hn hb).mono ?_
  rintro e w1 ⟨x, v1, v2, m, v3, rfl, hO1, hO2, hO3, hf1, hf2, hf3, ⟨he1, he2⟩, hb1⟩
  obtain ⟨A1, c1, rfl⟩ := hO1.form
  obtain ⟨A2, c2, rfl⟩ := hO2.form
  obtain ⟨A3, c3, rfl⟩ := hO3.form
  have Ok1_1 := Lib.hid hO1
  have Ok2_1 := Lib.hid hO2
  have Om1_1 := Lib.hid hO3
  have HBY := Lib.hid hb
  have G1 := Lib.hid (fits_of hf1)
  have G2 := Lib.hid (fits_of hf2)
  have G3 := Lib.hid (fits_of hf3)
  have P1 := Lib.hid (len_of hf1)
  have P2 := Lib.hid (len_of hf2)
  have P3 := Lib.hid (len_of hf3)
  have N1 := Lib.hid (fits_of hf1).1
  have N2 := Lib.hid (fits_of hf2).1
  clear hO1 hO2 hO3 hf1 hf2 hf3 hb
  have hz1 := hb1.size
  have hw1 : Below w.heap.size w w1 := (by repeat (first | with_reducible exact Below.refl _ _ | with_reducible assumption | with_reducible refine Below.drew ?_ | with_reducible refine Below.alloc ?_ (by first | exact Nat.le_refl _ | omega | (simp; done) | (simp; omega)) _ | with_reducible refine Below.setCell ?_ (by first | exact Nat.le_refl _ | omega | (simp; done) | (simp; omega)) _ | (with_reducible refine ext_trans ?_ (by with_reducible assumption))))
  go_wp2_with fail
  refine (DrawMacInput_any hn (HBY.out.below (by repeat (first | with_reducible exact Below.refl _ _ | with_reducible assumption | with_reducible refine Below.drew ?_ | with_reducible refine Below.alloc ?_ (by first | exact Nat.le_refl _ | omega | (simp; done) | (simp; omega)) _ | with_reducible refine Below.setCell ?_ (by first | exact Nat.le_refl _ | omega | (simp; done) | (simp; omega)) _ | (with_reducible refine ext_trans ?_ (by with_reducible assumption)))))).mono ?_
  rintro e w2 ⟨a, b, c, seq, pp, i, rfl, ha, hI, hc, hs, hpp, ⟨hi1, hi2⟩, hb2⟩
  clear ha hI hc hpp
  have hz2 := hb2.size
  (try simp at hz2)
  have rk_2 : w2.heap[w1.heap.size]? = some (.cells #[.int .i64 x.ep, .bool x.now.u, .int .u64 (uI x.now.k), .int .u64 (uI x.now.l), .slice A1 x.now.rs.length c1, .bool x.bef.u, .int .u64 (uI x.bef.k), .int .u64 (uI x.bef.l), .slice A2 x.bef.rs.length c2, .bool x.two] 29 (0, 0)) := (hb2.block _ (by first | (simp; done) | (simp; omega))).trans (by repeat (first | exact heap_new _ _ _ (by first | rfl | (simp; done) | (simp; omega)) | refine (Below.heap_alloc _ _ _ (by first | omega | (simp; done) | (simp; omega))).trans ?_))
  have rm_2 : w2.heap[w1.heap.size + 1]? = some (.cells #[.bool m.u, .int .u64 (uI m.k), .int .u64 (uI m.l), .slice A3 m.rs.length c3] 27 (0, 0)) := (hb2.block _ (by first | (simp; done) | (simp; omega))).trans (by repeat (first | exact heap_new _ _ _ (by first | rfl | (simp; done) | (simp; omega)) | refine (Below.heap_alloc _ _ _ (by first | omega | (simp; done) | (simp; omega))).trans ?_))
  have Ok1_2 := Lib.hid (Ok1_1.out.below (w' := w2) (by repeat (first | with_reducible exact Below.refl _ _ | with_reducible assumption | with_reducible refine Below.drew ?_ | with_reducible refine Below.alloc ?_ (by first | exact Nat.le_refl _ | omega | (simp; done) | (simp; omega)) _ | with_reducible refine Below.setCell ?_ (by first | exact Nat.le_refl _ | omega | (simp; done) | (simp; omega)) _ | (with_reducible refine ext_trans ?_ (by with_reducible assumption)))))
  have Ok2_2 := Lib.hid (Ok2_1.out.below (w' := w2) (by repeat (first | with_reducible exact Below.refl _ _ | with_reducible assumption | with_reducible refine Below.drew ?_ | with_reducible refine Below.alloc ?_ (by first | exact Nat.le_refl _ | omega | (simp; done) | (simp; omega)) _ | with_reducible refine Below.setCell ?_ (by first | exact Nat.le_refl _ | omega | (simp; done) | (simp; omega)) _ | (with_reducible refine ext_trans ?_ (by with_reducible assumption)))))
  have Om1_2 := Lib.hid (Om1_1.out.below (w' := w2) (by repeat (first | with_reducible exact Below.refl _ _ | with_reducible assumption | with_reducible refine Below.drew ?_ | with_reducible refine Below.alloc ?_ (by first | exact Nat.le_refl _ | omega | (simp; done) | (simp; omega)) _ | with_reducible refine Below.setCell ?_ (by first | exact Nat.le_refl _ | omega | (simp; done) | (simp; omega)) _ | (with_reducible refine ext_trans ?_ (by with_reducible assumption)))))
  have hw2 : Below w.heap.size w w2 := (by repeat (first | with_reducible exact Below.refl _ _ | with_reducible assumption | with_reducible refine Below.drew ?_ | with_reducible refine Below.alloc ?_ (by first | exact Nat.le_refl _ | omega | (simp; done) | (simp; omega)) _ | with_reducible refine Below.setCell ?_ (by first | exact Nat.le_refl _ | omega | (simp; done) | (simp; omega)) _ | (with_reducible refine ext_trans ?_ (by with_reducible assumption))))
  have lRk_2 : w1.heap.size < w2.heap.size := by omega
  have lRm_2 : w1.heap.size + 1 < w2.heap.size := by omega
  have Rk_2 := Lib.hid rk_2
  have r0_rk_2 := cell_of_row _ _ 0 _ _ _ rk_2
  have r1_rk_2 := cell_of_row _ _ 1 _ _ _ rk_2
  have r2_rk_2 := cell_of_row _ _ 2 _ _ _ rk_2
  have r3_rk_2 := cell_of_row _ _ 3 _ _ _ rk_2
  have r4_rk_2 := cell_of_row _ _ 4 _ _ _ rk_2
  have r5_rk_2 := cell_of_row _ _ 5 _ _ _ rk_2
  have r6_rk_2 := cell_of_row _ _ 6 _ _ _ rk_2
  have r7_rk_2 := cell_of_row _ _ 7 _ _ _ rk_2
  have r8_rk_2 := cell_of_row _ _ 8 _ _ _ rk_2
  have r9_rk_2 := cell_of_row _ _ 9 _ _ _ rk_2
  have f0_rk_2 := frozen_of_row _ _ 0 _ _ rk_2
  have f1_rk_2 := frozen_of_row _ _ 1 _ _ rk_2
  have f2_rk_2 := frozen_of_row _ _ 2 _ _ rk_2
  have f3_rk_2 := frozen_of_row _ _ 3 _ _ rk_2
  have f4_rk_2 := frozen_of_row _ _ 4 _ _ rk_2
  have f5_rk_2 := frozen_of_row _ _ 5 _ _ rk_2
  have f6_rk_2 := frozen_of_row _ _ 6 _ _ rk_2
  have f7_rk_2 := frozen_of_row _ _ 7 _ _ rk_2
  have f8_rk_2 := frozen_of_row _ _ 8 _ _ rk_2
  have f9_rk_2 := frozen_of_row _ _ 9 _ _ rk_2
  simp at r0_rk_2 r1_rk_2 r2_rk_2 r3_rk_2 r4_rk_2 r5_rk_2 r6_rk_2 r7_rk_2 r8_rk_2 r9_rk_2
  clear rk_2
  have Rm_2 := Lib.hid rm_2
  have r0_rm_2 := cell_of_row _ _ 0 _ _ _ rm_2
  have r1_rm_2 := cell_of_row _ _ 1 _ _ _ rm_2
  have r2_rm_2 := cell_of_row _ _ 2 _ _ _ rm_2
  have r3_rm_2 := cell_of_row _ _ 3 _ _ _ rm_2
  have f0_rm_2 := frozen_of_row _ _ 0 _ _ rm_2
  have f1_rm_2 := frozen_of_row _ _ 1 _ _ rm_2
  have f2_rm_2 := frozen_of_row _ _ 2 _ _ rm_2
  have f3_rm_2 := frozen_of_row _ _ 3 _ _ rm_2
  simp at r0_rm_2 r1_rm_2 r2_rm_2 r3_rm_2
  clear rm_2
  obtain ⟨B1, hB1⟩ : ∃ B, x.ok = B := ⟨_, rfl⟩
  obtain ⟨B2, hB2⟩ : ∃ B, tupleB a b c = B := ⟨_, rfl⟩
  obtain ⟨B3, hB3⟩ : ∃ B, wordB seq 32 = B := ⟨_, rfl⟩
  have hk := fun W v1 v2 h1 h2 => sKeysOk_any x v1 v2 G1.out G2.out W h1 h2
  have hk2 := fun W v1 v2 h1 h2 => KeysOk_any x v1 v2 G1.out G2.out W h1 h2
  have ht := fun W => sTupleOk_any a b c W
  have hw := fun W => sWordOk_any seq 32 W
  rw [hB1] at hk hk2
  rw [hB2] at ht
  rw [hB3] at hw
  have HK := Lib.hid hk
  have HK2 := Lib.hid hk2
  have HT := Lib.hid ht
  have HW := Lib.hid hw
  have HB1 := Lib.hid hB1
  have HB2 := Lib.hid hB2
  have HB3 := Lib.hid hB3
  clear hk hk2 ht hw hB1 hB2 hB3
  go_wp2_with fail
  refine (HK.out _ _ _ (Ok1_2.out.below (by repeat (first | with_reducible exact Below.refl _ _ | with_reducible assumption | with_reducible refine Below.drew ?_ | with_reducible refine Below.alloc ?_ (by first | exact Nat.le_refl _ | omega | (simp; done) | (simp; omega)) _ | with_reducible refine Below.setCell ?_ (by first | exact Nat.le_refl _ | omega | (simp; done) | (simp; omega)) _ | (with_reducible refine ext_trans ?_ (by with_reducible assumption))))).rd (Ok2_2.out.below (by repeat (first | with_reducible exact Below.refl _ _ | with_reducible assumption | with_reducible refine Below.drew ?_ | with_reducible refine Below.alloc ?_ (by first | exact Nat.le_refl _ | omega | (simp; done) | (simp; omega)) _ | with_reducible refine Below.setCell ?_ (by first | exact Nat.le_refl _ | omega | (simp; done) | (simp; omega)) _ | (with_reducible refine ext_trans ?_ (by with_reducible assumption))))).rd).mono ?_
  rintro e w3 ⟨rfl, hb3⟩
  have hz3 := hb3.size
  (try simp at hz3)
  have rk_3 := (hb3.block _ (by first | omega | (simp; done) | (simp; omega))).trans ((Below.heap_alloc _ _ _ (by first | exact lRk_2 | (simp; omega))).trans Rk_2.out)
  have rm_3 := (hb3.block _ (by first | omega | (simp; done) | (simp; omega))).trans ((Below.heap_alloc _ _ _ (by first | exact lRm_2 | (simp; omega))).trans Rm_2.out)
  have rt_3 : w3.heap[w2.heap.size]? = some (.cells #[.int .i64 a, .int .i64 b, .int .i64 c] 33 (0, 0)) := (hb3.block _ (by first | (simp; done) | (simp; omega))).trans (by repeat (first | exact heap_new _ _ _ (by first | rfl | (simp; done) | (simp; omega)) | refine (Below.heap_alloc _ _ _ (by first | omega | (simp; done) | (simp; omega))).trans ?_))
  have Ok1_3 := Lib.hid (Ok1_2.out.below (w' := w3) (by repeat (first | with_reducible exact Below.refl _ _ | with_reducible assumption | with_reducible refine Below.drew ?_ | with_reducible refine Below.alloc ?_ (by first | exact Nat.le_refl _ | omega | (simp; done) | (simp; omega)) _ | with_reducible refine Below.setCell ?_ (by first | exact Nat.le_refl _ | omega | (simp; done) | (simp; omega)) _ | (with_reducible refine ext_trans ?_ (by with_reducible assumption)))))
  have Ok2_3 := Lib.hid (Ok2_2.out.below (w' := w3) (by repeat (first | with_reducible exact Below.refl _ _ | with_reducible assumption | with_reducible refine Below.drew ?_ | with_reducible refine Below.alloc ?_ (by first | exact Nat.le_refl _ | omega | (simp; done) | (simp; omega)) _ | with_reducible refine Below.setCell ?_ (by first | exact Nat.le_refl _ | omega | (simp; done) | (simp; omega)) _ | (with_reducible refine ext_trans ?_ (by with_reducible assumption)))))
  have Om1_3 := Lib.hid (Om1_2.out.below (w' := w3) (by repeat (first | with_reducible exact Below.refl _ _ | with_reducible assumption | with_reducible refine Below.drew ?_ | with_reducible refine Below.alloc ?_ (by first | exact Nat.le_refl _ | omega | (simp; done) | (simp; omega)) _ | with_reducible refine Below.setCell ?_ (by first | exact Nat.le_refl _ | omega | (simp; done) | (simp; omega)) _ | (with_reducible refine ext_trans ?_ (by with_reducible assumption)))))
  have hw3 : Below w.heap.size w w3 := (by repeat (first | with_reducible exact Below.refl _ _ | with_reducible assumption | with_reducible refine Below.drew ?_ | with_reducible refine Below.alloc ?_ (by first | exact Nat.le_refl _ | omega | (simp; done) | (simp; omega)) _ | with_reducible refine Below.setCell ?_ (by first | exact Nat.le_refl _ | omega | (simp; done) | (simp; omega)) _ | (with_reducible refine ext_trans ?_ (by with_reducible assumption))))
  have lRk_3 : w1.heap.size < w3.heap.size := by omega
  have lRm_3 : w1.heap.size + 1 < w3.heap.size := by omega
  have lRt_3 : w2.heap.size < w3.heap.size := by omega
  have Rk_3 := Lib.hid rk_3
  have r0_rk_3 := cell_of_row _ _ 0 _ _ _ rk_3
  have r1_rk_3 := cell_of_row _ _ 1 _ _ _ rk_3
  have r2_rk_3 := cell_of_row _ _ 2 _ _ _ rk_3
  have r3_rk_3 := cell_of_row _ _ 3 _ _ _ rk_3
  have r4_rk_3 := cell_of_row _ _ 4 _ _ _ rk_3
  have r5_rk_3 := cell_of_row _ _ 5 _ _ _ rk_3
  have r6_rk_3 := cell_of_row _ _ 6 _ _ _ rk_3
  have r7_rk_3 := cell_of_row _ _ 7 _ _ _ rk_3
  have r8_rk_3 := cell_of_row _ _ 8 _ _ _ rk_3
  have r9_rk_3 := cell_of_row _ _ 9 _ _ _ rk_3
  have f0_rk_3 := frozen_of_row _ _ 0 _ _ rk_3
  have f1_rk_3 := frozen_of_row _ _ 1 _ _ rk_3
  have f2_rk_3 := frozen_of_row _ _ 2 _ _ rk_3
  have f3_rk_3 := frozen_of_row _ _ 3 _ _ rk_3
  have f4_rk_3 := frozen_of_row _ _ 4 _ _ rk_3
  have f5_rk_3 := frozen_of_row _ _ 5 _ _ rk_3
  have f6_rk_3 := frozen_of_row _ _ 6 _ _ rk_3
  have f7_rk_3 := frozen_of_row _ _ 7 _ _ rk_3
  have f8_rk_3 := frozen_of_row _ _ 8 _ _ rk_3
  have f9_rk_3 := frozen_of_row _ _ 9 _ _ rk_3
  simp at r0_rk_3 r1_rk_3 r2_rk_3 r3_rk_3 r4_rk_3 r5_rk_3 r6_rk_3 r7_rk_3 r8_rk_3 r9_rk_3
  clear rk_3
  have Rm_3 := Lib.hid rm_3
  have r0_rm_3 := cell_of_row _ _ 0 _ _ _ rm_3
  have r1_rm_3 := cell_of_row _ _ 1 _ _ _ rm_3
  have r2_rm_3 := cell_of_row _ _ 2 _ _ _ rm_3
  have r3_rm_3 := cell_of_row _ _ 3 _ _ _ rm_3
  have f0_rm_3 := frozen_of_row _ _ 0 _ _ rm_3
  have f1_rm_3 := frozen_of_row _ _ 1 _ _ rm_3
  have f2_rm_3 := frozen_of_row _ _ 2 _ _ rm_3
  have f3_rm_3 := frozen_of_row _ _ 3 _ _ rm_3
  simp at r0_rm_3 r1_rm_3 r2_rm_3 r3_rm_3
  clear rm_3
  have Rt_3 := Lib.hid rt_3
  have r0_rt_3 := cell_of_row _ _ 0 _ _ _ rt_3
  have r1_rt_3 := cell_of_row _ _ 1 _ _ _ rt_3
  have r2_rt_3 := cell_of_row _ _ 2 _ _ _ rt_3
  have f0_rt_3 := frozen_of_row _ _ 0 _ _ rt_3
  have f1_rt_3 := frozen_of_row _ _ 1 _ _ rt_3
  have f2_rt_3 := frozen_of_row _ _ 2 _ _ rt_3
  simp at r0_rt_3 r1_rt_3 r2_rt_3
  clear rt_3
  clear r0_rk_2 f0_rk_2 r1_rk_2 f1_rk_2 r2_rk_2 f2_rk_2 r3_rk_2 f3_rk_2 r4_rk_2 f4_rk_2 r5_rk_2 f5_rk_2 r6_rk_2 f6_rk_2 r7_rk_2 f7_rk_2 r8_rk_2 f8_rk_2 r9_rk_2 f9_rk_2
  clear r0_rm_2 f0_rm_2 r1_rm_2 f1_rm_2 r2_rm_2 f2_rm_2 r3_rm_2 f3_rm_2
  cases B1
  case false =>
    go_wp2_with fail
    first | go_region_held3 (fun w' => (∀ b' o, b' < (w3).heap.size → w'.cell? ⟨b', o, none⟩ = (w3).cell? ⟨b', o, none⟩) ∧ Below (w3).heap.size (w3) w') (first | with_reducible assumption | (with_reducible apply rg_keep; rotate_left; with_reducible assumption; with_reducible assumption) | with_reducible exact rg_start _ | with_reducible exact rg_alloc (KeptS.out (by with_reducible assumption)) _ | with_reducible exact rg_alloc (by with_reducible assumption) _ | with_reducible exact rg_start_alloc _ _ | ((repeat (with_reducible refine rg_set ?_ _ (by first | exact Nat.le_refl _ | omega | (simp; done) | (simp; omega)) _)); first | with_reducible exact KeptS.out (by with_reducible assumption) | with_reducible assumption | with_reducible exact rg_alloc (KeptS.out (by with_reducible assumption)) _)) (first | (go_at_call 18; ((with_reducible refine (HK2.out _ _ _ (Ok1_3.out.below (rgBMacRow (by first | with_reducible assumption | exact KeptS.out (by with_reducible assumption)))).rd (Ok2_3.out.below (rgBMacRow (by first | with_reducible assumption | exact KeptS.out (by with_reducible assumption)))).rd).mono ?_); (rintro e wA ⟨rfl, hbA⟩; have hSA := rg_keepK (by first | with_reducible assumption | exact KeptS.out (by with_reducible assumption)) hbA))) | (go_at_call 15; ((with_reducible refine (HK.out _ _ _ (Ok1_3.out.below (rgBMacRow (by first | with_reducible assumption | exact KeptS.out (by with_reducible assumption)))).rd (Ok2_3.out.below (rgBMacRow (by first | with_reducible assumption | exact KeptS.out (by with_reducible assumption)))).rd).mono ?_); (rintro e wB ⟨rfl, hbB⟩; have hSB := rg_keepK (by first | with_reducible assumption | exact KeptS.out (by with_reducible assumption)) hbB)))) | fail
    all_goals (go_wp2_with fail; go_ret; exact ⟨by simp, hw3.trans ((by assumption : _ ∧ Below w3.heap.size w3 wB).2.mono hw3.size)⟩)
  case true =>
    go_wp2_with fail
    refine (HT.out _).mono ?_
    rintro e w4 ⟨rfl, hb4⟩
    have hz4 := hb4.size
    (try simp at hz4)
    have rk_4 := (hb4.block _ (by first | omega | (simp; done) | (simp; omega))).trans Rk_3.out
    have rm_4 := (hb4.block _ (by first | omega | (simp; done) | (simp; omega))).trans Rm_3.out
    have rt_4 := (hb4.block _ (by first | omega | (simp; done) | (simp; omega))).trans Rt_3.out
    have Ok1_4 := Lib.hid (Ok1_3.out.below (w' := w4) (by repeat (first | with_reducible exact Below.refl _ _ | with_reducible assumption | with_reducible refine Below.drew ?_ | with_reducible refine Below.alloc ?_ (by first | exact Nat.le_refl _ | omega | (simp; done) | (simp; omega)) _ | with_reducible refine Below.setCell ?_ (by first | exact Nat.le_refl _ | omega | (simp; done) | (simp; omega)) _ | (with_reducible refine ext_trans ?_ (by with_reducible assumption)))))
    have Ok2_4 := Lib.hid (Ok2_3.out.below (w' := w4) (by repeat (first | with_reducible exact Below.refl _ _ | with_reducible assumption | with_reducible refine Below.drew ?_ | with_reducible refine Below.alloc ?_ (by first | exact Nat.le_refl _ | omega | (simp; done) | (simp; omega)) _ | with_reducible refine Below.setCell ?_ (by first | exact Nat.le_refl _ | omega | (simp; done) | (simp; omega)) _ | (with_reducible refine ext_trans ?_ (by with_reducible assumption)))))
    have Om1_4 := Lib.hid (Om1_3.out.below (w' := w4) (by repeat (first | with_reducible exact Below.refl _ _ | with_reducible assumption | with_reducible refine Below.drew ?_ | with_reducible refine Below.alloc ?_ (by first | exact Nat.le_refl _ | omega | (simp; done) | (simp; omega)) _ | with_reducible refine Below.setCell ?_ (by first | exact Nat.le_refl _ | omega | (simp; done) | (simp; omega)) _ | (with_reducible refine ext_trans ?_ (by with_reducible assumption)))))
    have hw4 : Below w.heap.size w w4 := (by repeat (first | with_reducible exact Below.refl _ _ | with_reducible assumption | with_reducible refine Below.drew ?_ | with_reducible refine Below.alloc ?_ (by first | exact Nat.le_refl _ | omega | (simp; done) | (simp; omega)) _ | with_reducible refine Below.setCell ?_ (by first | exact Nat.le_refl _ | omega | (simp; done) | (simp; omega)) _ | (with_reducible refine ext_trans ?_ (by with_reducible assumption))))
    have lRk_4 : w1.heap.size < w4.heap.size := by omega
    have lRm_4 : w1.heap.size + 1 < w4.heap.size := by omega
    have lRt_4 : w2.heap.size < w4.heap.size := by omega
    have Rk_4 := Lib.hid rk_4
    have r0_rk_4 := cell_of_row _ _ 0 _ _ _ rk_4
    have r1_rk_4 := cell_of_row _ _ 1 _ _ _ rk_4
    have r2_rk_4 := cell_of_row _ _ 2 _ _ _ rk_4
    have r3_rk_4 := cell_of_row _ _ 3 _ _ _ rk_4
    have r4_rk_4 := cell_of_row _ _ 4 _ _ _ rk_4
    have r5_rk_4 := cell_of_row _ _ 5 _ _ _ rk_4
    have r6_rk_4 := cell_of_row _ _ 6 _ _ _ rk_4
    have r7_rk_4 := cell_of_row _ _ 7 _ _ _ rk_4
    have r8_rk_4 := cell_of_row _ _ 8 _ _ _ rk_4
    have r9_rk_4 := cell_of_row _ _ 9 _ _ _ rk_4
    have f0_rk_4 := frozen_of_row _ _ 0 _ _ rk_4
    have f1_rk_4 := frozen_of_row _ _ 1 _ _ rk_4
    have f2_rk_4 := frozen_of_row _ _ 2 _ _ rk_4
    have f3_rk_4 := frozen_of_row _ _ 3 _ _ rk_4
    have f4_rk_4 := frozen_of_row _ _ 4 _ _ rk_4
    have f5_rk_4 := frozen_of_row _ _ 5 _ _ rk_4
    have f6_rk_4 := frozen_of_row _ _ 6 _ _ rk_4
    have f7_rk_4 := frozen_of_row _ _ 7 _ _ rk_4
    have f8_rk_4 := frozen_of_row _ _ 8 _ _ rk_4
    have f9_rk_4 := frozen_of_row _ _ 9 _ _ rk_4
    simp at r0_rk_4 r1_rk_4 r2_rk_4 r3_rk_4 r4_rk_4 r5_rk_4 r6_rk_4 r7_rk_4 r8_rk_4 r9_rk_4
    clear rk_4
    have Rm_4 := Lib.hid rm_4
    have r0_rm_4 := cell_of_row _ _ 0 _ _ _ rm_4
    have r1_rm_4 := cell_of_row _ _ 1 _ _ _ rm_4
    have r2_rm_4 := cell_of_row _ _ 2 _ _ _ rm_4
    have r3_rm_4 := cell_of_row _ _ 3 _ _ _ rm_4
    have f0_rm_4 := frozen_of_row _ _ 0 _ _ rm_4
    have f1_rm_4 := frozen_of_row _ _ 1 _ _ rm_4
    have f2_rm_4 := frozen_of_row _ _ 2 _ _ rm_4
    have f3_rm_4 := frozen_of_row _ _ 3 _ _ rm_4
    simp at r0_rm_4 r1_rm_4 r2_rm_4 r3_rm_4
    clear rm_4
    have Rt_4 := Lib.hid rt_4
    have r0_rt_4 := cell_of_row _ _ 0 _ _ _ rt_4
    have r1_rt_4 := cell_of_row _ _ 1 _ _ _ rt_4
    have r2_rt_4 := cell_of_row _ _ 2 _ _ _ rt_4
    have f0_rt_4 := frozen_of_row _ _ 0 _ _ rt_4
    have f1_rt_4 := frozen_of_row _ _ 1 _ _ rt_4
    have f2_rt_4 := frozen_of_row _ _ 2 _ _ rt_4
    simp at r0_rt_4 r1_rt_4 r2_rt_4
    clear rt_4
    clear r0_rk_3 f0_rk_3 r1_rk_3 f1_rk_3 r2_rk_3 f2_rk_3 r3_rk_3 f3_rk_3 r4_rk_3 f4_rk_3 r5_rk_3 f5_rk_3 r6_rk_3 f6_rk_3 r7_rk_3 f7_rk_3 r8_rk_3 f8_rk_3 r9_rk_3 f9_rk_3
    clear r0_rm_3 f0_rm_3 r1_rm_3 f1_rm_3 r2_rm_3 f2_rm_3 r3_rm_3 f3_rm_3
    clear r0_rt_3 f0_rt_3 r1_rt_3 f1_rt_3 r2_rt_3 f2_rt_3
    cases B2
    case false =>
      go_wp2_with fail
      first | go_region_held3 (fun w' => (∀ b' o, b' < (w4).heap.size → w'.cell? ⟨b', o, none⟩ = (w4).cell? ⟨b', o, none⟩) ∧ Below (w4).heap.size (w4) w') (first | with_reducible assumption | (with_reducible apply rg_keep; rotate_left; with_reducible assumption; with_reducible assumption) | with_reducible exact rg_start _ | with_reducible exact rg_alloc (KeptS.out (by with_reducible assumption)) _ | with_reducible exact rg_alloc (by with_reducible assumption) _ | with_reducible exact rg_start_alloc _ _ | ((repeat (with_reducible refine rg_set ?_ _ (by first | exact Nat.le_refl _ | omega | (simp; done) | (simp; omega)) _)); first | with_reducible exact KeptS.out (by with_reducible assumption) | with_reducible assumption | with_reducible exact rg_alloc (KeptS.out (by with_reducible assumption)) _)) (first | (go_at_call 18; ((with_reducible refine (HK2.out _ _ _ (Ok1_4.out.below (rgBMacRow (by first | with_reducible assumption | exact KeptS.out (by with_reducible assumption)))).rd (Ok2_4.out.below (rgBMacRow (by first | with_reducible assumption | exact KeptS.out (by with_reducible assumption)))).rd).mono ?_); (rintro e wA ⟨rfl, hbA⟩; have hSA := rg_keepK (by first | with_reducible assumption | exact KeptS.out (by with_reducible assumption)) hbA))) | (go_at_call 15; ((with_reducible refine (HK.out _ _ _ (Ok1_4.out.below (rgBMacRow (by first | with_reducible assumption | exact KeptS.out (by with_reducible assumption)))).rd (Ok2_4.out.below (rgBMacRow (by first | with_reducible assumption | exact KeptS.out (by with_reducible assumption)))).rd).mono ?_); (rintro e wB ⟨rfl, hbB⟩; have hSB := rg_keepK (by first | with_reducible assumption | exact KeptS.out (by with_reducible assumption)) hbB)))) | fail
      all_goals (go_wp2_with fail; go_ret; exact ⟨by simp, hw4.trans ((by assumption : _ ∧ Below w4.heap.size w4 wB).2.mono hw4.size)⟩)
    case true =>
      go_wp2_with fail
      refine (HW.out _).mono ?_
      rintro e w' ⟨rfl, rfl⟩
      cases B3
      case false =>
        go_wp2_with fail
        first | go_region_held3 (fun w' => (∀ b' o, b' < (w4).heap.size → w'.cell? ⟨b', o, none⟩ = (w4).cell? ⟨b', o, none⟩) ∧ Below (w4).heap.size (w4) w') (first | with_reducible assumption | (with_reducible apply rg_keep; rotate_left; with_reducible assumption; with_reducible assumption) | with_reducible exact rg_start _ | with_reducible exact rg_alloc (KeptS.out (by with_reducible assumption)) _ | with_reducible exact rg_alloc (by with_reducible assumption) _ | with_reducible exact rg_start_alloc _ _ | ((repeat (with_reducible refine rg_set ?_ _ (by first | exact Nat.le_refl _ | omega | (simp; done) | (simp; omega)) _)); first | with_reducible exact KeptS.out (by with_reducible assumption) | with_reducible assumption | with_reducible exact rg_alloc (KeptS.out (by with_reducible assumption)) _)) (first | (go_at_call 18; ((with_reducible refine (HK2.out _ _ _ (Ok1_4.out.below (rgBMacRow (by first | with_reducible assumption | exact KeptS.out (by with_reducible assumption)))).rd (Ok2_4.out.below (rgBMacRow (by first | with_reducible assumption | exact KeptS.out (by with_reducible assumption)))).rd).mono ?_); (rintro e wA ⟨rfl, hbA⟩; have hSA := rg_keepK (by first | with_reducible assumption | exact KeptS.out (by with_reducible assumption)) hbA))) | (go_at_call 15; ((with_reducible refine (HK.out _ _ _ (Ok1_4.out.below (rgBMacRow (by first | with_reducible assumption | exact KeptS.out (by with_reducible assumption)))).rd (Ok2_4.out.below (rgBMacRow (by first | with_reducible assumption | exact KeptS.out (by with_reducible assumption)))).rd).mono ?_); (rintro e wB ⟨rfl, hbB⟩; have hSB := rg_keepK (by first | with_reducible assumption | exact KeptS.out (by with_reducible assumption)) hbB)))) | fail
        all_goals (go_wp2_with fail; go_ret; exact ⟨by simp, hw4.trans ((by assumption : _ ∧ Below w4.heap.size w4 wB).2.mono hw4.size)⟩)
      case true =>
        by_cases hlow : i < 0
        case pos =>
          go_wp2_with fail
          first | go_region_held3 (fun w' => (∀ b' o, b' < (w4).heap.size → w'.cell? ⟨b', o, none⟩ = (w4).cell? ⟨b', o, none⟩) ∧ Below (w4).heap.size (w4) w') (first | with_reducible assumption | (with_reducible apply rg_keep; rotate_left; with_reducible assumption; with_reducible assumption) | with_reducible exact rg_start _ | with_reducible exact rg_alloc (KeptS.out (by with_reducible assumption)) _ | with_reducible exact rg_alloc (by with_reducible assumption) _ | with_reducible exact rg_start_alloc _ _ | ((repeat (with_reducible refine rg_set ?_ _ (by first | exact Nat.le_refl _ | omega | (simp; done) | (simp; omega)) _)); first | with_reducible exact KeptS.out (by with_reducible assumption) | with_reducible assumption | with_reducible exact rg_alloc (KeptS.out (by with_reducible assumption)) _)) (first | (go_at_call 18; ((with_reducible refine (HK2.out _ _ _ (Ok1_4.out.below (rgBMacRow (by first | with_reducible assumption | exact KeptS.out (by with_reducible assumption)))).rd (Ok2_4.out.below (rgBMacRow (by first | with_reducible assumption | exact KeptS.out (by with_reducible assumption)))).rd).mono ?_); (rintro e wA ⟨rfl, hbA⟩; have hSA := rg_keepK (by first | with_reducible assumption | exact KeptS.out (by with_reducible assumption)) hbA))) | (go_at_call 15; ((with_reducible refine (HK.out _ _ _ (Ok1_4.out.below (rgBMacRow (by first | with_reducible assumption | exact KeptS.out (by with_reducible assumption)))).rd (Ok2_4.out.below (rgBMacRow (by first | with_reducible assumption | exact KeptS.out (by with_reducible assumption)))).rd).mono ?_); (rintro e wB ⟨rfl, hbB⟩; have hSB := rg_keepK (by first | with_reducible assumption | exact KeptS.out (by with_reducible assumption)) hbB)))) | fail
          all_goals (go_wp2_with fail; go_ret; exact ⟨by simp, hw4.trans ((by assumption : _ ∧ Below w4.heap.size w4 wB).2.mono hw4.size)⟩)
        case neg =>
          by_cases hhi : (7 : Int) < i
          case pos =>
            go_wp2_with fail
            first | go_region_held3 (fun w' => (∀ b' o, b' < (w4).heap.size → w'.cell? ⟨b', o, none⟩ = (w4).cell? ⟨b', o, none⟩) ∧ Below (w4).heap.size (w4) w') (first | with_reducible assumption | (with_reducible apply rg_keep; rotate_left; with_reducible assumption; with_reducible assumption) | with_reducible exact rg_start _ | with_reducible exact rg_alloc (KeptS.out (by with_reducible assumption)) _ | with_reducible exact rg_alloc (by with_reducible assumption) _ | with_reducible exact rg_start_alloc _ _ | ((repeat (with_reducible refine rg_set ?_ _ (by first | exact Nat.le_refl _ | omega | (simp; done) | (simp; omega)) _)); first | with_reducible exact KeptS.out (by with_reducible assumption) | with_reducible assumption | with_reducible exact rg_alloc (KeptS.out (by with_reducible assumption)) _)) (first | (go_at_call 18; ((with_reducible refine (HK2.out _ _ _ (Ok1_4.out.below (rgBMacRow (by first | with_reducible assumption | exact KeptS.out (by with_reducible assumption)))).rd (Ok2_4.out.below (rgBMacRow (by first | with_reducible assumption | exact KeptS.out (by with_reducible assumption)))).rd).mono ?_); (rintro e wA ⟨rfl, hbA⟩; have hSA := rg_keepK (by first | with_reducible assumption | exact KeptS.out (by with_reducible assumption)) hbA))) | (go_at_call 15; ((with_reducible refine (HK.out _ _ _ (Ok1_4.out.below (rgBMacRow (by first | with_reducible assumption | exact KeptS.out (by with_reducible assumption)))).rd (Ok2_4.out.below (rgBMacRow (by first | with_reducible assumption | exact KeptS.out (by with_reducible assumption)))).rd).mono ?_); (rintro e wB ⟨rfl, hbB⟩; have hSB := rg_keepK (by first | with_reducible assumption | exact KeptS.out (by with_reducible assumption)) hbB)))) | fail
            all_goals (go_wp2_with fail; go_ret; exact ⟨by simp, hw4.trans ((by assumption : _ ∧ Below w4.heap.size w4 wB).2.mono hw4.size)⟩)
          case neg =>
            have hm : macOk a b c seq x.ep i = true := macOk_mk HB1.out HB2.out HB3.out (by omega) (by omega)
            obtain ⟨hx1, hx2, -⟩ := RKeys.ok_bd HB1.out
            obtain ⟨CK, hCK⟩ : ∃ C, cookieI x.now a b c seq x.ep i = C := ⟨_, rfl⟩
            have q1 := fun W v h => CookieOf_any x.now v a b c seq x.ep i G1.out W h
            rw [hCK] at q1
            have Q1 := Lib.hid q1
            have q2 := fun W v1 v2 h1 h2 => CheckCookie_any x v1 v2 a b c seq CK G1.out G2.out P1.out P2.out W h1 h2
            rw [← hCK, check_now HB1.out hm, hCK] at q2
            dsimp only [vCk] at q2
            have Q2 := Lib.hid q2
            have HM := Lib.hid hm
            have HCK := Lib.hid hCK
            clear q1 q2 hm hCK
            go_wp2_with fail
            refine (Q1.out _ _ (Ok1_4.out.below (by repeat (first | with_reducible exact Below.refl _ _ | with_reducible assumption | with_reducible refine Below.drew ?_ | with_reducible refine Below.alloc ?_ (by first | exact Nat.le_refl _ | omega | (simp; done) | (simp; omega)) _ | with_reducible refine Below.setCell ?_ (by first | exact Nat.le_refl _ | omega | (simp; done) | (simp; omega)) _ | (with_reducible refine ext_trans ?_ (by with_reducible assumption))))).rd).mono ?_
            rintro e w5 ⟨rfl, hb5⟩
            have hz5 := hb5.size
            (try simp at hz5)
            have rk_5 := (hb5.block _ (by first | omega | (simp; done) | (simp; omega))).trans Rk_4.out
            have rm_5 := (hb5.block _ (by first | omega | (simp; done) | (simp; omega))).trans Rm_4.out
            have rt_5 := (hb5.block _ (by first | omega | (simp; done) | (simp; omega))).trans Rt_4.out
            have Ok1_5 := Lib.hid (Ok1_4.out.below (w' := w5) (by repeat (first | with_reducible exact Below.refl _ _ | with_reducible assumption | with_reducible refine Below.drew ?_ | with_reducible refine Below.alloc ?_ (by first | exact Nat.le_refl _ | omega | (simp; done) | (simp; omega)) _ | with_reducible refine Below.setCell ?_ (by first | exact Nat.le_refl _ | omega | (simp; done) | (simp; omega)) _ | (with_reducible refine ext_trans ?_ (by with_reducible assumption)))))
            have Ok2_5 := Lib.hid (Ok2_4.out.below (w' := w5) (by repeat (first | with_reducible exact Below.refl _ _ | with_reducible assumption | with_reducible refine Below.drew ?_ | with_reducible refine Below.alloc ?_ (by first | exact Nat.le_refl _ | omega | (simp; done) | (simp; omega)) _ | with_reducible refine Below.setCell ?_ (by first | exact Nat.le_refl _ | omega | (simp; done) | (simp; omega)) _ | (with_reducible refine ext_trans ?_ (by with_reducible assumption)))))
            have Om1_5 := Lib.hid (Om1_4.out.below (w' := w5) (by repeat (first | with_reducible exact Below.refl _ _ | with_reducible assumption | with_reducible refine Below.drew ?_ | with_reducible refine Below.alloc ?_ (by first | exact Nat.le_refl _ | omega | (simp; done) | (simp; omega)) _ | with_reducible refine Below.setCell ?_ (by first | exact Nat.le_refl _ | omega | (simp; done) | (simp; omega)) _ | (with_reducible refine ext_trans ?_ (by with_reducible assumption)))))
            have hw5 : Below w.heap.size w w5 := (by repeat (first | with_reducible exact Below.refl _ _ | with_reducible assumption | with_reducible refine Below.drew ?_ | with_reducible refine Below.alloc ?_ (by first | exact Nat.le_refl _ | omega | (simp; done) | (simp; omega)) _ | with_reducible refine Below.setCell ?_ (by first | exact Nat.le_refl _ | omega | (simp; done) | (simp; omega)) _ | (with_reducible refine ext_trans ?_ (by with_reducible assumption))))
            have lRk_5 : w1.heap.size < w5.heap.size := by omega
            have lRm_5 : w1.heap.size + 1 < w5.heap.size := by omega
            have lRt_5 : w2.heap.size < w5.heap.size := by omega
            have Rk_5 := Lib.hid rk_5
            have r0_rk_5 := cell_of_row _ _ 0 _ _ _ rk_5
            have r1_rk_5 := cell_of_row _ _ 1 _ _ _ rk_5
            have r2_rk_5 := cell_of_row _ _ 2 _ _ _ rk_5
            have r3_rk_5 := cell_of_row _ _ 3 _ _ _ rk_5
            have r4_rk_5 := cell_of_row _ _ 4 _ _ _ rk_5
            have r5_rk_5 := cell_of_row _ _ 5 _ _ _ rk_5
            have r6_rk_5 := cell_of_row _ _ 6 _ _ _ rk_5
            have r7_rk_5 := cell_of_row _ _ 7 _ _ _ rk_5
            have r8_rk_5 := cell_of_row _ _ 8 _ _ _ rk_5
            have r9_rk_5 := cell_of_row _ _ 9 _ _ _ rk_5
            have f0_rk_5 := frozen_of_row _ _ 0 _ _ rk_5
            have f1_rk_5 := frozen_of_row _ _ 1 _ _ rk_5
            have f2_rk_5 := frozen_of_row _ _ 2 _ _ rk_5
            have f3_rk_5 := frozen_of_row _ _ 3 _ _ rk_5
            have f4_rk_5 := frozen_of_row _ _ 4 _ _ rk_5
            have f5_rk_5 := frozen_of_row _ _ 5 _ _ rk_5
            have f6_rk_5 := frozen_of_row _ _ 6 _ _ rk_5
            have f7_rk_5 := frozen_of_row _ _ 7 _ _ rk_5
            have f8_rk_5 := frozen_of_row _ _ 8 _ _ rk_5
            have f9_rk_5 := frozen_of_row _ _ 9 _ _ rk_5
            simp at r0_rk_5 r1_rk_5 r2_rk_5 r3_rk_5 r4_rk_5 r5_rk_5 r6_rk_5 r7_rk_5 r8_rk_5 r9_rk_5
            clear rk_5
            have Rm_5 := Lib.hid rm_5
            have r0_rm_5 := cell_of_row _ _ 0 _ _ _ rm_5
            have r1_rm_5 := cell_of_row _ _ 1 _ _ _ rm_5
            have r2_rm_5 := cell_of_row _ _ 2 _ _ _ rm_5
            have r3_rm_5 := cell_of_row _ _ 3 _ _ _ rm_5
            have f0_rm_5 := frozen_of_row _ _ 0 _ _ rm_5
            have f1_rm_5 := frozen_of_row _ _ 1 _ _ rm_5
            have f2_rm_5 := frozen_of_row _ _ 2 _ _ rm_5
            have f3_rm_5 := frozen_of_row _ _ 3 _ _ rm_5
            simp at r0_rm_5 r1_rm_5 r2_rm_5 r3_rm_5
            clear rm_5
            have Rt_5 := Lib.hid rt_5
            have r0_rt_5 := cell_of_row _ _ 0 _ _ _ rt_5
            have r1_rt_5 := cell_of_row _ _ 1 _ _ _ rt_5
            have r2_rt_5 := cell_of_row _ _ 2 _ _ _ rt_5
            have f0_rt_5 := frozen_of_row _ _ 0 _ _ rt_5
            have f1_rt_5 := frozen_of_row _ _ 1 _ _ rt_5
            have f2_rt_5 := frozen_of_row _ _ 2 _ _ rt_5
            simp at r0_rt_5 r1_rt_5 r2_rt_5
            clear rt_5
            clear r0_rk_4 f0_rk_4 r1_rk_4 f1_rk_4 r2_rk_4 f2_rk_4 r3_rk_4 f3_rk_4 r4_rk_4 f4_rk_4 r5_rk_4 f5_rk_4 r6_rk_4 f6_rk_4 r7_rk_4 f7_rk_4 r8_rk_4 f8_rk_4 r9_rk_4 f9_rk_4
            clear r0_rm_4 f0_rm_4 r1_rm_4 f1_rm_4 r2_rm_4 f2_rm_4 r3_rm_4 f3_rm_4
            clear r0_rt_4 f0_rt_4 r1_rt_4 f1_rt_4 r2_rt_4 f2_rt_4
            go_wp2_with fail
            refine (Q2.out _ _ _ (Ok1_5.out.below (by repeat (first | with_reducible exact Below.refl _ _ | with_reducible assumption | with_reducible refine Below.drew ?_ | with_reducible refine Below.alloc ?_ (by first | exact Nat.le_refl _ | omega | (simp; done) | (simp; omega)) _ | with_reducible refine Below.setCell ?_ (by first | exact Nat.le_refl _ | omega | (simp; done) | (simp; omega)) _ | (with_reducible refine ext_trans ?_ (by with_reducible assumption))))).rd (Ok2_5.out.below (by repeat (first | with_reducible exact Below.refl _ _ | with_reducible assumption | with_reducible refine Below.drew ?_ | with_reducible refine Below.alloc ?_ (by first | exact Nat.le_refl _ | omega | (simp; done) | (simp; omega)) _ | with_reducible refine Below.setCell ?_ (by first | exact Nat.le_refl _ | omega | (simp; done) | (simp; omega)) _ | (with_reducible refine ext_trans ?_ (by with_reducible assumption))))).rd).mono ?_
            rintro e w6 ⟨rfl, hb6⟩
            have hz6 := hb6.size
            (try simp at hz6)
            have rk_6 := (hb6.block _ (by first | omega | (simp; done) | (simp; omega))).trans Rk_5.out
            have rm_6 := (hb6.block _ (by first | omega | (simp; done) | (simp; omega))).trans Rm_5.out
            have rt_6 := (hb6.block _ (by first | omega | (simp; done) | (simp; omega))).trans Rt_5.out
            have Ok1_6 := Lib.hid (Ok1_5.out.below (w' := w6) (by repeat (first | with_reducible exact Below.refl _ _ | with_reducible assumption | with_reducible refine Below.drew ?_ | with_reducible refine Below.alloc ?_ (by first | exact Nat.le_refl _ | omega | (simp; done) | (simp; omega)) _ | with_reducible refine Below.setCell ?_ (by first | exact Nat.le_refl _ | omega | (simp; done) | (simp; omega)) _ | (with_reducible refine ext_trans ?_ (by with_reducible assumption)))))
            have Ok2_6 := Lib.hid (Ok2_5.out.below (w' := w6) (by repeat (first | with_reducible exact Below.refl _ _ | with_reducible assumption | with_reducible refine Below.drew ?_ | with_reducible refine Below.alloc ?_ (by first | exact Nat.le_refl _ | omega | (simp; done) | (simp; omega)) _ | with_reducible refine Below.setCell ?_ (by first | exact Nat.le_refl _ | omega | (simp; done) | (simp; omega)) _ | (with_reducible refine ext_trans ?_ (by with_reducible assumption)))))
            have Om1_6 := Lib.hid (Om1_5.out.below (w' := w6) (by repeat (first | with_reducible exact Below.refl _ _ | with_reducible assumption | with_reducible refine Below.drew ?_ | with_reducible refine Below.alloc ?_ (by first | exact Nat.le_refl _ | omega | (simp; done) | (simp; omega)) _ | with_reducible refine Below.setCell ?_ (by first | exact Nat.le_refl _ | omega | (simp; done) | (simp; omega)) _ | (with_reducible refine ext_trans ?_ (by with_reducible assumption)))))
            have hw6 : Below w.heap.size w w6 := (by repeat (first | with_reducible exact Below.refl _ _ | with_reducible assumption | with_reducible refine Below.drew ?_ | with_reducible refine Below.alloc ?_ (by first | exact Nat.le_refl _ | omega | (simp; done) | (simp; omega)) _ | with_reducible refine Below.setCell ?_ (by first | exact Nat.le_refl _ | omega | (simp; done) | (simp; omega)) _ | (with_reducible refine ext_trans ?_ (by with_reducible assumption))))
            have lRk_6 : w1.heap.size < w6.heap.size := by omega
            have lRm_6 : w1.heap.size + 1 < w6.heap.size := by omega
            have lRt_6 : w2.heap.size < w6.heap.size := by omega
            have Rk_6 := Lib.hid rk_6
            have r0_rk_6 := cell_of_row _ _ 0 _ _ _ rk_6
            have r1_rk_6 := cell_of_row _ _ 1 _ _ _ rk_6
            have r2_rk_6 := cell_of_row _ _ 2 _ _ _ rk_6
            have r3_rk_6 := cell_of_row _ _ 3 _ _ _ rk_6
            have r4_rk_6 := cell_of_row _ _ 4 _ _ _ rk_6
            have r5_rk_6 := cell_of_row _ _ 5 _ _ _ rk_6
            have r6_rk_6 := cell_of_row _ _ 6 _ _ _ rk_6
            have r7_rk_6 := cell_of_row _ _ 7 _ _ _ rk_6
            have r8_rk_6 := cell_of_row _ _ 8 _ _ _ rk_6
            have r9_rk_6 := cell_of_row _ _ 9 _ _ _ rk_6
            have f0_rk_6 := frozen_of_row _ _ 0 _ _ rk_6
            have f1_rk_6 := frozen_of_row _ _ 1 _ _ rk_6
            have f2_rk_6 := frozen_of_row _ _ 2 _ _ rk_6
            have f3_rk_6 := frozen_of_row _ _ 3 _ _ rk_6
            have f4_rk_6 := frozen_of_row _ _ 4 _ _ rk_6
            have f5_rk_6 := frozen_of_row _ _ 5 _ _ rk_6
            have f6_rk_6 := frozen_of_row _ _ 6 _ _ rk_6
            have f7_rk_6 := frozen_of_row _ _ 7 _ _ rk_6
            have f8_rk_6 := frozen_of_row _ _ 8 _ _ rk_6
            have f9_rk_6 := frozen_of_row _ _ 9 _ _ rk_6
            simp at r0_rk_6 r1_rk_6 r2_rk_6 r3_rk_6 r4_rk_6 r5_rk_6 r6_rk_6 r7_rk_6 r8_rk_6 r9_rk_6
            clear rk_6
            have Rm_6 := Lib.hid rm_6
            have r0_rm_6 := cell_of_row _ _ 0 _ _ _ rm_6
            have r1_rm_6 := cell_of_row _ _ 1 _ _ _ rm_6
            have r2_rm_6 := cell_of_row _ _ 2 _ _ _ rm_6
            have r3_rm_6 := cell_of_row _ _ 3 _ _ _ rm_6
            have f0_rm_6 := frozen_of_row _ _ 0 _ _ rm_6
            have f1_rm_6 := frozen_of_row _ _ 1 _ _ rm_6
            have f2_rm_6 := frozen_of_row _ _ 2 _ _ rm_6
            have f3_rm_6 := frozen_of_row _ _ 3 _ _ rm_6
            simp at r0_rm_6 r1_rm_6 r2_rm_6 r3_rm_6
            clear rm_6
            have Rt_6 := Lib.hid rt_6
            have r0_rt_6 := cell_of_row _ _ 0 _ _ _ rt_6
            have r1_rt_6 := cell_of_row _ _ 1 _ _ _ rt_6
            have r2_rt_6 := cell_of_row _ _ 2 _ _ _ rt_6
            have f0_rt_6 := frozen_of_row _ _ 0 _ _ rt_6
            have f1_rt_6 := frozen_of_row _ _ 1 _ _ rt_6
            have f2_rt_6 := frozen_of_row _ _ 2 _ _ rt_6
            simp at r0_rt_6 r1_rt_6 r2_rt_6
            clear rt_6
            clear r0_rk_5 f0_rk_5 r1_rk_5 f1_rk_5 r2_rk_5 f2_rk_5 r3_rk_5 f3_rk_5 r4_rk_5 f4_rk_5 r5_rk_5 f5_rk_5 r6_rk_5 f6_rk_5 r7_rk_5 f7_rk_5 r8_rk_5 f8_rk_5 r9_rk_5 f9_rk_5
            clear r0_rm_5 f0_rm_5 r1_rm_5 f1_rm_5 r2_rm_5 f2_rm_5 r3_rm_5 f3_rm_5
            clear r0_rt_5 f0_rt_5 r1_rt_5 f1_rt_5 r2_rt_5 f2_rt_5
            obtain ⟨R, hR⟩ : ∃ R, x.rot m = R := ⟨_, rfl⟩
            have q3 := fun W v1 v2 v3 h1 h2 h3 => Rotated_any x m v1 v2 v3 G1.out G2.out G3.out P1.out P2.out P3.out W h1 h2 h3
            rw [hR] at q3
            have Q3 := Lib.hid q3
            have HR := Lib.hid hR
            clear q3 hR
            obtain ⟨B4, hB4⟩ : ∃ B, m.ok = B := ⟨_, rfl⟩
            have q4 := fun W v h => sMacOkB m v B4 hB4 G3.out W h
            have Q4 := Lib.hid q4
            have HB4 := Lib.hid hB4
            clear q4 hB4
            go_wp2_with fail
            refine (Q3.out _ _ _ _ (Ok1_6.out.below (by repeat (first | with_reducible exact Below.refl _ _ | with_reducible assumption | with_reducible refine Below.drew ?_ | with_reducible refine Below.alloc ?_ (by first | exact Nat.le_refl _ | omega | (simp; done) | (simp; omega)) _ | with_reducible refine Below.setCell ?_ (by first | exact Nat.le_refl _ | omega | (simp; done) | (simp; omega)) _ | (with_reducible refine ext_trans ?_ (by with_reducible assumption))))).rd (Ok2_6.out.below (by repeat (first | with_reducible exact Below.refl _ _ | with_reducible assumption | with_reducible refine Below.drew ?_ | with_reducible refine Below.alloc ?_ (by first | exact Nat.le_refl _ | omega | (simp; done) | (simp; omega)) _ | with_reducible refine Below.setCell ?_ (by first | exact Nat.le_refl _ | omega | (simp; done) | (simp; omega)) _ | (with_reducible refine ext_trans ?_ (by with_reducible assumption))))).rd (Om1_6.out.below (by repeat (first | with_reducible exact Below.refl _ _ | with_reducible assumption | with_reducible refine Below.drew ?_ | with_reducible refine Below.alloc ?_ (by first | exact Nat.le_refl _ | omega | (simp; done) | (simp; omega)) _ | with_reducible refine Below.setCell ?_ (by first | exact Nat.le_refl _ | omega | (simp; done) | (simp; omega)) _ | (with_reducible refine ext_trans ?_ (by with_reducible assumption))))).rd).mono ?_
            rintro e w7 ⟨u1, u2, rfl, hO71, hO72, hap7, hb7⟩
            clear hap7
            obtain ⟨D1, d1, rfl⟩ := hO71.form
            obtain ⟨D2, d2, rfl⟩ := hO72.form
            have Or1_7 := Lib.hid (OwnE.mono (base' := w6.heap.size) hO71 (by first | exact Nat.le_refl _ | (simp; done)))
            have Br1 := Or1_7
            have Or2_7 := Lib.hid (OwnE.mono (base' := w6.heap.size) hO72 (by first | exact Nat.le_refl _ | (simp; done)))
            have Br2 := Or2_7
            have hz7 := hb7.size
            (try simp at hz7)
            have rk_7 := (hb7.block _ (by first | omega | (simp; done) | (simp; omega))).trans Rk_6.out
            have rm_7 := (hb7.block _ (by first | omega | (simp; done) | (simp; omega))).trans Rm_6.out
            have rt_7 := (hb7.block _ (by first | omega | (simp; done) | (simp; omega))).trans Rt_6.out
            have Ok1_7 := Lib.hid (Ok1_6.out.below (w' := w7) (by repeat (first | with_reducible exact Below.refl _ _ | with_reducible assumption | with_reducible refine Below.drew ?_ | with_reducible refine Below.alloc ?_ (by first | exact Nat.le_refl _ | omega | (simp; done) | (simp; omega)) _ | with_reducible refine Below.setCell ?_ (by first | exact Nat.le_refl _ | omega | (simp; done) | (simp; omega)) _ | (with_reducible refine ext_trans ?_ (by with_reducible assumption)))))
            have Ok2_7 := Lib.hid (Ok2_6.out.below (w' := w7) (by repeat (first | with_reducible exact Below.refl _ _ | with_reducible assumption | with_reducible refine Below.drew ?_ | with_reducible refine Below.alloc ?_ (by first | exact Nat.le_refl _ | omega | (simp; done) | (simp; omega)) _ | with_reducible refine Below.setCell ?_ (by first | exact Nat.le_refl _ | omega | (simp; done) | (simp; omega)) _ | (with_reducible refine ext_trans ?_ (by with_reducible assumption)))))
            have Om1_7 := Lib.hid (Om1_6.out.below (w' := w7) (by repeat (first | with_reducible exact Below.refl _ _ | with_reducible assumption | with_reducible refine Below.drew ?_ | with_reducible refine Below.alloc ?_ (by first | exact Nat.le_refl _ | omega | (simp; done) | (simp; omega)) _ | with_reducible refine Below.setCell ?_ (by first | exact Nat.le_refl _ | omega | (simp; done) | (simp; omega)) _ | (with_reducible refine ext_trans ?_ (by with_reducible assumption)))))
            have hw7 : Below w.heap.size w w7 := (by repeat (first | with_reducible exact Below.refl _ _ | with_reducible assumption | with_reducible refine Below.drew ?_ | with_reducible refine Below.alloc ?_ (by first | exact Nat.le_refl _ | omega | (simp; done) | (simp; omega)) _ | with_reducible refine Below.setCell ?_ (by first | exact Nat.le_refl _ | omega | (simp; done) | (simp; omega)) _ | (with_reducible refine ext_trans ?_ (by with_reducible assumption))))
            have lRk_7 : w1.heap.size < w7.heap.size := by omega
            have lRm_7 : w1.heap.size + 1 < w7.heap.size := by omega
            have lRt_7 : w2.heap.size < w7.heap.size := by omega
            have Rk_7 := Lib.hid rk_7
            have r0_rk_7 := cell_of_row _ _ 0 _ _ _ rk_7
            have r1_rk_7 := cell_of_row _ _ 1 _ _ _ rk_7
            have r2_rk_7 := cell_of_row _ _ 2 _ _ _ rk_7
            have r3_rk_7 := cell_of_row _ _ 3 _ _ _ rk_7
            have r4_rk_7 := cell_of_row _ _ 4 _ _ _ rk_7
            have r5_rk_7 := cell_of_row _ _ 5 _ _ _ rk_7
            have r6_rk_7 := cell_of_row _ _ 6 _ _ _ rk_7
            have r7_rk_7 := cell_of_row _ _ 7 _ _ _ rk_7
            have r8_rk_7 := cell_of_row _ _ 8 _ _ _ rk_7
            have r9_rk_7 := cell_of_row _ _ 9 _ _ _ rk_7
            have f0_rk_7 := frozen_of_row _ _ 0 _ _ rk_7
            have f1_rk_7 := frozen_of_row _ _ 1 _ _ rk_7
            have f2_rk_7 := frozen_of_row _ _ 2 _ _ rk_7
            have f3_rk_7 := frozen_of_row _ _ 3 _ _ rk_7
            have f4_rk_7 := frozen_of_row _ _ 4 _ _ rk_7
            have f5_rk_7 := frozen_of_row _ _ 5 _ _ rk_7
            have f6_rk_7 := frozen_of_row _ _ 6 _ _ rk_7
            have f7_rk_7 := frozen_of_row _ _ 7 _ _ rk_7
            have f8_rk_7 := frozen_of_row _ _ 8 _ _ rk_7
            have f9_rk_7 := frozen_of_row _ _ 9 _ _ rk_7
            simp at r0_rk_7 r1_rk_7 r2_rk_7 r3_rk_7 r4_rk_7 r5_rk_7 r6_rk_7 r7_rk_7 r8_rk_7 r9_rk_7
            clear rk_7
            have Rm_7 := Lib.hid rm_7
            have r0_rm_7 := cell_of_row _ _ 0 _ _ _ rm_7
            have r1_rm_7 := cell_of_row _ _ 1 _ _ _ rm_7
            have r2_rm_7 := cell_of_row _ _ 2 _ _ _ rm_7
            have r3_rm_7 := cell_of_row _ _ 3 _ _ _ rm_7
            have f0_rm_7 := frozen_of_row _ _ 0 _ _ rm_7
            have f1_rm_7 := frozen_of_row _ _ 1 _ _ rm_7
            have f2_rm_7 := frozen_of_row _ _ 2 _ _ rm_7
            have f3_rm_7 := frozen_of_row _ _ 3 _ _ rm_7
            simp at r0_rm_7 r1_rm_7 r2_rm_7 r3_rm_7
            clear rm_7
            have Rt_7 := Lib.hid rt_7
            have r0_rt_7 := cell_of_row _ _ 0 _ _ _ rt_7
            have r1_rt_7 := cell_of_row _ _ 1 _ _ _ rt_7
            have r2_rt_7 := cell_of_row _ _ 2 _ _ _ rt_7
            have f0_rt_7 := frozen_of_row _ _ 0 _ _ rt_7
            have f1_rt_7 := frozen_of_row _ _ 1 _ _ rt_7
            have f2_rt_7 := frozen_of_row _ _ 2 _ _ rt_7
            simp at r0_rt_7 r1_rt_7 r2_rt_7
            clear rt_7
            clear r0_rk_6 f0_rk_6 r1_rk_6 f1_rk_6 r2_rk_6 f2_rk_6 r3_rk_6 f3_rk_6 r4_rk_6 f4_rk_6 r5_rk_6 f5_rk_6 r6_rk_6 f6_rk_6 r7_rk_6 f7_rk_6 r8_rk_6 f8_rk_6 r9_rk_6 f9_rk_6
            clear r0_rm_6 f0_rm_6 r1_rm_6 f1_rm_6 r2_rm_6 f2_rm_6 r3_rm_6 f3_rm_6
            clear r0_rt_6 f0_rt_6 r1_rt_6 f1_rt_6 r2_rt_6 f2_rt_6
            go_wp2_with fail
            refine (Q4.out _ _ (Om1_7.out.below (by repeat (first | with_reducible exact Below.refl _ _ | with_reducible assumption | with_reducible refine Below.drew ?_ | with_reducible refine Below.alloc ?_ (by first | exact Nat.le_refl _ | omega | (simp; done) | (simp; omega)) _ | with_reducible refine Below.setCell ?_ (by first | exact Nat.le_refl _ | omega | (simp; done) | (simp; omega)) _ | (with_reducible refine ext_trans ?_ (by with_reducible assumption))))).rd).mono ?_
            rintro e w8 ⟨rfl, hb8⟩
            have hz8 := hb8.size
            (try simp at hz8)
            have rk_8 := (hb8.block _ (by first | omega | (simp; done) | (simp; omega))).trans ((Below.heap_alloc _ _ _ (by first | exact lRk_7 | (simp; omega))).trans Rk_7.out)
            have rm_8 := (hb8.block _ (by first | omega | (simp; done) | (simp; omega))).trans ((Below.heap_alloc _ _ _ (by first | exact lRm_7 | (simp; omega))).trans Rm_7.out)
            have rt_8 := (hb8.block _ (by first | omega | (simp; done) | (simp; omega))).trans ((Below.heap_alloc _ _ _ (by first | exact lRt_7 | (simp; omega))).trans Rt_7.out)
            have rr_8 : w8.heap[w7.heap.size]? = some (.cells #[.int .i64 R.ep, .bool R.now.u, .int .u64 (uI R.now.k), .int .u64 (uI R.now.l), .slice D1 R.now.rs.length d1, .bool R.bef.u, .int .u64 (uI R.bef.k), .int .u64 (uI R.bef.l), .slice D2 R.bef.rs.length d2, .bool R.two] 29 (0, 0)) := (hb8.block _ (by first | (simp; done) | (simp; omega))).trans (by repeat (first | exact heap_new _ _ _ (by first | rfl | (simp; done) | (simp; omega)) | refine (Below.heap_alloc _ _ _ (by first | omega | (simp; done) | (simp; omega))).trans ?_))
            have Ok1_8 := Lib.hid (Ok1_7.out.below (w' := w8) (by repeat (first | with_reducible exact Below.refl _ _ | with_reducible assumption | with_reducible refine Below.drew ?_ | with_reducible refine Below.alloc ?_ (by first | exact Nat.le_refl _ | omega | (simp; done) | (simp; omega)) _ | with_reducible refine Below.setCell ?_ (by first | exact Nat.le_refl _ | omega | (simp; done) | (simp; omega)) _ | (with_reducible refine ext_trans ?_ (by with_reducible assumption)))))
            have Ok2_8 := Lib.hid (Ok2_7.out.below (w' := w8) (by repeat (first | with_reducible exact Below.refl _ _ | with_reducible assumption | with_reducible refine Below.drew ?_ | with_reducible refine Below.alloc ?_ (by first | exact Nat.le_refl _ | omega | (simp; done) | (simp; omega)) _ | with_reducible refine Below.setCell ?_ (by first | exact Nat.le_refl _ | omega | (simp; done) | (simp; omega)) _ | (with_reducible refine ext_trans ?_ (by with_reducible assumption)))))
            have Om1_8 := Lib.hid (Om1_7.out.below (w' := w8) (by repeat (first | with_reducible exact Below.refl _ _ | with_reducible assumption | with_reducible refine Below.drew ?_ | with_reducible refine Below.alloc ?_ (by first | exact Nat.le_refl _ | omega | (simp; done) | (simp; omega)) _ | with_reducible refine Below.setCell ?_ (by first | exact Nat.le_refl _ | omega | (simp; done) | (simp; omega)) _ | (with_reducible refine ext_trans ?_ (by with_reducible assumption)))))
            have Or1_8 := Lib.hid (Or1_7.out.below (w' := w8) (by repeat (first | with_reducible exact Below.refl _ _ | with_reducible assumption | with_reducible refine Below.drew ?_ | with_reducible refine Below.alloc ?_ (by first | exact Nat.le_refl _ | omega | (simp; done) | (simp; omega)) _ | with_reducible refine Below.setCell ?_ (by first | exact Nat.le_refl _ | omega | (simp; done) | (simp; omega)) _ | (with_reducible refine ext_trans ?_ (by with_reducible assumption)))))
            have Or2_8 := Lib.hid (Or2_7.out.below (w' := w8) (by repeat (first | with_reducible exact Below.refl _ _ | with_reducible assumption | with_reducible refine Below.drew ?_ | with_reducible refine Below.alloc ?_ (by first | exact Nat.le_refl _ | omega | (simp; done) | (simp; omega)) _ | with_reducible refine Below.setCell ?_ (by first | exact Nat.le_refl _ | omega | (simp; done) | (simp; omega)) _ | (with_reducible refine ext_trans ?_ (by with_reducible assumption)))))
            have hw8 : Below w.heap.size w w8 := (by repeat (first | with_reducible exact Below.refl _ _ | with_reducible assumption | with_reducible refine Below.drew ?_ | with_reducible refine Below.alloc ?_ (by first | exact Nat.le_refl _ | omega | (simp; done) | (simp; omega)) _ | with_reducible refine Below.setCell ?_ (by first | exact Nat.le_refl _ | omega | (simp; done) | (simp; omega)) _ | (with_reducible refine ext_trans ?_ (by with_reducible assumption))))
            have lRk_8 : w1.heap.size < w8.heap.size := by omega
            have lRm_8 : w1.heap.size + 1 < w8.heap.size := by omega
            have lRt_8 : w2.heap.size < w8.heap.size := by omega
            have lRr_8 : w7.heap.size < w8.heap.size := by omega
            have Rk_8 := Lib.hid rk_8
            have r0_rk_8 := cell_of_row _ _ 0 _ _ _ rk_8
            have r1_rk_8 := cell_of_row _ _ 1 _ _ _ rk_8
            have r2_rk_8 := cell_of_row _ _ 2 _ _ _ rk_8
            have r3_rk_8 := cell_of_row _ _ 3 _ _ _ rk_8
            have r4_rk_8 := cell_of_row _ _ 4 _ _ _ rk_8
            have r5_rk_8 := cell_of_row _ _ 5 _ _ _ rk_8
            have r6_rk_8 := cell_of_row _ _ 6 _ _ _ rk_8
            have r7_rk_8 := cell_of_row _ _ 7 _ _ _ rk_8
            have r8_rk_8 := cell_of_row _ _ 8 _ _ _ rk_8
            have r9_rk_8 := cell_of_row _ _ 9 _ _ _ rk_8
            have f0_rk_8 := frozen_of_row _ _ 0 _ _ rk_8
            have f1_rk_8 := frozen_of_row _ _ 1 _ _ rk_8
            have f2_rk_8 := frozen_of_row _ _ 2 _ _ rk_8
            have f3_rk_8 := frozen_of_row _ _ 3 _ _ rk_8
            have f4_rk_8 := frozen_of_row _ _ 4 _ _ rk_8
            have f5_rk_8 := frozen_of_row _ _ 5 _ _ rk_8
            have f6_rk_8 := frozen_of_row _ _ 6 _ _ rk_8
            have f7_rk_8 := frozen_of_row _ _ 7 _ _ rk_8
            have f8_rk_8 := frozen_of_row _ _ 8 _ _ rk_8
            have f9_rk_8 := frozen_of_row _ _ 9 _ _ rk_8
            simp at r0_rk_8 r1_rk_8 r2_rk_8 r3_rk_8 r4_rk_8 r5_rk_8 r6_rk_8 r7_rk_8 r8_rk_8 r9_rk_8
            clear rk_8
            have Rm_8 := Lib.hid rm_8
            have r0_rm_8 := cell_of_row _ _ 0 _ _ _ rm_8
            have r1_rm_8 := cell_of_row _ _ 1 _ _ _ rm_8
            have r2_rm_8 := cell_of_row _ _ 2 _ _ _ rm_8
            have r3_rm_8 := cell_of_row _ _ 3 _ _ _ rm_8
            have f0_rm_8 := frozen_of_row _ _ 0 _ _ rm_8
            have f1_rm_8 := frozen_of_row _ _ 1 _ _ rm_8
            have f2_rm_8 := frozen_of_row _ _ 2 _ _ rm_8
            have f3_rm_8 := frozen_of_row _ _ 3 _ _ rm_8
            simp at r0_rm_8 r1_rm_8 r2_rm_8 r3_rm_8
            clear rm_8
            have Rt_8 := Lib.hid rt_8
            have r0_rt_8 := cell_of_row _ _ 0 _ _ _ rt_8
            have r1_rt_8 := cell_of_row _ _ 1 _ _ _ rt_8
            have r2_rt_8 := cell_of_row _ _ 2 _ _ _ rt_8
            have f0_rt_8 := frozen_of_row _ _ 0 _ _ rt_8
            have f1_rt_8 := frozen_of_row _ _ 1 _ _ rt_8
            have f2_rt_8 := frozen_of_row _ _ 2 _ _ rt_8
            simp at r0_rt_8 r1_rt_8 r2_rt_8
            clear rt_8
            have Rr_8 := Lib.hid rr_8
            have r0_rr_8 := cell_of_row _ _ 0 _ _ _ rr_8
            have r1_rr_8 := cell_of_row _ _ 1 _ _ _ rr_8
            have r2_rr_8 := cell_of_row _ _ 2 _ _ _ rr_8
            have r3_rr_8 := cell_of_row _ _ 3 _ _ _ rr_8
            have r4_rr_8 := cell_of_row _ _ 4 _ _ _ rr_8
            have r5_rr_8 := cell_of_row _ _ 5 _ _ _ rr_8
            have r6_rr_8 := cell_of_row _ _ 6 _ _ _ rr_8
            have r7_rr_8 := cell_of_row _ _ 7 _ _ _ rr_8
            have r8_rr_8 := cell_of_row _ _ 8 _ _ _ rr_8
            have r9_rr_8 := cell_of_row _ _ 9 _ _ _ rr_8
            have f0_rr_8 := frozen_of_row _ _ 0 _ _ rr_8
            have f1_rr_8 := frozen_of_row _ _ 1 _ _ rr_8
            have f2_rr_8 := frozen_of_row _ _ 2 _ _ rr_8
            have f3_rr_8 := frozen_of_row _ _ 3 _ _ rr_8
            have f4_rr_8 := frozen_of_row _ _ 4 _ _ rr_8
            have f5_rr_8 := frozen_of_row _ _ 5 _ _ rr_8
            have f6_rr_8 := frozen_of_row _ _ 6 _ _ rr_8
            have f7_rr_8 := frozen_of_row _ _ 7 _ _ rr_8
            have f8_rr_8 := frozen_of_row _ _ 8 _ _ rr_8
            have f9_rr_8 := frozen_of_row _ _ 9 _ _ rr_8
            simp at r0_rr_8 r1_rr_8 r2_rr_8 r3_rr_8 r4_rr_8 r5_rr_8 r6_rr_8 r7_rr_8 r8_rr_8 r9_rr_8
            clear rr_8
            clear r0_rk_7 f0_rk_7 r1_rk_7 f1_rk_7 r2_rk_7 f2_rk_7 r3_rk_7 f3_rk_7 r4_rk_7 f4_rk_7 r5_rk_7 f5_rk_7 r6_rk_7 f6_rk_7 r7_rk_7 f7_rk_7 r8_rk_7 f8_rk_7 r9_rk_7 f9_rk_7
            clear r0_rm_7 f0_rm_7 r1_rm_7 f1_rm_7 r2_rm_7 f2_rm_7 r3_rm_7 f3_rm_7
            clear r0_rt_7 f0_rt_7 r1_rt_7 f1_rt_7 r2_rt_7 f2_rt_7
            cases B4
            case false =>
              obtain rfl : x = R := (HR.out.symm.trans (rot_stay (by rw [HB4.out]; rfl))).symm
              have qs := fun W v1 v2 v3 v4 h1 h2 h3 h4 => sSameKeys_any x x v1 v2 v3 v4 N1.out N2.out N1.out N2.out W h1 h2 h3 h4
              rw [same_refl] at qs
              have QS := Lib.hid qs
              clear qs
              go_wp2_with fail
              refine (QS.out _ _ _ _ _ (Or1_8.out.below (by repeat (first | with_reducible exact Below.refl _ _ | with_reducible assumption | with_reducible refine Below.drew ?_ | with_reducible refine Below.alloc ?_ (by first | exact Nat.le_refl _ | omega | (simp; done) | (simp; omega)) _ | with_reducible refine Below.setCell ?_ (by first | exact Nat.le_refl _ | omega | (simp; done) | (simp; omega)) _ | (with_reducible refine ext_trans ?_ (by with_reducible assumption))))).rd (Or2_8.out.below (by repeat (first | with_reducible exact Below.refl _ _ | with_reducible assumption | with_reducible refine Below.drew ?_ | with_reducible refine Below.alloc ?_ (by first | exact Nat.le_refl _ | omega | (simp; done) | (simp; omega)) _ | with_reducible refine Below.setCell ?_ (by first | exact Nat.le_refl _ | omega | (simp; done) | (simp; omega)) _ | (with_reducible refine ext_trans ?_ (by with_reducible assumption))))).rd (Ok1_8.out.below (by repeat (first | with_reducible exact Below.refl _ _ | with_reducible assumption | with_reducible refine Below.drew ?_ | with_reducible refine Below.alloc ?_ (by first | exact Nat.le_refl _ | omega | (simp; done) | (simp; omega)) _ | with_reducible refine Below.setCell ?_ (by first | exact Nat.le_refl _ | omega | (simp; done) | (simp; omega)) _ | (with_reducible refine ext_trans ?_ (by with_reducible assumption))))).rd (Ok2_8.out.below (by repeat (first | with_reducible exact Below.refl _ _ | with_reducible assumption | with_reducible refine Below.drew ?_ | with_reducible refine Below.alloc ?_ (by first | exact Nat.le_refl _ | omega | (simp; done) | (simp; omega)) _ | with_reducible refine Below.setCell ?_ (by first | exact Nat.le_refl _ | omega | (simp; done) | (simp; omega)) _ | (with_reducible refine ext_trans ?_ (by with_reducible assumption))))).rd).mono ?_
              rintro e w9 ⟨rfl, hb9⟩
              have hz9 := hb9.size
              (try simp at hz9)
              have rk_9 := (hb9.block _ (by first | omega | (simp; done) | (simp; omega))).trans Rk_8.out
              have rm_9 := (hb9.block _ (by first | omega | (simp; done) | (simp; omega))).trans Rm_8.out
              have rt_9 := (hb9.block _ (by first | omega | (simp; done) | (simp; omega))).trans Rt_8.out
              have rr_9 := (hb9.block _ (by first | omega | (simp; done) | (simp; omega))).trans Rr_8.out
              have Ok1_9 := Lib.hid (Ok1_8.out.below (w' := w9) (by repeat (first | with_reducible exact Below.refl _ _ | with_reducible assumption | with_reducible refine Below.drew ?_ | with_reducible refine Below.alloc ?_ (by first | exact Nat.le_refl _ | omega | (simp; done) | (simp; omega)) _ | with_reducible refine Below.setCell ?_ (by first | exact Nat.le_refl _ | omega | (simp; done) | (simp; omega)) _ | (with_reducible refine ext_trans ?_ (by with_reducible assumption)))))
              have Ok2_9 := Lib.hid (Ok2_8.out.below (w' := w9) (by repeat (first | with_reducible exact Below.refl _ _ | with_reducible assumption | with_reducible refine Below.drew ?_ | with_reducible refine Below.alloc ?_ (by first | exact Nat.le_refl _ | omega | (simp; done) | (simp; omega)) _ | with_reducible refine Below.setCell ?_ (by first | exact Nat.le_refl _ | omega | (simp; done) | (simp; omega)) _ | (with_reducible refine ext_trans ?_ (by with_reducible assumption)))))
              have Om1_9 := Lib.hid (Om1_8.out.below (w' := w9) (by repeat (first | with_reducible exact Below.refl _ _ | with_reducible assumption | with_reducible refine Below.drew ?_ | with_reducible refine Below.alloc ?_ (by first | exact Nat.le_refl _ | omega | (simp; done) | (simp; omega)) _ | with_reducible refine Below.setCell ?_ (by first | exact Nat.le_refl _ | omega | (simp; done) | (simp; omega)) _ | (with_reducible refine ext_trans ?_ (by with_reducible assumption)))))
              have Or1_9 := Lib.hid (Or1_8.out.below (w' := w9) (by repeat (first | with_reducible exact Below.refl _ _ | with_reducible assumption | with_reducible refine Below.drew ?_ | with_reducible refine Below.alloc ?_ (by first | exact Nat.le_refl _ | omega | (simp; done) | (simp; omega)) _ | with_reducible refine Below.setCell ?_ (by first | exact Nat.le_refl _ | omega | (simp; done) | (simp; omega)) _ | (with_reducible refine ext_trans ?_ (by with_reducible assumption)))))
              have Or2_9 := Lib.hid (Or2_8.out.below (w' := w9) (by repeat (first | with_reducible exact Below.refl _ _ | with_reducible assumption | with_reducible refine Below.drew ?_ | with_reducible refine Below.alloc ?_ (by first | exact Nat.le_refl _ | omega | (simp; done) | (simp; omega)) _ | with_reducible refine Below.setCell ?_ (by first | exact Nat.le_refl _ | omega | (simp; done) | (simp; omega)) _ | (with_reducible refine ext_trans ?_ (by with_reducible assumption)))))
              have hw9 : Below w.heap.size w w9 := (by repeat (first | with_reducible exact Below.refl _ _ | with_reducible assumption | with_reducible refine Below.drew ?_ | with_reducible refine Below.alloc ?_ (by first | exact Nat.le_refl _ | omega | (simp; done) | (simp; omega)) _ | with_reducible refine Below.setCell ?_ (by first | exact Nat.le_refl _ | omega | (simp; done) | (simp; omega)) _ | (with_reducible refine ext_trans ?_ (by with_reducible assumption))))
              have lRk_9 : w1.heap.size < w9.heap.size := by omega
              have lRm_9 : w1.heap.size + 1 < w9.heap.size := by omega
              have lRt_9 : w2.heap.size < w9.heap.size := by omega
              have lRr_9 : w7.heap.size < w9.heap.size := by omega
              have Rk_9 := Lib.hid rk_9
              have r0_rk_9 := cell_of_row _ _ 0 _ _ _ rk_9
              have r1_rk_9 := cell_of_row _ _ 1 _ _ _ rk_9
              have r2_rk_9 := cell_of_row _ _ 2 _ _ _ rk_9
              have r3_rk_9 := cell_of_row _ _ 3 _ _ _ rk_9
              have r4_rk_9 := cell_of_row _ _ 4 _ _ _ rk_9
              have r5_rk_9 := cell_of_row _ _ 5 _ _ _ rk_9
              have r6_rk_9 := cell_of_row _ _ 6 _ _ _ rk_9
              have r7_rk_9 := cell_of_row _ _ 7 _ _ _ rk_9
              have r8_rk_9 := cell_of_row _ _ 8 _ _ _ rk_9
              have r9_rk_9 := cell_of_row _ _ 9 _ _ _ rk_9
              have f0_rk_9 := frozen_of_row _ _ 0 _ _ rk_9
              have f1_rk_9 := frozen_of_row _ _ 1 _ _ rk_9
              have f2_rk_9 := frozen_of_row _ _ 2 _ _ rk_9
              have f3_rk_9 := frozen_of_row _ _ 3 _ _ rk_9
              have f4_rk_9 := frozen_of_row _ _ 4 _ _ rk_9
              have f5_rk_9 := frozen_of_row _ _ 5 _ _ rk_9
              have f6_rk_9 := frozen_of_row _ _ 6 _ _ rk_9
              have f7_rk_9 := frozen_of_row _ _ 7 _ _ rk_9
              have f8_rk_9 := frozen_of_row _ _ 8 _ _ rk_9
              have f9_rk_9 := frozen_of_row _ _ 9 _ _ rk_9
              simp at r0_rk_9 r1_rk_9 r2_rk_9 r3_rk_9 r4_rk_9 r5_rk_9 r6_rk_9 r7_rk_9 r8_rk_9 r9_rk_9
              clear rk_9
              have Rm_9 := Lib.hid rm_9
              have r0_rm_9 := cell_of_row _ _ 0 _ _ _ rm_9
              have r1_rm_9 := cell_of_row _ _ 1 _ _ _ rm_9
              have r2_rm_9 := cell_of_row _ _ 2 _ _ _ rm_9
              have r3_rm_9 := cell_of_row _ _ 3 _ _ _ rm_9
              have f0_rm_9 := frozen_of_row _ _ 0 _ _ rm_9
              have f1_rm_9 := frozen_of_row _ _ 1 _ _ rm_9
              have f2_rm_9 := frozen_of_row _ _ 2 _ _ rm_9
              have f3_rm_9 := frozen_of_row _ _ 3 _ _ rm_9
              simp at r0_rm_9 r1_rm_9 r2_rm_9 r3_rm_9
              clear rm_9
              have Rt_9 := Lib.hid rt_9
              have r0_rt_9 := cell_of_row _ _ 0 _ _ _ rt_9
              have r1_rt_9 := cell_of_row _ _ 1 _ _ _ rt_9
              have r2_rt_9 := cell_of_row _ _ 2 _ _ _ rt_9
              have f0_rt_9 := frozen_of_row _ _ 0 _ _ rt_9
              have f1_rt_9 := frozen_of_row _ _ 1 _ _ rt_9
              have f2_rt_9 := frozen_of_row _ _ 2 _ _ rt_9
              simp at r0_rt_9 r1_rt_9 r2_rt_9
              clear rt_9
              have Rr_9 := Lib.hid rr_9
              have r0_rr_9 := cell_of_row _ _ 0 _ _ _ rr_9
              have r1_rr_9 := cell_of_row _ _ 1 _ _ _ rr_9
              have r2_rr_9 := cell_of_row _ _ 2 _ _ _ rr_9
              have r3_rr_9 := cell_of_row _ _ 3 _ _ _ rr_9
              have r4_rr_9 := cell_of_row _ _ 4 _ _ _ rr_9
              have r5_rr_9 := cell_of_row _ _ 5 _ _ _ rr_9
              have r6_rr_9 := cell_of_row _ _ 6 _ _ _ rr_9
              have r7_rr_9 := cell_of_row _ _ 7 _ _ _ rr_9
              have r8_rr_9 := cell_of_row _ _ 8 _ _ _ rr_9
              have r9_rr_9 := cell_of_row _ _ 9 _ _ _ rr_9
              have f0_rr_9 := frozen_of_row _ _ 0 _ _ rr_9
              have f1_rr_9 := frozen_of_row _ _ 1 _ _ rr_9
              have f2_rr_9 := frozen_of_row _ _ 2 _ _ rr_9
              have f3_rr_9 := frozen_of_row _ _ 3 _ _ rr_9
              have f4_rr_9 := frozen_of_row _ _ 4 _ _ rr_9
              have f5_rr_9 := frozen_of_row _ _ 5 _ _ rr_9
              have f6_rr_9 := frozen_of_row _ _ 6 _ _ rr_9
              have f7_rr_9 := frozen_of_row _ _ 7 _ _ rr_9
              have f8_rr_9 := frozen_of_row _ _ 8 _ _ rr_9
              have f9_rr_9 := frozen_of_row _ _ 9 _ _ rr_9
              simp at r0_rr_9 r1_rr_9 r2_rr_9 r3_rr_9 r4_rr_9 r5_rr_9 r6_rr_9 r7_rr_9 r8_rr_9 r9_rr_9
              clear rr_9
              clear r0_rk_8 f0_rk_8 r1_rk_8 f1_rk_8 r2_rk_8 f2_rk_8 r3_rk_8 f3_rk_8 r4_rk_8 f4_rk_8 r5_rk_8 f5_rk_8 r6_rk_8 f6_rk_8 r7_rk_8 f7_rk_8 r8_rk_8 f8_rk_8 r9_rk_8 f9_rk_8
              clear r0_rm_8 f0_rm_8 r1_rm_8 f1_rm_8 r2_rm_8 f2_rm_8 r3_rm_8 f3_rm_8
              clear r0_rt_8 f0_rt_8 r1_rt_8 f1_rt_8 r2_rt_8 f2_rt_8
              clear r0_rr_8 f0_rr_8 r1_rr_8 f1_rr_8 r2_rr_8 f2_rr_8 r3_rr_8 f3_rr_8 r4_rr_8 f4_rr_8 r5_rr_8 f5_rr_8 r6_rr_8 f6_rr_8 r7_rr_8 f7_rr_8 r8_rr_8 f8_rr_8 r9_rr_8 f9_rr_8
              go_wp2_with fail
              go_ret
              exact ⟨rfl, hw9⟩
            case true =>
              by_cases hmax : x.ep = 4294967295
              case pos =>
                have HMX := Lib.hid hmax
                have hmb : (x.ep == 4294967295) = true := by simp [hmax]
                clear hmax
                obtain rfl : x = R := (HR.out.symm.trans (rot_stay (by simp [HB4.out, HMX.out]))).symm
                have qs := fun W v1 v2 v3 v4 h1 h2 h3 h4 => sSameKeys_any x x v1 v2 v3 v4 N1.out N2.out N1.out N2.out W h1 h2 h3 h4
                rw [same_refl] at qs
                have QS := Lib.hid qs
                clear qs
                go_wp2_with fail
                refine (QS.out _ _ _ _ _ (Or1_8.out.below (by repeat (first | with_reducible exact Below.refl _ _ | with_reducible assumption | with_reducible refine Below.drew ?_ | with_reducible refine Below.alloc ?_ (by first | exact Nat.le_refl _ | omega | (simp; done) | (simp; omega)) _ | with_reducible refine Below.setCell ?_ (by first | exact Nat.le_refl _ | omega | (simp; done) | (simp; omega)) _ | (with_reducible refine ext_trans ?_ (by with_reducible assumption))))).rd (Or2_8.out.below (by repeat (first | with_reducible exact Below.refl _ _ | with_reducible assumption | with_reducible refine Below.drew ?_ | with_reducible refine Below.alloc ?_ (by first | exact Nat.le_refl _ | omega | (simp; done) | (simp; omega)) _ | with_reducible refine Below.setCell ?_ (by first | exact Nat.le_refl _ | omega | (simp; done) | (simp; omega)) _ | (with_reducible refine ext_trans ?_ (by with_reducible assumption))))).rd (Ok1_8.out.below (by repeat (first | with_reducible exact Below.refl _ _ | with_reducible assumption | with_reducible refine Below.drew ?_ | with_reducible refine Below.alloc ?_ (by first | exact Nat.le_refl _ | omega | (simp; done) | (simp; omega)) _ | with_reducible refine Below.setCell ?_ (by first | exact Nat.le_refl _ | omega | (simp; done) | (simp; omega)) _ | (with_reducible refine ext_trans ?_ (by with_reducible assumption))))).rd (Ok2_8.out.below (by repeat (first | with_reducible exact Below.refl _ _ | with_reducible assumption | with_reducible refine Below.drew ?_ | with_reducible refine Below.alloc ?_ (by first | exact Nat.le_refl _ | omega | (simp; done) | (simp; omega)) _ | with_reducible refine Below.setCell ?_ (by first | exact Nat.le_refl _ | omega | (simp; done) | (simp; omega)) _ | (with_reducible refine ext_trans ?_ (by with_reducible assumption))))).rd).mono ?_
                rintro e w9 ⟨rfl, hb9⟩
                have hz9 := hb9.size
                (try simp at hz9)
                have rk_9 := (hb9.block _ (by first | omega | (simp; done) | (simp; omega))).trans Rk_8.out
                have rm_9 := (hb9.block _ (by first | omega | (simp; done) | (simp; omega))).trans Rm_8.out
                have rt_9 := (hb9.block _ (by first | omega | (simp; done) | (simp; omega))).trans Rt_8.out
                have rr_9 := (hb9.block _ (by first | omega | (simp; done) | (simp; omega))).trans Rr_8.out
                have Ok1_9 := Lib.hid (Ok1_8.out.below (w' := w9) (by repeat (first | with_reducible exact Below.refl _ _ | with_reducible assumption | with_reducible refine Below.drew ?_ | with_reducible refine Below.alloc ?_ (by first | exact Nat.le_refl _ | omega | (simp; done) | (simp; omega)) _ | with_reducible refine Below.setCell ?_ (by first | exact Nat.le_refl _ | omega | (simp; done) | (simp; omega)) _ | (with_reducible refine ext_trans ?_ (by with_reducible assumption)))))
                have Ok2_9 := Lib.hid (Ok2_8.out.below (w' := w9) (by repeat (first | with_reducible exact Below.refl _ _ | with_reducible assumption | with_reducible refine Below.drew ?_ | with_reducible refine Below.alloc ?_ (by first | exact Nat.le_refl _ | omega | (simp; done) | (simp; omega)) _ | with_reducible refine Below.setCell ?_ (by first | exact Nat.le_refl _ | omega | (simp; done) | (simp; omega)) _ | (with_reducible refine ext_trans ?_ (by with_reducible assumption)))))
                have Om1_9 := Lib.hid (Om1_8.out.below (w' := w9) (by repeat (first | with_reducible exact Below.refl _ _ | with_reducible assumption | with_reducible refine Below.drew ?_ | with_reducible refine Below.alloc ?_ (by first | exact Nat.le_refl _ | omega | (simp; done) | (simp; omega)) _ | with_reducible refine Below.setCell ?_ (by first | exact Nat.le_refl _ | omega | (simp; done) | (simp; omega)) _ | (with_reducible refine ext_trans ?_ (by with_reducible assumption)))))
                have Or1_9 := Lib.hid (Or1_8.out.below (w' := w9) (by repeat (first | with_reducible exact Below.refl _ _ | with_reducible assumption | with_reducible refine Below.drew ?_ | with_reducible refine Below.alloc ?_ (by first | exact Nat.le_refl _ | omega | (simp; done) | (simp; omega)) _ | with_reducible refine Below.setCell ?_ (by first | exact Nat.le_refl _ | omega | (simp; done) | (simp; omega)) _ | (with_reducible refine ext_trans ?_ (by with_reducible assumption)))))
                have Or2_9 := Lib.hid (Or2_8.out.below (w' := w9) (by repeat (first | with_reducible exact Below.refl _ _ | with_reducible assumption | with_reducible refine Below.drew ?_ | with_reducible refine Below.alloc ?_ (by first | exact Nat.le_refl _ | omega | (simp; done) | (simp; omega)) _ | with_reducible refine Below.setCell ?_ (by first | exact Nat.le_refl _ | omega | (simp; done) | (simp; omega)) _ | (with_reducible refine ext_trans ?_ (by with_reducible assumption)))))
                have hw9 : Below w.heap.size w w9 := (by repeat (first | with_reducible exact Below.refl _ _ | with_reducible assumption | with_reducible refine Below.drew ?_ | with_reducible refine Below.alloc ?_ (by first | exact Nat.le_refl _ | omega | (simp; done) | (simp; omega)) _ | with_reducible refine Below.setCell ?_ (by first | exact Nat.le_refl _ | omega | (simp; done) | (simp; omega)) _ | (with_reducible refine ext_trans ?_ (by with_reducible assumption))))
                have lRk_9 : w1.heap.size < w9.heap.size := by omega
                have lRm_9 : w1.heap.size + 1 < w9.heap.size := by omega
                have lRt_9 : w2.heap.size < w9.heap.size := by omega
                have lRr_9 : w7.heap.size < w9.heap.size := by omega
                have Rk_9 := Lib.hid rk_9
                have r0_rk_9 := cell_of_row _ _ 0 _ _ _ rk_9
                have r1_rk_9 := cell_of_row _ _ 1 _ _ _ rk_9
                have r2_rk_9 := cell_of_row _ _ 2 _ _ _ rk_9
                have r3_rk_9 := cell_of_row _ _ 3 _ _ _ rk_9
                have r4_rk_9 := cell_of_row _ _ 4 _ _ _ rk_9
                have r5_rk_9 := cell_of_row _ _ 5 _ _ _ rk_9
                have r6_rk_9 := cell_of_row _ _ 6 _ _ _ rk_9
                have r7_rk_9 := cell_of_row _ _ 7 _ _ _ rk_9
                have r8_rk_9 := cell_of_row _ _ 8 _ _ _ rk_9
                have r9_rk_9 := cell_of_row _ _ 9 _ _ _ rk_9
                have f0_rk_9 := frozen_of_row _ _ 0 _ _ rk_9
                have f1_rk_9 := frozen_of_row _ _ 1 _ _ rk_9
                have f2_rk_9 := frozen_of_row _ _ 2 _ _ rk_9
                have f3_rk_9 := frozen_of_row _ _ 3 _ _ rk_9
                have f4_rk_9 := frozen_of_row _ _ 4 _ _ rk_9
                have f5_rk_9 := frozen_of_row _ _ 5 _ _ rk_9
                have f6_rk_9 := frozen_of_row _ _ 6 _ _ rk_9
                have f7_rk_9 := frozen_of_row _ _ 7 _ _ rk_9
                have f8_rk_9 := frozen_of_row _ _ 8 _ _ rk_9
                have f9_rk_9 := frozen_of_row _ _ 9 _ _ rk_9
                simp at r0_rk_9 r1_rk_9 r2_rk_9 r3_rk_9 r4_rk_9 r5_rk_9 r6_rk_9 r7_rk_9 r8_rk_9 r9_rk_9
                clear rk_9
                have Rm_9 := Lib.hid rm_9
                have r0_rm_9 := cell_of_row _ _ 0 _ _ _ rm_9
                have r1_rm_9 := cell_of_row _ _ 1 _ _ _ rm_9
                have r2_rm_9 := cell_of_row _ _ 2 _ _ _ rm_9
                have r3_rm_9 := cell_of_row _ _ 3 _ _ _ rm_9
                have f0_rm_9 := frozen_of_row _ _ 0 _ _ rm_9
                have f1_rm_9 := frozen_of_row _ _ 1 _ _ rm_9
                have f2_rm_9 := frozen_of_row _ _ 2 _ _ rm_9
                have f3_rm_9 := frozen_of_row _ _ 3 _ _ rm_9
                simp at r0_rm_9 r1_rm_9 r2_rm_9 r3_rm_9
                clear rm_9
                have Rt_9 := Lib.hid rt_9
                have r0_rt_9 := cell_of_row _ _ 0 _ _ _ rt_9
                have r1_rt_9 := cell_of_row _ _ 1 _ _ _ rt_9
                have r2_rt_9 := cell_of_row _ _ 2 _ _ _ rt_9
                have f0_rt_9 := frozen_of_row _ _ 0 _ _ rt_9
                have f1_rt_9 := frozen_of_row _ _ 1 _ _ rt_9
                have f2_rt_9 := frozen_of_row _ _ 2 _ _ rt_9
                simp at r0_rt_9 r1_rt_9 r2_rt_9
                clear rt_9
                have Rr_9 := Lib.hid rr_9
                have r0_rr_9 := cell_of_row _ _ 0 _ _ _ rr_9
                have r1_rr_9 := cell_of_row _ _ 1 _ _ _ rr_9
                have r2_rr_9 := cell_of_row _ _ 2 _ _ _ rr_9
                have r3_rr_9 := cell_of_row _ _ 3 _ _ _ rr_9
                have r4_rr_9 := cell_of_row _ _ 4 _ _ _ rr_9
                have r5_rr_9 := cell_of_row _ _ 5 _ _ _ rr_9
                have r6_rr_9 := cell_of_row _ _ 6 _ _ _ rr_9
                have r7_rr_9 := cell_of_row _ _ 7 _ _ _ rr_9
                have r8_rr_9 := cell_of_row _ _ 8 _ _ _ rr_9
                have r9_rr_9 := cell_of_row _ _ 9 _ _ _ rr_9
                have f0_rr_9 := frozen_of_row _ _ 0 _ _ rr_9
                have f1_rr_9 := frozen_of_row _ _ 1 _ _ rr_9
                have f2_rr_9 := frozen_of_row _ _ 2 _ _ rr_9
                have f3_rr_9 := frozen_of_row _ _ 3 _ _ rr_9
                have f4_rr_9 := frozen_of_row _ _ 4 _ _ rr_9
                have f5_rr_9 := frozen_of_row _ _ 5 _ _ rr_9
                have f6_rr_9 := frozen_of_row _ _ 6 _ _ rr_9
                have f7_rr_9 := frozen_of_row _ _ 7 _ _ rr_9
                have f8_rr_9 := frozen_of_row _ _ 8 _ _ rr_9
                have f9_rr_9 := frozen_of_row _ _ 9 _ _ rr_9
                simp at r0_rr_9 r1_rr_9 r2_rr_9 r3_rr_9 r4_rr_9 r5_rr_9 r6_rr_9 r7_rr_9 r8_rr_9 r9_rr_9
                clear rr_9
                clear r0_rk_8 f0_rk_8 r1_rk_8 f1_rk_8 r2_rk_8 f2_rk_8 r3_rk_8 f3_rk_8 r4_rk_8 f4_rk_8 r5_rk_8 f5_rk_8 r6_rk_8 f6_rk_8 r7_rk_8 f7_rk_8 r8_rk_8 f8_rk_8 r9_rk_8 f9_rk_8
                clear r0_rm_8 f0_rm_8 r1_rm_8 f1_rm_8 r2_rm_8 f2_rm_8 r3_rm_8 f3_rm_8
                clear r0_rt_8 f0_rt_8 r1_rt_8 f1_rt_8 r2_rt_8 f2_rt_8
                clear r0_rr_8 f0_rr_8 r1_rr_8 f1_rr_8 r2_rr_8 f2_rr_8 r3_rr_8 f3_rr_8 r4_rr_8 f4_rr_8 r5_rr_8 f5_rr_8 r6_rr_8 f6_rr_8 r7_rr_8 f7_rr_8 r8_rr_8 f8_rr_8 r9_rr_8 f9_rr_8
                go_wp2_with fail
                go_ret
                exact ⟨rfl, hw9⟩
              case neg =>
                have hmb : (x.ep == 4294967295) = false := by simp [hmax]
                have HMX := Lib.hid hmax
                clear hmax
                obtain rfl : R = ⟨x.ep + 1, m, x.now, true⟩ := HR.out.symm.trans (rot_next HB1.out HB4.out HMX.out)
                have q5 := fun W v1 v2 h1 h2 => CheckCookie_any (⟨x.ep + 1, m, x.now, true⟩ : RKeys) v1 v2 a b c seq CK G3.out G1.out P3.out P1.out W h1 h2
                rw [← HCK.out, check_next HB1.out HB4.out HMX.out HM.out, HCK.out] at q5
                dsimp only [vCk] at q5
                have Q5 := Lib.hid q5
                have q6 := fun W v1 v2 h1 h2 => sKeysOk_any (⟨x.ep + 1, m, x.now, true⟩ : RKeys) v1 v2 G3.out G1.out W h1 h2
                rw [next_ok HB1.out HB4.out HMX.out] at q6
                have Q6 := Lib.hid q6
                have hwr : IntKind.i64.wrap (x.ep + 1) = x.ep + 1 := IntWalk.i64_in _ ⟨by omega, by omega⟩
                clear q5 q6
                go_wp2_with fail
                refine (Q5.out _ _ _ (Or1_8.out.below (by repeat (first | with_reducible exact Below.refl _ _ | with_reducible assumption | with_reducible refine Below.drew ?_ | with_reducible refine Below.alloc ?_ (by first | exact Nat.le_refl _ | omega | (simp; done) | (simp; omega)) _ | with_reducible refine Below.setCell ?_ (by first | exact Nat.le_refl _ | omega | (simp; done) | (simp; omega)) _ | (with_reducible refine ext_trans ?_ (by with_reducible assumption))))).rd (Or2_8.out.below (by repeat (first | with_reducible exact Below.refl _ _ | with_reducible assumption | with_reducible refine Below.drew ?_ | with_reducible refine Below.alloc ?_ (by first | exact Nat.le_refl _ | omega | (simp; done) | (simp; omega)) _ | with_reducible refine Below.setCell ?_ (by first | exact Nat.le_refl _ | omega | (simp; done) | (simp; omega)) _ | (with_reducible refine ext_trans ?_ (by with_reducible assumption))))).rd).mono ?_
                rintro e w9 ⟨rfl, hb9⟩
                have hz9 := hb9.size
                (try simp at hz9)
                have rk_9 := (hb9.block _ (by first | omega | (simp; done) | (simp; omega))).trans Rk_8.out
                have rm_9 := (hb9.block _ (by first | omega | (simp; done) | (simp; omega))).trans Rm_8.out
                have rt_9 := (hb9.block _ (by first | omega | (simp; done) | (simp; omega))).trans Rt_8.out
                have rr_9 := (hb9.block _ (by first | omega | (simp; done) | (simp; omega))).trans Rr_8.out
                have Ok1_9 := Lib.hid (Ok1_8.out.below (w' := w9) (by repeat (first | with_reducible exact Below.refl _ _ | with_reducible assumption | with_reducible refine Below.drew ?_ | with_reducible refine Below.alloc ?_ (by first | exact Nat.le_refl _ | omega | (simp; done) | (simp; omega)) _ | with_reducible refine Below.setCell ?_ (by first | exact Nat.le_refl _ | omega | (simp; done) | (simp; omega)) _ | (with_reducible refine ext_trans ?_ (by with_reducible assumption)))))
                have Ok2_9 := Lib.hid (Ok2_8.out.below (w' := w9) (by repeat (first | with_reducible exact Below.refl _ _ | with_reducible assumption | with_reducible refine Below.drew ?_ | with_reducible refine Below.alloc ?_ (by first | exact Nat.le_refl _ | omega | (simp; done) | (simp; omega)) _ | with_reducible refine Below.setCell ?_ (by first | exact Nat.le_refl _ | omega | (simp; done) | (simp; omega)) _ | (with_reducible refine ext_trans ?_ (by with_reducible assumption)))))
                have Om1_9 := Lib.hid (Om1_8.out.below (w' := w9) (by repeat (first | with_reducible exact Below.refl _ _ | with_reducible assumption | with_reducible refine Below.drew ?_ | with_reducible refine Below.alloc ?_ (by first | exact Nat.le_refl _ | omega | (simp; done) | (simp; omega)) _ | with_reducible refine Below.setCell ?_ (by first | exact Nat.le_refl _ | omega | (simp; done) | (simp; omega)) _ | (with_reducible refine ext_trans ?_ (by with_reducible assumption)))))
                have Or1_9 := Lib.hid (Or1_8.out.below (w' := w9) (by repeat (first | with_reducible exact Below.refl _ _ | with_reducible assumption | with_reducible refine Below.drew ?_ | with_reducible refine Below.alloc ?_ (by first | exact Nat.le_refl _ | omega | (simp; done) | (simp; omega)) _ | with_reducible refine Below.setCell ?_ (by first | exact Nat.le_refl _ | omega | (simp; done) | (simp; omega)) _ | (with_reducible refine ext_trans ?_ (by with_reducible assumption)))))
                have Or2_9 := Lib.hid (Or2_8.out.below (w' := w9) (by repeat (first | with_reducible exact Below.refl _ _ | with_reducible assumption | with_reducible refine Below.drew ?_ | with_reducible refine Below.alloc ?_ (by first | exact Nat.le_refl _ | omega | (simp; done) | (simp; omega)) _ | with_reducible refine Below.setCell ?_ (by first | exact Nat.le_refl _ | omega | (simp; done) | (simp; omega)) _ | (with_reducible refine ext_trans ?_ (by with_reducible assumption)))))
                have hw9 : Below w.heap.size w w9 := (by repeat (first | with_reducible exact Below.refl _ _ | with_reducible assumption | with_reducible refine Below.drew ?_ | with_reducible refine Below.alloc ?_ (by first | exact Nat.le_refl _ | omega | (simp; done) | (simp; omega)) _ | with_reducible refine Below.setCell ?_ (by first | exact Nat.le_refl _ | omega | (simp; done) | (simp; omega)) _ | (with_reducible refine ext_trans ?_ (by with_reducible assumption))))
                have lRk_9 : w1.heap.size < w9.heap.size := by omega
                have lRm_9 : w1.heap.size + 1 < w9.heap.size := by omega
                have lRt_9 : w2.heap.size < w9.heap.size := by omega
                have lRr_9 : w7.heap.size < w9.heap.size := by omega
                have Rk_9 := Lib.hid rk_9
                have r0_rk_9 := cell_of_row _ _ 0 _ _ _ rk_9
                have r1_rk_9 := cell_of_row _ _ 1 _ _ _ rk_9
                have r2_rk_9 := cell_of_row _ _ 2 _ _ _ rk_9
                have r3_rk_9 := cell_of_row _ _ 3 _ _ _ rk_9
                have r4_rk_9 := cell_of_row _ _ 4 _ _ _ rk_9
                have r5_rk_9 := cell_of_row _ _ 5 _ _ _ rk_9
                have r6_rk_9 := cell_of_row _ _ 6 _ _ _ rk_9
                have r7_rk_9 := cell_of_row _ _ 7 _ _ _ rk_9
                have r8_rk_9 := cell_of_row _ _ 8 _ _ _ rk_9
                have r9_rk_9 := cell_of_row _ _ 9 _ _ _ rk_9
                have f0_rk_9 := frozen_of_row _ _ 0 _ _ rk_9
                have f1_rk_9 := frozen_of_row _ _ 1 _ _ rk_9
                have f2_rk_9 := frozen_of_row _ _ 2 _ _ rk_9
                have f3_rk_9 := frozen_of_row _ _ 3 _ _ rk_9
                have f4_rk_9 := frozen_of_row _ _ 4 _ _ rk_9
                have f5_rk_9 := frozen_of_row _ _ 5 _ _ rk_9
                have f6_rk_9 := frozen_of_row _ _ 6 _ _ rk_9
                have f7_rk_9 := frozen_of_row _ _ 7 _ _ rk_9
                have f8_rk_9 := frozen_of_row _ _ 8 _ _ rk_9
                have f9_rk_9 := frozen_of_row _ _ 9 _ _ rk_9
                simp at r0_rk_9 r1_rk_9 r2_rk_9 r3_rk_9 r4_rk_9 r5_rk_9 r6_rk_9 r7_rk_9 r8_rk_9 r9_rk_9
                clear rk_9
                have Rm_9 := Lib.hid rm_9
                have r0_rm_9 := cell_of_row _ _ 0 _ _ _ rm_9
                have r1_rm_9 := cell_of_row _ _ 1 _ _ _ rm_9
                have r2_rm_9 := cell_of_row _ _ 2 _ _ _ rm_9
                have r3_rm_9 := cell_of_row _ _ 3 _ _ _ rm_9
                have f0_rm_9 := frozen_of_row _ _ 0 _ _ rm_9
                have f1_rm_9 := frozen_of_row _ _ 1 _ _ rm_9
                have f2_rm_9 := frozen_of_row _ _ 2 _ _ rm_9
                have f3_rm_9 := frozen_of_row _ _ 3 _ _ rm_9
                simp at r0_rm_9 r1_rm_9 r2_rm_9 r3_rm_9
                clear rm_9
                have Rt_9 := Lib.hid rt_9
                have r0_rt_9 := cell_of_row _ _ 0 _ _ _ rt_9
                have r1_rt_9 := cell_of_row _ _ 1 _ _ _ rt_9
                have r2_rt_9 := cell_of_row _ _ 2 _ _ _ rt_9
                have f0_rt_9 := frozen_of_row _ _ 0 _ _ rt_9
                have f1_rt_9 := frozen_of_row _ _ 1 _ _ rt_9
                have f2_rt_9 := frozen_of_row _ _ 2 _ _ rt_9
                simp at r0_rt_9 r1_rt_9 r2_rt_9
                clear rt_9
                have Rr_9 := Lib.hid rr_9
                have r0_rr_9 := cell_of_row _ _ 0 _ _ _ rr_9
                have r1_rr_9 := cell_of_row _ _ 1 _ _ _ rr_9
                have r2_rr_9 := cell_of_row _ _ 2 _ _ _ rr_9
                have r3_rr_9 := cell_of_row _ _ 3 _ _ _ rr_9
                have r4_rr_9 := cell_of_row _ _ 4 _ _ _ rr_9
                have r5_rr_9 := cell_of_row _ _ 5 _ _ _ rr_9
                have r6_rr_9 := cell_of_row _ _ 6 _ _ _ rr_9
                have r7_rr_9 := cell_of_row _ _ 7 _ _ _ rr_9
                have r8_rr_9 := cell_of_row _ _ 8 _ _ _ rr_9
                have r9_rr_9 := cell_of_row _ _ 9 _ _ _ rr_9
                have f0_rr_9 := frozen_of_row _ _ 0 _ _ rr_9
                have f1_rr_9 := frozen_of_row _ _ 1 _ _ rr_9
                have f2_rr_9 := frozen_of_row _ _ 2 _ _ rr_9
                have f3_rr_9 := frozen_of_row _ _ 3 _ _ rr_9
                have f4_rr_9 := frozen_of_row _ _ 4 _ _ rr_9
                have f5_rr_9 := frozen_of_row _ _ 5 _ _ rr_9
                have f6_rr_9 := frozen_of_row _ _ 6 _ _ rr_9
                have f7_rr_9 := frozen_of_row _ _ 7 _ _ rr_9
                have f8_rr_9 := frozen_of_row _ _ 8 _ _ rr_9
                have f9_rr_9 := frozen_of_row _ _ 9 _ _ rr_9
                simp at r0_rr_9 r1_rr_9 r2_rr_9 r3_rr_9 r4_rr_9 r5_rr_9 r6_rr_9 r7_rr_9 r8_rr_9 r9_rr_9
                clear rr_9
                clear r0_rk_8 f0_rk_8 r1_rk_8 f1_rk_8 r2_rk_8 f2_rk_8 r3_rk_8 f3_rk_8 r4_rk_8 f4_rk_8 r5_rk_8 f5_rk_8 r6_rk_8 f6_rk_8 r7_rk_8 f7_rk_8 r8_rk_8 f8_rk_8 r9_rk_8 f9_rk_8
                clear r0_rm_8 f0_rm_8 r1_rm_8 f1_rm_8 r2_rm_8 f2_rm_8 r3_rm_8 f3_rm_8
                clear r0_rt_8 f0_rt_8 r1_rt_8 f1_rt_8 r2_rt_8 f2_rt_8
                clear r0_rr_8 f0_rr_8 r1_rr_8 f1_rr_8 r2_rr_8 f2_rr_8 r3_rr_8 f3_rr_8 r4_rr_8 f4_rr_8 r5_rr_8 f5_rr_8 r6_rr_8 f6_rr_8 r7_rr_8 f7_rr_8 r8_rr_8 f8_rr_8 r9_rr_8 f9_rr_8
                go_wp2_with fail
                refine (Q6.out _ _ _ (Or1_9.out.below (by repeat (first | with_reducible exact Below.refl _ _ | with_reducible assumption | with_reducible refine Below.drew ?_ | with_reducible refine Below.alloc ?_ (by first | exact Nat.le_refl _ | omega | (simp; done) | (simp; omega)) _ | with_reducible refine Below.setCell ?_ (by first | exact Nat.le_refl _ | omega | (simp; done) | (simp; omega)) _ | (with_reducible refine ext_trans ?_ (by with_reducible assumption))))).rd (Or2_9.out.below (by repeat (first | with_reducible exact Below.refl _ _ | with_reducible assumption | with_reducible refine Below.drew ?_ | with_reducible refine Below.alloc ?_ (by first | exact Nat.le_refl _ | omega | (simp; done) | (simp; omega)) _ | with_reducible refine Below.setCell ?_ (by first | exact Nat.le_refl _ | omega | (simp; done) | (simp; omega)) _ | (with_reducible refine ext_trans ?_ (by with_reducible assumption))))).rd).mono ?_
                rintro e w10 ⟨rfl, hb10⟩
                have hz10 := hb10.size
                (try simp at hz10)
                have rk_10 := (hb10.block _ (by first | omega | (simp; done) | (simp; omega))).trans Rk_9.out
                have rm_10 := (hb10.block _ (by first | omega | (simp; done) | (simp; omega))).trans Rm_9.out
                have rt_10 := (hb10.block _ (by first | omega | (simp; done) | (simp; omega))).trans Rt_9.out
                have rr_10 := (hb10.block _ (by first | omega | (simp; done) | (simp; omega))).trans Rr_9.out
                have Ok1_10 := Lib.hid (Ok1_9.out.below (w' := w10) (by repeat (first | with_reducible exact Below.refl _ _ | with_reducible assumption | with_reducible refine Below.drew ?_ | with_reducible refine Below.alloc ?_ (by first | exact Nat.le_refl _ | omega | (simp; done) | (simp; omega)) _ | with_reducible refine Below.setCell ?_ (by first | exact Nat.le_refl _ | omega | (simp; done) | (simp; omega)) _ | (with_reducible refine ext_trans ?_ (by with_reducible assumption)))))
                have Ok2_10 := Lib.hid (Ok2_9.out.below (w' := w10) (by repeat (first | with_reducible exact Below.refl _ _ | with_reducible assumption | with_reducible refine Below.drew ?_ | with_reducible refine Below.alloc ?_ (by first | exact Nat.le_refl _ | omega | (simp; done) | (simp; omega)) _ | with_reducible refine Below.setCell ?_ (by first | exact Nat.le_refl _ | omega | (simp; done) | (simp; omega)) _ | (with_reducible refine ext_trans ?_ (by with_reducible assumption)))))
                have Om1_10 := Lib.hid (Om1_9.out.below (w' := w10) (by repeat (first | with_reducible exact Below.refl _ _ | with_reducible assumption | with_reducible refine Below.drew ?_ | with_reducible refine Below.alloc ?_ (by first | exact Nat.le_refl _ | omega | (simp; done) | (simp; omega)) _ | with_reducible refine Below.setCell ?_ (by first | exact Nat.le_refl _ | omega | (simp; done) | (simp; omega)) _ | (with_reducible refine ext_trans ?_ (by with_reducible assumption)))))
                have Or1_10 := Lib.hid (Or1_9.out.below (w' := w10) (by repeat (first | with_reducible exact Below.refl _ _ | with_reducible assumption | with_reducible refine Below.drew ?_ | with_reducible refine Below.alloc ?_ (by first | exact Nat.le_refl _ | omega | (simp; done) | (simp; omega)) _ | with_reducible refine Below.setCell ?_ (by first | exact Nat.le_refl _ | omega | (simp; done) | (simp; omega)) _ | (with_reducible refine ext_trans ?_ (by with_reducible assumption)))))
                have Or2_10 := Lib.hid (Or2_9.out.below (w' := w10) (by repeat (first | with_reducible exact Below.refl _ _ | with_reducible assumption | with_reducible refine Below.drew ?_ | with_reducible refine Below.alloc ?_ (by first | exact Nat.le_refl _ | omega | (simp; done) | (simp; omega)) _ | with_reducible refine Below.setCell ?_ (by first | exact Nat.le_refl _ | omega | (simp; done) | (simp; omega)) _ | (with_reducible refine ext_trans ?_ (by with_reducible assumption)))))
                have hw10 : Below w.heap.size w w10 := (by repeat (first | with_reducible exact Below.refl _ _ | with_reducible assumption | with_reducible refine Below.drew ?_ | with_reducible refine Below.alloc ?_ (by first | exact Nat.le_refl _ | omega | (simp; done) | (simp; omega)) _ | with_reducible refine Below.setCell ?_ (by first | exact Nat.le_refl _ | omega | (simp; done) | (simp; omega)) _ | (with_reducible refine ext_trans ?_ (by with_reducible assumption))))
                have lRk_10 : w1.heap.size < w10.heap.size := by omega
                have lRm_10 : w1.heap.size + 1 < w10.heap.size := by omega
                have lRt_10 : w2.heap.size < w10.heap.size := by omega
                have lRr_10 : w7.heap.size < w10.heap.size := by omega
                have Rk_10 := Lib.hid rk_10
                have r0_rk_10 := cell_of_row _ _ 0 _ _ _ rk_10
                have r1_rk_10 := cell_of_row _ _ 1 _ _ _ rk_10
                have r2_rk_10 := cell_of_row _ _ 2 _ _ _ rk_10
                have r3_rk_10 := cell_of_row _ _ 3 _ _ _ rk_10
                have r4_rk_10 := cell_of_row _ _ 4 _ _ _ rk_10
                have r5_rk_10 := cell_of_row _ _ 5 _ _ _ rk_10
                have r6_rk_10 := cell_of_row _ _ 6 _ _ _ rk_10
                have r7_rk_10 := cell_of_row _ _ 7 _ _ _ rk_10
                have r8_rk_10 := cell_of_row _ _ 8 _ _ _ rk_10
                have r9_rk_10 := cell_of_row _ _ 9 _ _ _ rk_10
                have f0_rk_10 := frozen_of_row _ _ 0 _ _ rk_10
                have f1_rk_10 := frozen_of_row _ _ 1 _ _ rk_10
                have f2_rk_10 := frozen_of_row _ _ 2 _ _ rk_10
                have f3_rk_10 := frozen_of_row _ _ 3 _ _ rk_10
                have f4_rk_10 := frozen_of_row _ _ 4 _ _ rk_10
                have f5_rk_10 := frozen_of_row _ _ 5 _ _ rk_10
                have f6_rk_10 := frozen_of_row _ _ 6 _ _ rk_10
                have f7_rk_10 := frozen_of_row _ _ 7 _ _ rk_10
                have f8_rk_10 := frozen_of_row _ _ 8 _ _ rk_10
                have f9_rk_10 := frozen_of_row _ _ 9 _ _ rk_10
                simp at r0_rk_10 r1_rk_10 r2_rk_10 r3_rk_10 r4_rk_10 r5_rk_10 r6_rk_10 r7_rk_10 r8_rk_10 r9_rk_10
                clear rk_10
                have Rm_10 := Lib.hid rm_10
                have r0_rm_10 := cell_of_row _ _ 0 _ _ _ rm_10
                have r1_rm_10 := cell_of_row _ _ 1 _ _ _ rm_10
                have r2_rm_10 := cell_of_row _ _ 2 _ _ _ rm_10
                have r3_rm_10 := cell_of_row _ _ 3 _ _ _ rm_10
                have f0_rm_10 := frozen_of_row _ _ 0 _ _ rm_10
                have f1_rm_10 := frozen_of_row _ _ 1 _ _ rm_10
                have f2_rm_10 := frozen_of_row _ _ 2 _ _ rm_10
                have f3_rm_10 := frozen_of_row _ _ 3 _ _ rm_10
                simp at r0_rm_10 r1_rm_10 r2_rm_10 r3_rm_10
                clear rm_10
                have Rt_10 := Lib.hid rt_10
                have r0_rt_10 := cell_of_row _ _ 0 _ _ _ rt_10
                have r1_rt_10 := cell_of_row _ _ 1 _ _ _ rt_10
                have r2_rt_10 := cell_of_row _ _ 2 _ _ _ rt_10
                have f0_rt_10 := frozen_of_row _ _ 0 _ _ rt_10
                have f1_rt_10 := frozen_of_row _ _ 1 _ _ rt_10
                have f2_rt_10 := frozen_of_row _ _ 2 _ _ rt_10
                simp at r0_rt_10 r1_rt_10 r2_rt_10
                clear rt_10
                have Rr_10 := Lib.hid rr_10
                have r0_rr_10 := cell_of_row _ _ 0 _ _ _ rr_10
                have r1_rr_10 := cell_of_row _ _ 1 _ _ _ rr_10
                have r2_rr_10 := cell_of_row _ _ 2 _ _ _ rr_10
                have r3_rr_10 := cell_of_row _ _ 3 _ _ _ rr_10
                have r4_rr_10 := cell_of_row _ _ 4 _ _ _ rr_10
                have r5_rr_10 := cell_of_row _ _ 5 _ _ _ rr_10
                have r6_rr_10 := cell_of_row _ _ 6 _ _ _ rr_10
                have r7_rr_10 := cell_of_row _ _ 7 _ _ _ rr_10
                have r8_rr_10 := cell_of_row _ _ 8 _ _ _ rr_10
                have r9_rr_10 := cell_of_row _ _ 9 _ _ _ rr_10
                have f0_rr_10 := frozen_of_row _ _ 0 _ _ rr_10
                have f1_rr_10 := frozen_of_row _ _ 1 _ _ rr_10
                have f2_rr_10 := frozen_of_row _ _ 2 _ _ rr_10
                have f3_rr_10 := frozen_of_row _ _ 3 _ _ rr_10
                have f4_rr_10 := frozen_of_row _ _ 4 _ _ rr_10
                have f5_rr_10 := frozen_of_row _ _ 5 _ _ rr_10
                have f6_rr_10 := frozen_of_row _ _ 6 _ _ rr_10
                have f7_rr_10 := frozen_of_row _ _ 7 _ _ rr_10
                have f8_rr_10 := frozen_of_row _ _ 8 _ _ rr_10
                have f9_rr_10 := frozen_of_row _ _ 9 _ _ rr_10
                simp at r0_rr_10 r1_rr_10 r2_rr_10 r3_rr_10 r4_rr_10 r5_rr_10 r6_rr_10 r7_rr_10 r8_rr_10 r9_rr_10
                clear rr_10
                clear r0_rk_9 f0_rk_9 r1_rk_9 f1_rk_9 r2_rk_9 f2_rk_9 r3_rk_9 f3_rk_9 r4_rk_9 f4_rk_9 r5_rk_9 f5_rk_9 r6_rk_9 f6_rk_9 r7_rk_9 f7_rk_9 r8_rk_9 f8_rk_9 r9_rk_9 f9_rk_9
                clear r0_rm_9 f0_rm_9 r1_rm_9 f1_rm_9 r2_rm_9 f2_rm_9 r3_rm_9 f3_rm_9
                clear r0_rt_9 f0_rt_9 r1_rt_9 f1_rt_9 r2_rt_9 f2_rt_9
                clear r0_rr_9 f0_rr_9 r1_rr_9 f1_rr_9 r2_rr_9 f2_rr_9 r3_rr_9 f3_rr_9 r4_rr_9 f4_rr_9 r5_rr_9 f5_rr_9 r6_rr_9 f6_rr_9 r7_rr_9 f7_rr_9 r8_rr_9 f8_rr_9 r9_rr_9 f9_rr_9
                go_wp2_with fail
                go_ret
                exact ⟨by simp, hw10⟩

set_option maxRecDepth 100000 in
theorem FnCookie_lifted (os : Os) (started : os.Started) (H : Type) (enc : TypeId × Value → H) :
    ReturnsInHanded {} Try.checked os 3 .any (Rows.fnCookieSpec.pre6 enc Try.prog Try.f3 Rows.fnCookieRow.domain false) (Rows.fnCookieSpec.post enc Try.prog Try.f3 false true false false) := by
  refine law_lifted (C := Try.checked) own_ started (by kernel_rfl) Try.func3 laid_ rfl ?_ ?_ rfl Try.underlying4
    (ChangeSpec.witness6 (enc := enc) (C := Try.checked) false ⟨#[], #[.slice none 0 0], []⟩ 8 (by kernel_rfl) (by kernel_rfl) (by kernel_rfl) (by kernel_rfl)) ?_
  · intro ds h
    match ds, h with
    | [_], _ => rfl
  · intro t ht
    rw [Try.params3] at ht
    simp at ht
    subst ht
    exact ⟨by kernel_rfl, of_decide_eq_true (by kernel_rfl)⟩
  · intro W base args ds p hval hA hlt
    have hval : ∀ (j : Nat) t v, Try.f3.params[j]? = some t → args[j]? = some v → Value.okWide Try.prog W .any base t v := hval
    have hA : DataW.TrodAll enc Try.prog W 0 (fun _ => true) true Try.f3.params.toList args.toList ds p := hA
    rw [Try.params3] at hA hval
    obtain ⟨v0, d0, rfl, rfl, h0⟩ := trodAll_one hA
    obtain ⟨Aa, na, ca, rfl, wna, wba, wca⟩ := open_bytes (hval 0 22 v0 rfl rfl) h0
    exact FnCookie_walk wna W wba

theorem FnCookie_holds : Rows.FnCookieSaid :=
  OpenClaim.holds_of_wide 3 Try.f3 rfl rfl rfl rfl rfl rfl rfl ⟨rfl, rfl, rfl, rfl, rfl⟩ rfl rfl rfl rfl rfl (by kernel_rfl) Try.func3 (by kernel_rfl)
    (of_decide_eq_true (by kernel_rfl)) (by have hw := wrap_ (P := Try.prog) (fn := Try.f3) (by kernel_rfl); exact hw)
    (fun os started H enc _ => FnCookie_lifted os started H enc)
end Go.Proofs.Ytjlnbjabehpncaa
